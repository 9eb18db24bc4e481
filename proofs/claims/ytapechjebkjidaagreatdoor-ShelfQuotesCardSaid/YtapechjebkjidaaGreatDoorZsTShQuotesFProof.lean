/- ShelfQuotes: quotes writes a straight quote as one that opens at the text's beginning and behind a blank, as one that closes elsewhere. Condition: Go's own variables are as their text lays them. -/
import Derived.Test.YtapechjebkjidaaGreatDoorCards
import Derived.Test.YtapechjebkjidaaGreatDoorRows
import Derived.Test.YtapechjebkjidaaGreatDoorShQuotesJ
import Derived.Test.YtapechjebkjidaaGreatDoorTie
import Derived.Test.YtapechjebkjidaaGreatDoorZs20
import Derived.Test.YtapechjebkjidaaGreatDoorZs3
import Derived.Test.YtapechjebkjidaaGreatDoorZs32
import Derived.Test.YtapechjebkjidaaGreatDoorZs45
set_option maxHeartbeats 3200000
set_option maxRecDepth 100000
namespace Go.Proofs.YtapechjebkjidaaGreatDoor
open Go.RowKit
/-! ### quotes -/
def qA:au:=⟨true,false,[],[[(34,34)]],[],[8220],1⟩
def qB:au:=⟨false,false,[[(32,32)]],[[(34,34)]],[],[8220],1⟩
def qC:au:=⟨false,false,[],[[(34,34)]],[],[8221],1⟩
def lQ:List au:=[qA,qB,qC]
/-- What quotes leaves of a text behind a rune (none: its beginning). -/
def dR:Option Int→List Int→List Int
  | _,[]=>[]
  | prev,x::t=>(if x=34 then (if prev=none∨prev=some 32 then 8220 else 8221)else x)::dR (some x) t
theorem vV (A Z:List Int) (z:Int):bU qA (A++z::Z) A.length=(decide (z=34) && decide (A.length=0)):=by
 rw [lK];simp only [qA,List.length_nil,List.length_singleton,Nat.zero_le,decide_true,bJ,oc,Bool.true_and,Bool.and_true,Bool.false_and,Bool.not_false];simp
theorem BY (A Z:List Int) (z:Int):bU qB (A++z::Z) A.length=(decide (z=34) && (match A.getLast? with | some x=>decide (x=32) | none=>false)):=by
 show bU ⟨false,false,[[(32,32)]],[[(34,34)]],[],[8220],1⟩ _ _=_;rw [lK];simp only [List.length_singleton];rw [AR];cases A.getLast? <;> simp only [bJ,oc,Bool.and_true,Bool.false_and,Bool.not_false]
theorem Il (A Z:List Int) (z:Int):bU qC (A++z::Z) A.length=decide (z=34):=by
 rw [lK];simp only [qC,List.length_nil,Nat.zero_le,decide_true,bJ,oc,Bool.and_true,Bool.false_and,Bool.not_false]
theorem Gp:∀ (f:Nat) (Z A:List Int) (prev:Option Int),Z.length≤f→(A = []↔prev=none)→(A.getLast? = some 32↔prev=some 32)→cP lQ f A Z=A++dR prev Z:=by
 intro f;induction f with
 | zero=>intro Z A prev h _ _;cases Z with | nil=>simp [cP,dR] | cons z Z=>simp at h
 | succ f ih=>
  intro Z A prev h h1 h2;cases Z with
  | nil=>simp [cP,dR]
  | cons z Z=>
   simp only [List.length_cons]at h;have hq:(match A.getLast? with | some x=>decide (x=32) | none=>false)=decide (prev=some 32):=by
    cases hg:A.getLast? with
    | none=>rw [hg]at h2;simp only;rw [eq_comm,decide_eq_false_iff_not];intro e;exact absurd (h2.2 e) (by simp)
    | some x=>rw [hg]at h2;simp only [Option.some.injEq]at h2;simp only [decide_eq_decide];exact h2
   have hl:decide (A.length=0)=decide (prev=none):=by
    simp only [decide_eq_decide,List.length_eq_zero_iff];exact h1
   rw [dR];by_cases hz:z=34
   ·subst hz;have step:∀ t:Int,(t=8220∨t=8221)→cP lQ f (A++[t]) Z=(A++[t])++dR (some 34) Z:=by
     intro t ht;refine ih Z (A++[t]) (some 34) (by omega) (by simp) ?_;rw [Am];simp;omega
    by_cases hp:prev=none
    ·rw [iC (r:=qA) (by rw [lQ,List.find?_cons,vV,hl,hp];rfl) rfl,if_pos rfl,if_pos (.inl hp)];exact(step 8220 (.inl rfl)).trans (by simp)
    by_cases hb:prev=some 32
    ·rw [iC (r:=qB) (by rw [lQ,List.find?_cons,vV,hl,decide_eq_false hp,List.find?_cons,BY,hq,hb];rfl) rfl,if_pos rfl,if_pos (.inr hb)];exact(step 8220 (.inl rfl)).trans (by simp)
    rw [iC (r:=qC) (by rw [lQ,List.find?_cons,vV,hl,decide_eq_false hp,List.find?_cons,BY,hq,decide_eq_false hb,List.find?_cons,Il];rfl) rfl,if_pos rfl,if_neg (by simp [hp,hb])];exact(step 8221 (.inr rfl)).trans (by simp)
   rw [ny (by rw [lQ,List.find?_cons,vV,List.find?_cons,BY,List.find?_cons,Il,decide_eq_false hz];rfl),if_neg hz];rw [ih Z (A++[z]) (some z) (by omega) (by simp) (by rw [Am])];simp
end Go.Proofs.YtapechjebkjidaaGreatDoor
namespace Go.Proofs.YtapechjebkjidaaGreatDoor
open Go.RowKit Go.Shelf
def Bw:ByteArray:=⟨#[113,117,111,116,101,115]⟩
theorem Ex:mc Bw 12 (ji lQ):=⟨by decide,by kernel_rfl,by kernel_rfl,by kernel_rfl,by kernel_rfl,by kernel_rfl,by kernel_rfl⟩
theorem CP:nE lQ 1:=⟨by unfold zc;decide,by decide,by decide,by kernel_rfl,by kernel_rfl,by kernel_rfl,by kernel_rfl⟩
theorem EE (s:ByteArray) (hs:(ay s 0).length≤1000) (nN:s.size≤100000) (w:World):Calls Tryz.prog 30 #[.string Bw,.bool false,.string s] w (iq w (dR none (ay s 0))) :=
  iE Ex CP s hs nN _ (fun f h=>by rw [Gp f _ [] none h (by simp) (by simp)];rfl) w
def lS (L:List Int) (j:Nat):Option Int:=if j=0 then none else L[j - 1]?
theorem j9 (p:Option Int) (x:Int) (t:List Int):dR p (x::t)=(if x=34 then (if p=none∨p=some 32 then 8220 else 8221)else x)::dR (some x) t:=rfl
def Kv (w:World) (n:Nat) (L:List Int) (want i:Value) (wr:World):Prop:=∃ (j:Nat) (acc:List Int),j≤n∧i=.int .i64 j∧want=.string (pz acc)∧acc++dR (lS L j) (L.drop j)=dR none L∧acc.length≤j∧Below w.heap.size w wr
theorem BE (s:ByteArray) (w:World):Calls Tryz.prog 12 #[.string s] w fun e w'=>e=.returned (.bool true)∧Below w.heap.size w w':=by
 by_cases hs:s.size≤1000
 ·have FQ:=cZ s;have HR:=Lib.hid (fun(k:Nat) (r:Int) (h:(ay s 0)[k]? = some r)=>kT h);have LD:=Lib.hid (fA s);have GN:=Lib.hid (jj s w (by omega));have NW:=Lib.hid (fun(W:World)=>iM Bw s _ (fun W=>EE s (by omega) (by omega) W) W);have nO:=Lib.hid (fu s w);rw [decide_eq_true (show(s.size:Int)≤1000 by omega)]at nO;have OI:(ay s 0).length≤1000:=(by omega);generalize ay s 0=L at *;clear hs FQ;go_enter Tryz.func12,Tryz.ntmps12;go_wp2_with fail;refine nO.out.mono ?_;rintro e w0 ⟨rfl,rfl⟩;go_wp2_with fail;refine GN.out.mono ?_;rintro e w1 ⟨⟨v,rfl,ho⟩,aT⟩;obtain⟨n,hn⟩:∃ n,L.length=n:=⟨_,rfl⟩;unfold gN at ho;rw [hn]at ho;obtain⟨A,cp,rfl,_⟩:=aH ho;have HL:=Lib.hid (Rd.cj ho);have bT:=Lib.hid aT;clear ho aT;have HN:=Lib.hid hn;have PE:n≤1000:=(by omega);clear hn OI;go_wp2_with fail;go_loopw [4,14] (Kv w1 n L) (fun _ i _=>n - (intOf i).toNat);(case atStart=>exact⟨0,[],Nat.zero_le _,rfl,rfl,rfl,Nat.le_refl _,Below.refl _ _⟩);obtain⟨j,acc,hj,rfl,rfl,hF,hacc,hb⟩:=hrel;by_cases hlt:j<n
  ·obtain⟨r,hr⟩:∃ r,L[j]? = some r:=⟨_,List.getElem?_eq_getElem (by rw [HN.out];exact hlt)⟩;obtain⟨b,off,rfl,dL,hcells⟩:=HL.out.2 (by omega);have d0:wr.cell? ⟨b,off+j,none⟩=some (.int .i32 r):=(hb.cell (p:=⟨b,off+j,none⟩) dL).trans (hcells j _ (by rw [bC,hr];rfl));have rE:=HR.out j r hr;have HB:=Lib.hid hb;have HA:=Lib.hid hacc;have hsz:=bN acc;rw [drop_cons hr]at hF;have hp:lS L (j+1)=some r:=(by unfold lS;rw [if_neg (by omega)];exact hr);by_cases h1:¬ r=34
   ·have q0:(r == 34)=false:=(by rw [beq_eq_false_iff_ne];exact h1);have hS:dR (lS L j) (r::L.drop (j+1)) = [r]++dR (lS L (j+1)) (L.drop (j+1)):=(by rw [j9,if_neg h1,hp];rfl);rw [hS]at hF;have HF:=Lib.hid hF;have HC:=Lib.hid (fun(W:World)=>de r rE W);have vc:=bN [r];have pM : [r].length=1:=rfl;clear hcells hb hF hS hp;go_wp2_with fail;refine(HC.out _).mono ?_;rintro e w2 ⟨rfl,aL⟩;have aW:=Lib.hid (HB.out.trans (aL.mono HB.out.size));clear aL;go_wp2_with fail;exact⟨⟨j+1,acc++[r],by omega,by go_num,by rw [ee],by rw [← HF.out,List.append_assoc],by rw [List.length_append];simp;have:=HA.out;omega,aW.out⟩,by simp [intOf];omega⟩
   obtain rfl:r=34:=Decidable.not_not.1 h1;by_cases h2:j=0
   ·have q1:((j:Int) == 0)=true:=(by rw [beq_iff_eq];omega);have hS:dR (lS L j) (34::L.drop (j+1)) = [8220]++dR (lS L (j+1)) (L.drop (j+1)):=(by rw [j9,if_pos rfl,if_pos (.inl (by unfold lS;rw [if_pos h2])),hp];rfl);rw [hS]at hF;have HF:=Lib.hid hF;have HC:=Lib.hid (fun(W:World)=>de 8220 (by decide) W);have vc:=bN [8220];have pM : [8220].length=1:=rfl;clear hcells hb hF hS hp h2;go_wp2_with fail;refine(HC.out _).mono ?_;rintro e w2 ⟨rfl,aL⟩;have aW:=Lib.hid (HB.out.trans (aL.mono HB.out.size));clear aL;go_wp2_with fail;exact⟨⟨j+1,acc++[8220],by omega,by go_num,by rw [ee],by rw [← HF.out,List.append_assoc],by rw [List.length_append];simp;have:=HA.out;omega,aW.out⟩,by simp [intOf];omega⟩
   have q1:((j:Int) == 0)=false:=(by rw [beq_eq_false_iff_ne];omega);obtain⟨k,hk⟩:∃ k,j=k+1:=⟨j - 1,by omega⟩;have hwp:IntKind.i64.wrap ((j:Int) - 1)=(k:Int):=(by rw [wrap_small _ (by omega) (by omega)];omega);obtain⟨y,hy⟩:∃ y,L[k]? = some y:=⟨_,List.getElem?_eq_getElem (by rw [HN.out];omega)⟩;have d1:wr.cell? ⟨b,off+k,none⟩=some (.int .i32 y):=(HB.out.cell (p:=⟨b,off+k,none⟩) dL).trans (hcells k _ (by rw [bC,hy];rfl));have hk0:(0:Int)≤(k:Int):=(by omega);have hk1:(k:Int)<(n:Int):=(by omega);have OA:lS L j=some y:=(by unfold lS;rw [if_neg h2,hk];exact hy);by_cases h3:y=32
   ·subst h3;have hS:dR (lS L j) (34::L.drop (j+1)) = [8220]++dR (lS L (j+1)) (L.drop (j+1)):=(by rw [j9,if_pos rfl,if_pos (.inr OA),hp];rfl);rw [hS]at hF;have HF:=Lib.hid hF;have HC:=Lib.hid (fun(W:World)=>de 8220 (by decide) W);have vc:=bN [8220];have pM : [8220].length=1:=rfl;clear hcells hb hF hS hp OA hy hk;go_wp2_with fail;refine(HC.out _).mono ?_;rintro e w2 ⟨rfl,aL⟩;have aW:=Lib.hid (HB.out.trans (aL.mono HB.out.size));clear aL;go_wp2_with fail;exact⟨⟨j+1,acc++[8220],by omega,by go_num,by rw [ee],by rw [← HF.out,List.append_assoc],by rw [List.length_append];simp;have:=HA.out;omega,aW.out⟩,by simp [intOf];omega⟩
   have q2:(y == 32)=false:=(by rw [beq_eq_false_iff_ne];exact h3);have hS:dR (lS L j) (34::L.drop (j+1)) = [8221]++dR (lS L (j+1)) (L.drop (j+1)):=(by rw [j9,if_pos rfl,if_neg (by rw [OA];rintro(e | e);cases e;injection e with e;exact h3 e),hp];rfl);rw [hS]at hF;have HF:=Lib.hid hF;have HC:=Lib.hid (fun(W:World)=>de 8221 (by decide) W);have vc:=bN [8221];have pM : [8221].length=1:=rfl;clear hcells hb hF hS hp OA hy hk;go_wp2_with fail;refine(HC.out _).mono ?_;rintro e w2 ⟨rfl,aL⟩;have aW:=Lib.hid (HB.out.trans (aL.mono HB.out.size));clear aL;go_wp2_with fail;exact⟨⟨j+1,acc++[8221],by omega,by go_num,by rw [ee],by rw [← HF.out,List.append_assoc],by rw [List.length_append];simp;have:=HA.out;omega,aW.out⟩,by simp [intOf];omega⟩
  obtain rfl:j=n:=(by omega);have HB:=Lib.hid hb;rw [List.drop_eq_nil_of_le (by rw [HN.out];exact Nat.le_refl _)]at hF;rw [dR,List.append_nil]at hF;subst hF;clear hb;go_wp2_with fail;refine(NW.out wr).mono ?_;rintro e w2 ⟨rfl,aL⟩;have aW:=Lib.hid (bT.out.trans ((HB.out.trans (aL.mono HB.out.size)).mono bT.out.size));clear aL;go_wp2_with fail;go_ret;exact⟨rfl,aW.out⟩
 have nO:=Lib.hid (fu s w);rw [decide_eq_false (show ¬(s.size:Int)≤1000 by omega)]at nO;clear hs;go_enter Tryz.func12,Tryz.ntmps12;go_wp2_with fail;refine nO.out.mono ?_;rintro e w0 ⟨rfl,rfl⟩;go_wp2_with fail;go_ret;exact⟨rfl,Below.refl _ _⟩
end Go.Proofs.YtapechjebkjidaaGreatDoor
namespace Go.Proofs.YtapechjebkjidaaGreatDoor
theorem bulk_one {H:Type} (d:DataW H):1≤Rows.uptoBulk d:=by
 cases d with
 | lit l=>cases l <;> simp [Rows.uptoBulk]
 | nil=>simp [Rows.uptoBulk]
 | ptr d=>simp [Rows.uptoBulk]
 | slice elems spare=>simp [Rows.uptoBulk]
 | agg parts=>simp [Rows.uptoBulk]
 | iface t d=>simp [Rows.uptoBulk]
 | map entries=>simp [Rows.uptoBulk]
 | held h=>simp [Rows.uptoBulk]
theorem bulk_len {H:Type} (l:List (DataW H)):l.length≤Rows.uptoBulkAll l:=by
 induction l with
 | nil=>simp
 | cons x r ih=>have:=bulk_one x;simp only [Rows.uptoBulkAll,List.length_cons];omega
theorem bulk_slice {H:Type} {d:DataW H} {c:Nat} (h:(d=.nil∧c=0)∨∃ elems spare,d=.slice elems spare∧elems.length+spare.length=c):c≤Rows.uptoBulk d:=by
 rcases h with ⟨_,rfl⟩ | ⟨elems,spare,rfl,rfl⟩;exact Nat.zero_le _;have h1:=bulk_len elems;have h2:=bulk_len spare;simp only [Rows.uptoBulk];omega
theorem bulk_string {H:Type} (s:ByteArray):s.size≤Rows.uptoBulk (DataW.lit (H:=H) (.string s.data.toList)):=by
 have e:s.data.toList.length=s.size:=(by rw [Array.length_toList];rfl);simp only [Rows.uptoBulk];omega
theorem bulk_bound {H:Type} {l:List (DataW H)} (hk:Rows.uptoSmall H l=true):Rows.uptoBulkAll l≤1048576:=of_decide_eq_true hk
end Go.Proofs.YtapechjebkjidaaGreatDoor
namespace Go.Proofs.YtapechjebkjidaaGreatDoor
open Go.RowKit Go.ChangeShapes Go.WideShapes Go.ChangeAt Go.Shelf
open Go.ChangeMaps (open_string shut_string)
theorem sO (os:Os) {H:Type} (enc:TypeId × Value→H) :
    (OpenSpec.ofChange Rows.shelfQuotesSpec).preRow enc Tryz.prog Tryz.f12 Rows.shelfQuotesRow.domain false Rows.shelfQuotesRow.laid ((cy os).forCall (fun _ _=>0) ⟨#[],#[.string ⟨#[]⟩],[]⟩).memory #[.string ⟨#[]⟩]:=by
 have hw:(DataW.whole enc Tryz.prog ((cy os).forCall (fun _ _=>0) ⟨#[],#[.string ⟨#[]⟩],[]⟩).memory Tryz.f12.params.toList Rows.shelfQuotesSpec.vars false #[.string ⟨#[]⟩].toList 8).map (fun x=>(x.1,x.2.1)) =
     some ([.lit (.string [])],[]):=by kernel_rfl
 obtain⟨⟨x1,x2,x3⟩,hx,hx1⟩:=Option.map_eq_some_iff.1 hw;simp only [Prod.mk.injEq]at hx1;obtain⟨rfl,rfl⟩:=hx1;exact OpenSpec.preRow_of_cond 8 hx (by kernel_rfl) (fun k hk=>by cases hk) (by kernel_rfl) (mz os _)
theorem qI (os:Os) (started:os.Started) (H:Type) (enc:TypeId × Value→H) (F:Stop.Interp) :
    ReturnsInHanded {} Tryz.checked os 12 .any ((OpenSpec.ofChange Rows.shelfQuotesSpec).preRow enc Tryz.prog Tryz.f12 Rows.shelfQuotesRow.domain false Rows.shelfQuotesRow.laid) (((OpenSpec.ofChange Rows.shelfQuotesSpec).at F).post enc Tryz.prog Tryz.f12 false true false false):=by
 refine returnsInHanded_of_row (C:=Tryz.checked) (s:=(OpenSpec.ofChange Rows.shelfQuotesSpec)) mF started (by kernel_rfl) Tryz.func12
   (witness_row_atRef (enc:=enc) (C:=Tryz.checked) false (cy os) #[.string ⟨#[]⟩] rfl (by kernel_rfl) (by kernel_rfl) (by kernel_rfl) (sO os enc)) ?_
 intro W base args ds gs before hval hW _ _ _ _ _ _;have Ny:=hW;obtain⟨p,q,CS,hV,rfl,hfz,hnd⟩:=hW;have hA:DataW.TrodAll enc Tryz.prog W 0 (fun _=>true) true Tryz.f12.params.toList args.toList ds p:=CS;have ng:∀ (j:Nat) t v,Tryz.f12.params[j]? = some t→args[j]? = some v→Value.okWide Tryz.prog W .any base t v:=hval;rw [Tryz.params12]at hA ng;obtain⟨v0,d0,rfl,rfl,h0⟩:=trodAll_one hA;obtain⟨rfl,rfl⟩:=trodVars_none hV;obtain⟨s0,rfl,rfl,rfl,hs0⟩:=open_string Tryz.underlying9 (ng 0 _ v0 rfl rfl) h0;refine(BE s0 W).mono fun e W' ⟨he,hb⟩=>⟨_,he,?_⟩;exact kV Tryz.underlying4 rfl rfl mQ (by kernel_rfl) Ny rfl hb
theorem tN:Rows.ShelfQuotesSaid :=
  OpenClaim.holds_of_cond 12 Tryz.f12 rfl rfl rfl rfl rfl rfl rfl ⟨rfl,rfl,rfl,rfl,rfl⟩ rfl rfl rfl rfl rfl (by kernel_rfl) Tryz.func12 shelfquotes_joined
    (of_decide_eq_true (by kernel_rfl)) (by unfold Func.isWrapper;first | (rw [if_pos (by decide +kernel)];kernel_rfl) | (rw [if_neg (by decide +kernel)];exact⟨rfl,rfl⟩))
    (fun os started H enc _ F=>by rw [OpenClaim.pre_eq_preRow];exact qI os started H enc F)
theorem rM (f:FuncId) (fn:Func) (hf : Tryz.pinned.checked.prog.funcNamed "scriptshift/scriptlaw16.ShelfQuotes" = some f) (hfn : Tryz.pinned.checked.prog.funcs[f]? = some fn) :
    true = Tryz.pinned.checked.prog.looks []∧∀ (j:Nat) t,fn.params[j]? = some t → Tryz.pinned.checked.prog.wantsStandIn t=false:=by
 obtain rfl:f = 12:=Option.some.inj ((show Tryz.prog.funcNamed "scriptshift/scriptlaw16.ShelfQuotes" = some 12 by kernel_rfl).symm.trans hf) |>.symm;obtain rfl:fn = Tryz.f12:=(Option.some.inj (Tryz.func12.symm.trans hfn)).symm;refine⟨by kernel_rfl,fun j t ht=>?_⟩;have h:(Tryz.f12.params.toList.all fun t=>!Tryz.prog.wantsStandIn t)=true:=(by kernel_rfl);have h2:=List.all_eq_true.1 h t (by simpa using Array.mem_of_getElem? ht);have h3 : Tryz.prog.wantsStandIn t=false:=(by simpa using h2);exact h3
/-- THE CARD. -/
theorem shelfquotes_card:Rows.ShelfQuotesCardSaid :=
  Claim7.holds_tied_plain_at .later [] _ _ _ _ tN (fun _ h=>by cases h) (by kernel_rfl) (fun _ h=>by cases h) shelfQuotes_row_tie rfl ⟨rfl,rfl⟩ (by kernel_rfl) rfl rM (by kernel_rfl)
end Go.Proofs.YtapechjebkjidaaGreatDoor
