/- ShelfSigma: sigma writes the last sigma of a word in its other form: where no letter of greek follows. Condition: Go's own variables are as their text lays them. -/
import Derived.Test.YtapechjebkjidaaGreatDoorCards
import Derived.Test.YtapechjebkjidaaGreatDoorRows
import Derived.Test.YtapechjebkjidaaGreatDoorShSigmaJ
import Derived.Test.YtapechjebkjidaaGreatDoorTie
import Derived.Test.YtapechjebkjidaaGreatDoorZs20
import Derived.Test.YtapechjebkjidaaGreatDoorZs3
import Derived.Test.YtapechjebkjidaaGreatDoorZs32
import Derived.Test.YtapechjebkjidaaGreatDoorZs45
set_option maxHeartbeats 3200000
set_option maxRecDepth 100000
namespace Go.Proofs.YtapechjebkjidaaGreatDoor
open Go.RowKit
/-! ### sigma -/
def sA:au:=⟨false,false,[],[[(963,963)]],[[(0,879),(1024,1114111)]],[962],1⟩
def sB:au:=⟨false,true,[],[[(963,963)]],[],[962],1⟩
def uo:List au:=[sA,sB]
def oV:List Int→Bool
  | y::_=>decide (y<880) || decide (1023<y)
  | []=>true
def rW:List Int→Bool
  | y::_=>decide (y<880) || decide (1023<y)
  | []=>false
def fm:List Int→List Int
  | []=>[]
  | x::t=>(if x=963∧oV t=true then 962 else x)::fm t
theorem iH (x:Int) (t:List Int):fm (x::t)=(if x=963∧oV t=true then 962 else x)::fm t:=rfl
theorem Qy (A Z:List Int) (z:Int) (hZ:∀ y∈Z,0≤y∧y≤1114111):bU sA (A++z::Z) A.length=(decide (z=963) && rW Z):=by
 rw [lK];simp only [sA,List.length_nil,List.length_singleton,Nat.zero_le,decide_true,bJ,oc,Bool.and_true,Bool.false_and,Bool.not_false,List.drop_one,List.tail_cons];congr 1;cases Z with
 | nil=>rfl
 | cons y t=>
  have:=hZ y List.mem_cons_self;simp only [bJ,Bool.and_true,rW];unfold bk;simp only [List.any_cons,List.any_nil,Bool.or_false];rw [Bool.eq_iff_iff];simp;omega
theorem QG (A Z:List Int) (z:Int):bU sB (A++z::Z) A.length=(decide (z=963) && decide (Z = [])):=by
 rw [lK];simp only [sB,List.length_nil,Nat.zero_le,decide_true,bJ,oc,Bool.and_true,Bool.false_and,Bool.not_false,Bool.true_and,List.length_cons];congr 1;cases Z <;> simp
theorem Jz:∀ (f:Nat) (Z A:List Int),Z.length≤f→(∀ y∈Z,0≤y∧y≤1114111)→cP uo f A Z=A++fm Z:=by
 intro f;induction f with
 | zero=>intro Z A h _;cases Z with | nil=>simp [cP,fm] | cons z Z=>simp at h
 | succ f ih=>
  intro Z A h hZ;cases Z with
  | nil=>simp [cP,fm]
  | cons z Z=>
   simp only [List.length_cons]at h;have hZ2:∀ y∈Z,0≤y∧y≤1114111:=fun y hy=>hZ y (List.mem_cons_of_mem _ hy);have h1:=Qy A Z z hZ2;have h2:=QG A Z z;rw [iH];by_cases hz:z=963∧oV Z=true
   ·rw [if_pos hz];obtain⟨rfl,sY⟩:=hz;have step:=ih Z (A++[962]) (by omega) hZ2;cases Z with
    | nil=>
     rw [iC (r:=sB) (by rw [uo,List.find?_cons,h1,List.find?_cons,h2];rfl) rfl];exact step.trans (by simp)
    | cons y t=>
     rw [iC (r:=sA) (by rw [uo,List.find?_cons,h1,show rW (y::t)=true from sY];rfl) rfl];exact step.trans (by simp)
   rw [if_neg hz];have e1:(decide (z=963) && rW Z)=false:=by
    rw [Bool.eq_false_iff];intro e;rw [Bool.and_eq_true,decide_eq_true_eq]at e;cases Z with
    | nil=>exact absurd e.2 (by decide)
    | cons y t=>exact hz e
   have e2:(decide (z=963) && decide (Z = []))=false:=by
    rw [Bool.eq_false_iff];intro e;rw [Bool.and_eq_true,decide_eq_true_eq,decide_eq_true_eq]at e;exact hz ⟨e.1,by rw [e.2];rfl⟩
   rw [ny (by rw [uo,List.find?_cons,h1,e1,List.find?_cons,h2,e2];rfl),ih _ _ (by omega) hZ2];simp
end Go.Proofs.YtapechjebkjidaaGreatDoor
namespace Go.Proofs.YtapechjebkjidaaGreatDoor
open Go.RowKit Go.Shelf
def GF:ByteArray:=⟨#[115,105,103,109,97]⟩
theorem FT:mc GF 14 (ji uo):=⟨by decide,by kernel_rfl,by kernel_rfl,by kernel_rfl,by kernel_rfl,by kernel_rfl,by kernel_rfl⟩
theorem EG:nE uo 1:=⟨by unfold zc;decide,by decide,by decide,by kernel_rfl,by kernel_rfl,by kernel_rfl,by kernel_rfl⟩
theorem Gl (s:ByteArray) (hs:(ay s 0).length≤1000) (nN:s.size≤100000) (w:World):Calls Tryz.prog 30 #[.string GF,.bool false,.string s] w (iq w (fm (ay s 0))) :=
  iE FT EG s hs nN _ (fun f h=>by rw [Jz f _ [] h (fun y hy=>jJ (List.all_eq_true.1 (fA s) y hy))];rfl) w
def Mo (w:World) (n:Nat) (L:List Int) (want i:Value) (wr:World):Prop:=∃ (j:Nat) (acc:List Int),j≤n∧i=.int .i64 j∧want=.string (pz acc)∧acc++fm (L.drop j)=fm L∧acc.length≤j∧Below w.heap.size w wr
theorem CZ (s:ByteArray) (w:World):Calls Tryz.prog 7 #[.string s] w fun e w'=>e=.returned (.bool true)∧Below w.heap.size w w':=by
 by_cases hs:s.size≤1000
 ·have FQ:=cZ s;have HR:=Lib.hid (fun(k:Nat) (r:Int) (h:(ay s 0)[k]? = some r)=>kT h);have LD:=Lib.hid (fA s);have GN:=Lib.hid (jj s w (by omega));have NW:=Lib.hid (fun(W:World)=>iM GF s _ (fun W=>Gl s (by omega) (by omega) W) W);have nO:=Lib.hid (fu s w);rw [decide_eq_true (show(s.size:Int)≤1000 by omega)]at nO;have OI:(ay s 0).length≤1000:=(by omega);generalize ay s 0=L at *;clear hs FQ;go_enter Tryz.func7,Tryz.ntmps7;go_wp2_with fail;refine nO.out.mono ?_;rintro e w0 ⟨rfl,rfl⟩;go_wp2_with fail;refine GN.out.mono ?_;rintro e w1 ⟨⟨v,rfl,ho⟩,aT⟩;obtain⟨n,hn⟩:∃ n,L.length=n:=⟨_,rfl⟩;unfold gN at ho;rw [hn]at ho;obtain⟨A,cp,rfl,_⟩:=aH ho;have HL:=Lib.hid (Rd.cj ho);have bT:=Lib.hid aT;clear ho aT;have HN:=Lib.hid hn;have PE:n≤1000:=(by omega);clear hn OI;go_wp2_with fail;go_loopw [4,14] (Mo w1 n L) (fun _ i _=>n - (intOf i).toNat);(case atStart=>exact⟨0,[],Nat.zero_le _,rfl,rfl,rfl,Nat.le_refl _,Below.refl _ _⟩);obtain⟨j,acc,hj,rfl,rfl,hF,hacc,hb⟩:=hrel;by_cases hlt:j<n
  ·obtain⟨r,hr⟩:∃ r,L[j]? = some r:=⟨_,List.getElem?_eq_getElem (by rw [HN.out];exact hlt)⟩;obtain⟨b,off,rfl,dL,hcells⟩:=HL.out.2 (by omega);have d0:wr.cell? ⟨b,off+j,none⟩=some (.int .i32 r):=(hb.cell (p:=⟨b,off+j,none⟩) dL).trans (hcells j _ (by rw [bC,hr];rfl));have rE:=HR.out j r hr;have HB:=Lib.hid hb;have HA:=Lib.hid hacc;have hsz:=bN acc;rw [drop_cons hr]at hF;have hwp:IntKind.i64.wrap ((j:Int)+1)=((j+1:Nat):Int):=(by rw [wrap_small _ (by omega) (by omega)];omega);by_cases h1:¬ r=963
   ·have q0:(r == 963)=false:=(by rw [beq_eq_false_iff_ne];exact h1);have hS:fm (r::L.drop (j+1)) = [r]++fm (L.drop (j+1)):=(by rw [iH,if_neg (fun e=>h1 e.1)];rfl);rw [hS]at hF;have HF:=Lib.hid hF;have HC:=Lib.hid (fun(W:World)=>de r rE W);have vc:=bN [r];have pM : [r].length=1:=rfl;clear hcells hb hF hS;go_wp2_with fail;refine(HC.out _).mono ?_;rintro e w2 ⟨rfl,aL⟩;have aW:=Lib.hid (HB.out.trans (aL.mono HB.out.size));clear aL;go_wp2_with fail;exact⟨⟨j+1,acc++[r],by omega,by go_num,by rw [ee],by rw [← HF.out,List.append_assoc],by rw [List.length_append];simp;have:=HA.out;omega,aW.out⟩,by simp [intOf];omega⟩
   obtain rfl:r=963:=Decidable.not_not.1 h1;by_cases h2:¬ j+1<n
   ·have q1:(((j+1:Nat):Int) ==(n:Int))=true:=(by rw [beq_iff_eq];omega);have hd:L.drop (j+1) = []:=List.drop_eq_nil_of_le (by rw [HN.out];omega);have hS:fm (963::L.drop (j+1)) = [962]++fm (L.drop (j+1)):=(by rw [iH,if_pos ⟨rfl,by rw [hd];rfl⟩];rfl);rw [hS]at hF;have HF:=Lib.hid hF;have HC:=Lib.hid (fun(W:World)=>de 962 (by decide) W);have vc:=bN [962];have pM : [962].length=1:=rfl;clear hcells hb hF hS hd;go_wp2_with fail;refine(HC.out _).mono ?_;rintro e w2 ⟨rfl,aL⟩;have aW:=Lib.hid (HB.out.trans (aL.mono HB.out.size));clear aL;go_wp2_with fail;exact⟨⟨j+1,acc++[962],by omega,by go_num,by rw [ee],by rw [← HF.out,List.append_assoc],by rw [List.length_append];simp;have:=HA.out;omega,aW.out⟩,by simp [intOf];omega⟩
   have q1:(((j+1:Nat):Int) ==(n:Int))=false:=(by rw [beq_eq_false_iff_ne];omega);obtain⟨y,hy⟩:∃ y,L[j+1]? = some y:=⟨_,List.getElem?_eq_getElem (by rw [HN.out];omega)⟩;have d1:wr.cell? ⟨b,off+(j+1),none⟩=some (.int .i32 y):=(HB.out.cell (p:=⟨b,off+(j+1),none⟩) dL).trans (hcells (j+1) _ (by rw [bC,hy];rfl));have hk0:(0:Int)≤((j+1:Nat):Int):=(by omega);have hk1:((j+1:Nat):Int)<(n:Int):=(by omega);have hd:=drop_cons hy;by_cases h3:y<880
   ·have hS:fm (963::L.drop (j+1)) = [962]++fm (L.drop (j+1)):=(by rw [iH,if_pos ⟨rfl,by rw [hd];simp [oV,h3]⟩];rfl);rw [hS]at hF;have HF:=Lib.hid hF;have HC:=Lib.hid (fun(W:World)=>de 962 (by decide) W);have vc:=bN [962];have pM : [962].length=1:=rfl;clear hcells hb hF hS hd hy;go_wp2_with fail;refine(HC.out _).mono ?_;rintro e w2 ⟨rfl,aL⟩;have aW:=Lib.hid (HB.out.trans (aL.mono HB.out.size));clear aL;go_wp2_with fail;exact⟨⟨j+1,acc++[962],by omega,by go_num,by rw [ee],by rw [← HF.out,List.append_assoc],by rw [List.length_append];simp;have:=HA.out;omega,aW.out⟩,by simp [intOf];omega⟩
   by_cases h4:1023<y
   ·have hS:fm (963::L.drop (j+1)) = [962]++fm (L.drop (j+1)):=(by rw [iH,if_pos ⟨rfl,by rw [hd];simp [oV,h4]⟩];rfl);rw [hS]at hF;have HF:=Lib.hid hF;have HC:=Lib.hid (fun(W:World)=>de 962 (by decide) W);have vc:=bN [962];have pM : [962].length=1:=rfl;clear hcells hb hF hS hd hy;go_wp2_with fail;refine(HC.out _).mono ?_;rintro e w2 ⟨rfl,aL⟩;have aW:=Lib.hid (HB.out.trans (aL.mono HB.out.size));clear aL;go_wp2_with fail;exact⟨⟨j+1,acc++[962],by omega,by go_num,by rw [ee],by rw [← HF.out,List.append_assoc],by rw [List.length_append];simp;have:=HA.out;omega,aW.out⟩,by simp [intOf];omega⟩
   have hS:fm (963::L.drop (j+1)) = [963]++fm (L.drop (j+1)):=(by rw [iH,if_neg (by rintro⟨_,e⟩;rw [hd]at e;simp [oV,h3,h4]at e)];rfl);rw [hS]at hF;have HF:=Lib.hid hF;have HC:=Lib.hid (fun(W:World)=>de 963 (by decide) W);have vc:=bN [963];have pM : [963].length=1:=rfl;clear hcells hb hF hS hd hy;go_wp2_with fail;refine(HC.out _).mono ?_;rintro e w2 ⟨rfl,aL⟩;have aW:=Lib.hid (HB.out.trans (aL.mono HB.out.size));clear aL;go_wp2_with fail;exact⟨⟨j+1,acc++[963],by omega,by go_num,by rw [ee],by rw [← HF.out,List.append_assoc],by rw [List.length_append];simp;have:=HA.out;omega,aW.out⟩,by simp [intOf];omega⟩
  obtain rfl:j=n:=(by omega);have HB:=Lib.hid hb;rw [List.drop_eq_nil_of_le (by rw [HN.out];exact Nat.le_refl _)]at hF;rw [fm,List.append_nil]at hF;subst hF;clear hb;go_wp2_with fail;refine(NW.out wr).mono ?_;rintro e w2 ⟨rfl,aL⟩;have aW:=Lib.hid (bT.out.trans ((HB.out.trans (aL.mono HB.out.size)).mono bT.out.size));clear aL;go_wp2_with fail;go_ret;exact⟨rfl,aW.out⟩
 have nO:=Lib.hid (fu s w);rw [decide_eq_false (show ¬(s.size:Int)≤1000 by omega)]at nO;clear hs;go_enter Tryz.func7,Tryz.ntmps7;go_wp2_with fail;refine nO.out.mono ?_;rintro e w0 ⟨rfl,rfl⟩;go_wp2_with fail;go_ret;exact⟨rfl,Below.refl _ _⟩
end Go.Proofs.YtapechjebkjidaaGreatDoor
namespace Go.Proofs.YtapechjebkjidaaGreatDoor
theorem bulk_one {H:Type} (d:DataW H):1≤Rows.uptoBulk d:=by
 cases d with
 | lit l=>cases l <;> simp [Rows.uptoBulk]
 | nil=>simp [Rows.uptoBulk]
 | ptr d=>simp [Rows.uptoBulk]
 | slice elems spare=>simp [Rows.uptoBulk]
 | agg parts=>simp [Rows.uptoBulk]
 | iface t d=>simp [Rows.uptoBulk]
 | map entries=>simp [Rows.uptoBulk]
 | held h=>simp [Rows.uptoBulk]
theorem bulk_len {H:Type} (l:List (DataW H)):l.length≤Rows.uptoBulkAll l:=by
 induction l with
 | nil=>simp
 | cons x r ih=>have:=bulk_one x;simp only [Rows.uptoBulkAll,List.length_cons];omega
theorem bulk_slice {H:Type} {d:DataW H} {c:Nat} (h:(d=.nil∧c=0)∨∃ elems spare,d=.slice elems spare∧elems.length+spare.length=c):c≤Rows.uptoBulk d:=by
 rcases h with ⟨_,rfl⟩ | ⟨elems,spare,rfl,rfl⟩;exact Nat.zero_le _;have h1:=bulk_len elems;have h2:=bulk_len spare;simp only [Rows.uptoBulk];omega
theorem bulk_string {H:Type} (s:ByteArray):s.size≤Rows.uptoBulk (DataW.lit (H:=H) (.string s.data.toList)):=by
 have e:s.data.toList.length=s.size:=(by rw [Array.length_toList];rfl);simp only [Rows.uptoBulk];omega
theorem bulk_bound {H:Type} {l:List (DataW H)} (hk:Rows.uptoSmall H l=true):Rows.uptoBulkAll l≤1048576:=of_decide_eq_true hk
end Go.Proofs.YtapechjebkjidaaGreatDoor
namespace Go.Proofs.YtapechjebkjidaaGreatDoor
open Go.RowKit Go.ChangeShapes Go.WideShapes Go.ChangeAt Go.Shelf
open Go.ChangeMaps (open_string shut_string)
theorem tf (os:Os) {H:Type} (enc:TypeId × Value→H) :
    (OpenSpec.ofChange Rows.shelfSigmaSpec).preRow enc Tryz.prog Tryz.f7 Rows.shelfSigmaRow.domain false Rows.shelfSigmaRow.laid ((cy os).forCall (fun _ _=>0) ⟨#[],#[.string ⟨#[]⟩],[]⟩).memory #[.string ⟨#[]⟩]:=by
 have hw:(DataW.whole enc Tryz.prog ((cy os).forCall (fun _ _=>0) ⟨#[],#[.string ⟨#[]⟩],[]⟩).memory Tryz.f7.params.toList Rows.shelfSigmaSpec.vars false #[.string ⟨#[]⟩].toList 8).map (fun x=>(x.1,x.2.1)) =
     some ([.lit (.string [])],[]):=by kernel_rfl
 obtain⟨⟨x1,x2,x3⟩,hx,hx1⟩:=Option.map_eq_some_iff.1 hw;simp only [Prod.mk.injEq]at hx1;obtain⟨rfl,rfl⟩:=hx1;exact OpenSpec.preRow_of_cond 8 hx (by kernel_rfl) (fun k hk=>by cases hk) (by kernel_rfl) (mz os _)
theorem rH (os:Os) (started:os.Started) (H:Type) (enc:TypeId × Value→H) (F:Stop.Interp) :
    ReturnsInHanded {} Tryz.checked os 7 .any ((OpenSpec.ofChange Rows.shelfSigmaSpec).preRow enc Tryz.prog Tryz.f7 Rows.shelfSigmaRow.domain false Rows.shelfSigmaRow.laid) (((OpenSpec.ofChange Rows.shelfSigmaSpec).at F).post enc Tryz.prog Tryz.f7 false true false false):=by
 refine returnsInHanded_of_row (C:=Tryz.checked) (s:=(OpenSpec.ofChange Rows.shelfSigmaSpec)) mF started (by kernel_rfl) Tryz.func7
   (witness_row_atRef (enc:=enc) (C:=Tryz.checked) false (cy os) #[.string ⟨#[]⟩] rfl (by kernel_rfl) (by kernel_rfl) (by kernel_rfl) (tf os enc)) ?_
 intro W base args ds gs before hval hW _ _ _ _ _ _;have Ny:=hW;obtain⟨p,q,CS,hV,rfl,hfz,hnd⟩:=hW;have hA:DataW.TrodAll enc Tryz.prog W 0 (fun _=>true) true Tryz.f7.params.toList args.toList ds p:=CS;have ng:∀ (j:Nat) t v,Tryz.f7.params[j]? = some t→args[j]? = some v→Value.okWide Tryz.prog W .any base t v:=hval;rw [Tryz.params7]at hA ng;obtain⟨v0,d0,rfl,rfl,h0⟩:=trodAll_one hA;obtain⟨rfl,rfl⟩:=trodVars_none hV;obtain⟨s0,rfl,rfl,rfl,hs0⟩:=open_string Tryz.underlying9 (ng 0 _ v0 rfl rfl) h0;refine(CZ s0 W).mono fun e W' ⟨he,hb⟩=>⟨_,he,?_⟩;exact kV Tryz.underlying4 rfl rfl mQ (by kernel_rfl) Ny rfl hb
theorem vg:Rows.ShelfSigmaSaid :=
  OpenClaim.holds_of_cond 7 Tryz.f7 rfl rfl rfl rfl rfl rfl rfl ⟨rfl,rfl,rfl,rfl,rfl⟩ rfl rfl rfl rfl rfl (by kernel_rfl) Tryz.func7 shelfsigma_joined
    (of_decide_eq_true (by kernel_rfl)) (by unfold Func.isWrapper;first | (rw [if_pos (by decide +kernel)];kernel_rfl) | (rw [if_neg (by decide +kernel)];exact⟨rfl,rfl⟩))
    (fun os started H enc _ F=>by rw [OpenClaim.pre_eq_preRow];exact rH os started H enc F)
theorem um (f:FuncId) (fn:Func) (hf : Tryz.pinned.checked.prog.funcNamed "scriptshift/scriptlaw16.ShelfSigma" = some f) (hfn : Tryz.pinned.checked.prog.funcs[f]? = some fn) :
    true = Tryz.pinned.checked.prog.looks []∧∀ (j:Nat) t,fn.params[j]? = some t → Tryz.pinned.checked.prog.wantsStandIn t=false:=by
 obtain rfl:f = 7:=Option.some.inj ((show Tryz.prog.funcNamed "scriptshift/scriptlaw16.ShelfSigma" = some 7 by kernel_rfl).symm.trans hf) |>.symm;obtain rfl:fn = Tryz.f7:=(Option.some.inj (Tryz.func7.symm.trans hfn)).symm;refine⟨by kernel_rfl,fun j t ht=>?_⟩;have h:(Tryz.f7.params.toList.all fun t=>!Tryz.prog.wantsStandIn t)=true:=(by kernel_rfl);have h2:=List.all_eq_true.1 h t (by simpa using Array.mem_of_getElem? ht);have h3 : Tryz.prog.wantsStandIn t=false:=(by simpa using h2);exact h3
/-- THE CARD. -/
theorem shelfsigma_card:Rows.ShelfSigmaCardSaid :=
  Claim7.holds_tied_plain_at .later [] _ _ _ _ vg (fun _ h=>by cases h) (by kernel_rfl) (fun _ h=>by cases h) shelfSigma_row_tie rfl ⟨rfl,rfl⟩ (by kernel_rfl) rfl um (by kernel_rfl)
end Go.Proofs.YtapechjebkjidaaGreatDoor
