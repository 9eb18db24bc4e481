/- ShelfBlanks: blanks leaves one of blanks that stand together, and all else; and a text that it made stays. Condition: Go's own variables are as their text lays them. -/
import Derived.Test.YtapechjebkjidaaGreatDoorCards
import Derived.Test.YtapechjebkjidaaGreatDoorRows
import Derived.Test.YtapechjebkjidaaGreatDoorShBlanksJ
import Derived.Test.YtapechjebkjidaaGreatDoorTie
import Derived.Test.YtapechjebkjidaaGreatDoorZs20
import Derived.Test.YtapechjebkjidaaGreatDoorZs3
import Derived.Test.YtapechjebkjidaaGreatDoorZs32
import Derived.Test.YtapechjebkjidaaGreatDoorZs45
set_option maxHeartbeats 3200000
set_option maxRecDepth 100000
namespace Go.Proofs.YtapechjebkjidaaGreatDoor
open Go.RowKit
/-! ### blanks -/
def so:List au:=[⟨false,false,[[(32,32)]],[[(32,32)]],[],[],0⟩]
def bK:Int→List Int→List Int
  | _,[]=>[]
  | last,x::t=>(if x≠32∨last≠32 then [x]else [])++bK x t
theorem aaD (x:Int):bk [(32,32)] x=decide (x=32):=by
 unfold bk;simp only [List.any_cons,List.any_nil,Bool.or_false];rw [Bool.eq_iff_iff];simp;omega
theorem Gr:∀ (f:Nat) (Z A:List Int) (last:Int),Z.length≤f→(A.getLast? = some 32↔last=32)→cP so f A Z=A++bK last Z:=by
 intro f;induction f with
 | zero=>intro Z A last h _;cases Z with | nil=>simp [cP,bK] | cons z Z=>simp at h
 | succ f ih=>
  intro Z A last h hA;cases Z with
  | nil=>simp [cP,bK]
  | cons z Z=>
   simp only [List.length_cons]at h;have hh:bU ⟨false,false,[[(32,32)]],[[(32,32)]],[],[],0⟩ (A++z::Z) A.length=(decide (z=32) && decide (last=32)):=by
    rw [lK];simp only [List.length_singleton];rw [AR];simp only [bJ,aaD,Bool.false_and,Bool.not_false,Bool.and_true];congr 1;cases hg:A.getLast? with
    | none=>rw [hg]at hA;simp only [Bool.false_eq];rw [decide_eq_false];intro e;exact absurd (hA.2 e) (by simp)
    | some x=>rw [hg]at hA;simp only;simp only [Option.some.injEq]at hA;simp only [decide_eq_decide];exact hA
   rw [bK];by_cases hz:z=32∧last=32
   ·obtain⟨rfl,rfl⟩:=hz;rw [iC (r:=⟨false,false,[[(32,32)]],[[(32,32)]],[],[],0⟩) (by rw [so,List.find?_cons,hh];rfl) rfl];simp only [List.append_nil];rw [if_neg (by simp),List.nil_append];exact ih _ _ _ (by simp;omega) hA
   rw [ny (by rw [so,List.find?_cons,hh];simp only [List.find?_nil];split <;> simp_all),if_pos (by omega),ih Z (A++[z]) z (by omega) (by simp)];simp
/-- What blanks leaves stays. -/
theorem DN:∀ (Z:List Int) (last:Int),bK last (bK last Z)=bK last Z:=by
 intro Z;induction Z with
 | nil=>intro last;rfl
 | cons x t ih=>
  intro last;rw [bK];by_cases h:x≠32∨last≠32
  ·rw [if_pos h,List.singleton_append,bK,if_pos h,ih];rfl
  rw [if_neg h,List.nil_append];have:x=last:=(by omega);subst this;exact ih x
end Go.Proofs.YtapechjebkjidaaGreatDoor
namespace Go.Proofs.YtapechjebkjidaaGreatDoor
open Go.RowKit Go.Shelf
def sN:ByteArray:=⟨#[98,108,97,110,107,115]⟩
theorem EB:mc sN 1 (ji so):=⟨by decide,by kernel_rfl,by kernel_rfl,by kernel_rfl,by kernel_rfl,by kernel_rfl,by kernel_rfl⟩
theorem CM:nE so 1:=⟨by unfold zc;decide,by decide,by decide,by kernel_rfl,by kernel_rfl,by kernel_rfl,by kernel_rfl⟩
theorem uS (s:ByteArray) (hs:(ay s 0).length≤1000) (nN:s.size≤100000) (w:World):Calls Tryz.prog 30 #[.string sN,.bool false,.string s] w (iq w (bK (-1) (ay s 0))) :=
  iE EB CM s hs nN _ (fun f h=>by rw [Gr f _ [] (-1) h (by simp)];rfl) w
theorem Gv:∀ (Z:List Int) (q:Int),Z.all aK=true→(bK q Z).all aK=true:=by
 intro Z;induction Z with
 | nil=>intro _ _;rfl
 | cons x t ih=>
  intro q h;rw [List.all_cons,Bool.and_eq_true]at h;rw [bK,List.all_append,ih x h.2];split <;> simp [h.1]
theorem GU:∀ (Z:List Int) (q:Int),(bK q Z).length≤Z.length:=by
 intro Z;induction Z with
 | nil=>intro _;exact Nat.le_refl _
 | cons x t ih=>
  intro q;have:=ih x;rw [bK,List.length_append];split <;> simp <;> omega
def I7 (w:World) (n:Nat) (L:List Int) (want last i:Value) (wr:World):Prop:=∃ (j:Nat) (acc:List Int) (q:Int),j≤n∧i=.int .i64 j∧want=.string (pz acc)∧last=.int .i32 q∧acc++bK q (L.drop j)=bK (-1) L∧acc.length≤j∧Below w.heap.size w wr
theorem Bn (s:ByteArray) (w:World):Calls Tryz.prog 5 #[.string s] w fun e w'=>e=.returned (.bool true)∧Below w.heap.size w w':=by
 by_cases hs:s.size≤1000
 ·have FQ:=cZ s;have HR:=Lib.hid (fun(k:Nat) (r:Int) (h:(ay s 0)[k]? = some r)=>kT h);have LD:=Lib.hid (fA s);have GN:=Lib.hid (jj s w (by omega));have NW:=Lib.hid (fun(W:World)=>iM sN s _ (fun W=>uS s (by omega) (by omega) W) W);have HTV:=Lib.hid (fun(W:World)=>show Calls Tryz.prog 17 #[.string sN,.string (pz (bK (-1) (ay s 0))),.string (pz (bK (-1) (ay s 0)))] W fun e w'=>e=.returned (.bool true)∧Below W.heap.size W w' from by
   have hq:=Gv (ay s 0) (-1) (fA s);have h1:=Aw hq;have h2:=GU (ay s 0) (-1);refine iM sN (pz (bK (-1) (ay s 0))) _ (fun W=>?_) W;have h3:=uS (pz (bK (-1) (ay s 0))) (by rw [h1];omega) (by have:=bN (bK (-1) (ay s 0));omega) W;rw [h1,DN]at h3;exact h3)
  have nO:=Lib.hid (fu s w);rw [decide_eq_true (show(s.size:Int)≤1000 by omega)]at nO;have OI:(ay s 0).length≤1000:=(by omega);generalize ay s 0=L at *;clear hs FQ;go_enter Tryz.func5,Tryz.ntmps5;go_wp2_with fail;refine nO.out.mono ?_;rintro e w0 ⟨rfl,rfl⟩;go_wp2_with fail;refine GN.out.mono ?_;rintro e w1 ⟨⟨v,rfl,ho⟩,aT⟩;obtain⟨n,hn⟩:∃ n,L.length=n:=⟨_,rfl⟩;unfold gN at ho;rw [hn]at ho;obtain⟨A,cp,rfl,_⟩:=aH ho;have HL:=Lib.hid (Rd.cj ho);have bT:=Lib.hid aT;clear ho aT;have HN:=Lib.hid hn;have PE:n≤1000:=(by omega);clear hn OI;go_wp2_with fail;go_loopw [3,4,13] (I7 w1 n L) (fun _ _ i _=>n - (intOf i).toNat);(case atStart=>exact⟨0,[],-1,Nat.zero_le _,rfl,rfl,rfl,rfl,Nat.le_refl _,Below.refl _ _⟩);obtain⟨j,acc,q,hj,rfl,rfl,rfl,hF,hacc,hb⟩:=hrel;by_cases hlt:j<n
  ·obtain⟨r,hr⟩:∃ r,L[j]? = some r:=⟨_,List.getElem?_eq_getElem (by rw [HN.out];exact hlt)⟩;obtain⟨b,off,rfl,dL,hcells⟩:=HL.out.2 (by omega);have d0:wr.cell? ⟨b,off+j,none⟩=some (.int .i32 r):=(hb.cell (p:=⟨b,off+j,none⟩) dL).trans (hcells j _ (by rw [bC,hr];rfl));have rE:=HR.out j r hr;have HB:=Lib.hid hb;have HA:=Lib.hid hacc;have hsz:=bN acc;rw [drop_cons hr]at hF;by_cases h:r=32∧q=32
   ·obtain⟨rfl,rfl⟩:=h;have hS:bK 32 (32::L.drop (j+1))=bK 32 (L.drop (j+1)):=(by rw [bK,if_neg (by simp)];rfl);rw [hS]at hF;have HF:=Lib.hid hF;clear hcells hb hF hS;go_wp2_with fail;exact⟨⟨j+1,acc,32,by omega,by go_num,rfl,rfl,HF.out,by have:=HA.out;omega,HB.out⟩,by simp [intOf];omega⟩
   by_cases h1:r=32
   ·subst h1;have q0:(q != 32)=true:=(by rw [bne_iff_ne];exact fun e=>h ⟨rfl,e⟩);have hS:bK q (32::L.drop (j+1)) = [32]++bK 32 (L.drop (j+1)):=(by rw [bK,if_pos (.inr (fun e=>h ⟨rfl,e⟩))]);rw [hS]at hF;have HF:=Lib.hid hF;have HC:=Lib.hid (fun(W:World)=>de 32 rE W);have vc:=bN [32];have pM : [32].length=1:=rfl;clear hcells hb hF hS;go_wp2_with fail;refine(HC.out _).mono ?_;rintro e w2 ⟨rfl,aL⟩;have aW:=Lib.hid (HB.out.trans (aL.mono HB.out.size));clear aL;go_wp2_with fail;exact⟨⟨j+1,acc++[32],32,by omega,by go_num,by rw [ee],rfl,by rw [← HF.out,List.append_assoc],by rw [List.length_append];simp;have:=HA.out;omega,aW.out⟩,by simp [intOf];omega⟩
   have q0:(r != 32)=true:=(by rw [bne_iff_ne];exact h1);have hS:bK q (r::L.drop (j+1)) = [r]++bK r (L.drop (j+1)):=(by rw [bK,if_pos (.inl h1)]);rw [hS]at hF;have HF:=Lib.hid hF;have HC:=Lib.hid (fun(W:World)=>de r rE W);have vc:=bN [r];have pM : [r].length=1:=rfl;clear hcells hb hF hS;go_wp2_with fail;refine(HC.out _).mono ?_;rintro e w2 ⟨rfl,aL⟩;have aW:=Lib.hid (HB.out.trans (aL.mono HB.out.size));clear aL;go_wp2_with fail;exact⟨⟨j+1,acc++[r],r,by omega,by go_num,by rw [ee],rfl,by rw [← HF.out,List.append_assoc],by rw [List.length_append];simp;have:=HA.out;omega,aW.out⟩,by simp [intOf];omega⟩
  obtain rfl:j=n:=(by omega);have HB:=Lib.hid hb;rw [List.drop_eq_nil_of_le (by rw [HN.out];exact Nat.le_refl _)]at hF;rw [bK,List.append_nil]at hF;subst hF;clear hb;go_wp2_with fail;refine(NW.out wr).mono ?_;rintro e w2 ⟨rfl,aL⟩;have aW:=Lib.hid (bT.out.trans ((HB.out.trans (aL.mono HB.out.size)).mono bT.out.size));clear aL;go_wp2_with fail;refine(HTV.out w2).mono ?_;rintro e w3 ⟨rfl,bQ⟩;have bW:=Lib.hid (aW.out.trans (bQ.mono aW.out.size));clear bQ;go_wp2_with fail;go_ret;exact⟨rfl,bW.out⟩
 have nO:=Lib.hid (fu s w);rw [decide_eq_false (show ¬(s.size:Int)≤1000 by omega)]at nO;clear hs;go_enter Tryz.func5,Tryz.ntmps5;go_wp2_with fail;refine nO.out.mono ?_;rintro e w0 ⟨rfl,rfl⟩;go_wp2_with fail;go_ret;exact⟨rfl,Below.refl _ _⟩
end Go.Proofs.YtapechjebkjidaaGreatDoor
namespace Go.Proofs.YtapechjebkjidaaGreatDoor
theorem bulk_one {H:Type} (d:DataW H):1≤Rows.uptoBulk d:=by
 cases d with
 | lit l=>cases l <;> simp [Rows.uptoBulk]
 | nil=>simp [Rows.uptoBulk]
 | ptr d=>simp [Rows.uptoBulk]
 | slice elems spare=>simp [Rows.uptoBulk]
 | agg parts=>simp [Rows.uptoBulk]
 | iface t d=>simp [Rows.uptoBulk]
 | map entries=>simp [Rows.uptoBulk]
 | held h=>simp [Rows.uptoBulk]
theorem bulk_len {H:Type} (l:List (DataW H)):l.length≤Rows.uptoBulkAll l:=by
 induction l with
 | nil=>simp
 | cons x r ih=>have:=bulk_one x;simp only [Rows.uptoBulkAll,List.length_cons];omega
theorem bulk_slice {H:Type} {d:DataW H} {c:Nat} (h:(d=.nil∧c=0)∨∃ elems spare,d=.slice elems spare∧elems.length+spare.length=c):c≤Rows.uptoBulk d:=by
 rcases h with ⟨_,rfl⟩ | ⟨elems,spare,rfl,rfl⟩;exact Nat.zero_le _;have h1:=bulk_len elems;have h2:=bulk_len spare;simp only [Rows.uptoBulk];omega
theorem bulk_string {H:Type} (s:ByteArray):s.size≤Rows.uptoBulk (DataW.lit (H:=H) (.string s.data.toList)):=by
 have e:s.data.toList.length=s.size:=(by rw [Array.length_toList];rfl);simp only [Rows.uptoBulk];omega
theorem bulk_bound {H:Type} {l:List (DataW H)} (hk:Rows.uptoSmall H l=true):Rows.uptoBulkAll l≤1048576:=of_decide_eq_true hk
end Go.Proofs.YtapechjebkjidaaGreatDoor
namespace Go.Proofs.YtapechjebkjidaaGreatDoor
open Go.RowKit Go.ChangeShapes Go.WideShapes Go.ChangeAt Go.Shelf
open Go.ChangeMaps (open_string shut_string)
theorem rO (os:Os) {H:Type} (enc:TypeId × Value→H) :
    (OpenSpec.ofChange Rows.shelfBlanksSpec).preRow enc Tryz.prog Tryz.f5 Rows.shelfBlanksRow.domain false Rows.shelfBlanksRow.laid ((cy os).forCall (fun _ _=>0) ⟨#[],#[.string ⟨#[]⟩],[]⟩).memory #[.string ⟨#[]⟩]:=by
 have hw:(DataW.whole enc Tryz.prog ((cy os).forCall (fun _ _=>0) ⟨#[],#[.string ⟨#[]⟩],[]⟩).memory Tryz.f5.params.toList Rows.shelfBlanksSpec.vars false #[.string ⟨#[]⟩].toList 8).map (fun x=>(x.1,x.2.1)) =
     some ([.lit (.string [])],[]):=by kernel_rfl
 obtain⟨⟨x1,x2,x3⟩,hx,hx1⟩:=Option.map_eq_some_iff.1 hw;simp only [Prod.mk.injEq]at hx1;obtain⟨rfl,rfl⟩:=hx1;exact OpenSpec.preRow_of_cond 8 hx (by kernel_rfl) (fun k hk=>by cases hk) (by kernel_rfl) (mz os _)
theorem qV (os:Os) (started:os.Started) (H:Type) (enc:TypeId × Value→H) (F:Stop.Interp) :
    ReturnsInHanded {} Tryz.checked os 5 .any ((OpenSpec.ofChange Rows.shelfBlanksSpec).preRow enc Tryz.prog Tryz.f5 Rows.shelfBlanksRow.domain false Rows.shelfBlanksRow.laid) (((OpenSpec.ofChange Rows.shelfBlanksSpec).at F).post enc Tryz.prog Tryz.f5 false true false false):=by
 refine returnsInHanded_of_row (C:=Tryz.checked) (s:=(OpenSpec.ofChange Rows.shelfBlanksSpec)) mF started (by kernel_rfl) Tryz.func5
   (witness_row_atRef (enc:=enc) (C:=Tryz.checked) false (cy os) #[.string ⟨#[]⟩] rfl (by kernel_rfl) (by kernel_rfl) (by kernel_rfl) (rO os enc)) ?_
 intro W base args ds gs before hval hW _ _ _ _ _ _;have Ny:=hW;obtain⟨p,q,CS,hV,rfl,hfz,hnd⟩:=hW;have hA:DataW.TrodAll enc Tryz.prog W 0 (fun _=>true) true Tryz.f5.params.toList args.toList ds p:=CS;have ng:∀ (j:Nat) t v,Tryz.f5.params[j]? = some t→args[j]? = some v→Value.okWide Tryz.prog W .any base t v:=hval;rw [Tryz.params5]at hA ng;obtain⟨v0,d0,rfl,rfl,h0⟩:=trodAll_one hA;obtain⟨rfl,rfl⟩:=trodVars_none hV;obtain⟨s0,rfl,rfl,rfl,hs0⟩:=open_string Tryz.underlying9 (ng 0 _ v0 rfl rfl) h0;refine(Bn s0 W).mono fun e W' ⟨he,hb⟩=>⟨_,he,?_⟩;exact kV Tryz.underlying4 rfl rfl mQ (by kernel_rfl) Ny rfl hb
theorem tK:Rows.ShelfBlanksSaid :=
  OpenClaim.holds_of_cond 5 Tryz.f5 rfl rfl rfl rfl rfl rfl rfl ⟨rfl,rfl,rfl,rfl,rfl⟩ rfl rfl rfl rfl rfl (by kernel_rfl) Tryz.func5 shelfblanks_joined
    (of_decide_eq_true (by kernel_rfl)) (by unfold Func.isWrapper;first | (rw [if_pos (by decide +kernel)];kernel_rfl) | (rw [if_neg (by decide +kernel)];exact⟨rfl,rfl⟩))
    (fun os started H enc _ F=>by rw [OpenClaim.pre_eq_preRow];exact qV os started H enc F)
theorem rF (f:FuncId) (fn:Func) (hf : Tryz.pinned.checked.prog.funcNamed "scriptshift/scriptlaw16.ShelfBlanks" = some f) (hfn : Tryz.pinned.checked.prog.funcs[f]? = some fn) :
    true = Tryz.pinned.checked.prog.looks []∧∀ (j:Nat) t,fn.params[j]? = some t → Tryz.pinned.checked.prog.wantsStandIn t=false:=by
 obtain rfl:f = 5:=Option.some.inj ((show Tryz.prog.funcNamed "scriptshift/scriptlaw16.ShelfBlanks" = some 5 by kernel_rfl).symm.trans hf) |>.symm;obtain rfl:fn = Tryz.f5:=(Option.some.inj (Tryz.func5.symm.trans hfn)).symm;refine⟨by kernel_rfl,fun j t ht=>?_⟩;have h:(Tryz.f5.params.toList.all fun t=>!Tryz.prog.wantsStandIn t)=true:=(by kernel_rfl);have h2:=List.all_eq_true.1 h t (by simpa using Array.mem_of_getElem? ht);have h3 : Tryz.prog.wantsStandIn t=false:=(by simpa using h2);exact h3
/-- THE CARD. -/
theorem shelfblanks_card:Rows.ShelfBlanksCardSaid :=
  Claim7.holds_tied_plain_at .later [] _ _ _ _ tK (fun _ h=>by cases h) (by kernel_rfl) (fun _ h=>by cases h) shelfBlanks_row_tie rfl ⟨rfl,rfl⟩ (by kernel_rfl) rfl rF (by kernel_rfl)
end Go.Proofs.YtapechjebkjidaaGreatDoor
