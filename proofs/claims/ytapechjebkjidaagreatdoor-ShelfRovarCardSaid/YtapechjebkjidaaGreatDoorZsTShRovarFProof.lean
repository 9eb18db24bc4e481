/- ShelfRovar: rovar writes each small consonant of latin but y twice, with an o between. Condition: Go's own variables are as their text lays them. -/
import Derived.Test.YtapechjebkjidaaGreatDoorCards
import Derived.Test.YtapechjebkjidaaGreatDoorRows
import Derived.Test.YtapechjebkjidaaGreatDoorShRovarJ
import Derived.Test.YtapechjebkjidaaGreatDoorTie
import Derived.Test.YtapechjebkjidaaGreatDoorZs20
import Derived.Test.YtapechjebkjidaaGreatDoorZs3
import Derived.Test.YtapechjebkjidaaGreatDoorZs32
import Derived.Test.YtapechjebkjidaaGreatDoorZs45
set_option maxHeartbeats 3200000
set_option maxRecDepth 100000
namespace Go.Proofs.YtapechjebkjidaaGreatDoor
open Go.RowKit
/-! ### tables: one rune each -/
def QF (a:Int) (t:List Int):au:=⟨false,false,[],[[(a,a)]],[],t,t.length⟩
def qv (l:List (Int × List Int)):List au:=l.map fun p=>QF p.1 p.2
def uj:List (Int × List Int)→Int→List Int
  | [],x=>[x]
  | p::l,x=>if x=p.1 then p.2 else uj l x
theorem Gt (x:Int):∀ l:List (Int × List Int),PU (qv l) x=uj l x:=by
 intro l;induction l with
 | nil=>rfl
 | cons p l ih=>
  unfold PU qv at *;rw [List.map_cons,List.find?_cons];have:bJ (QF p.1 p.2).source [x] = decide (x=p.1):=(by simp [QF,bJ,oc]);rw [this,uj];by_cases h:x=p.1
  ·rw [decide_eq_true h,if_pos h];rfl
  rw [decide_eq_false h,if_neg h];exact ih
theorem Df (l:List (Int × List Int)):∀ r∈qv l,Plain r∧r.source.length=1:=by
 intro r hr;obtain⟨p,_,rfl⟩:=List.mem_map.1 hr;exact⟨⟨rfl,rfl,rfl,rfl,rfl⟩,rfl⟩
theorem JC (l:List (Int × List Int)) (f:Nat) (Z:List Int) (h:Z.length≤f):cP (qv l) f [] Z=Z.flatMap (uj l):=by
 rw [Me _ (Df l) f [] Z h,List.nil_append];congr 1;funext x;exact Gt x l
theorem Fv (l:List (Int × List Int)) (K:Nat) (hl:∀ p∈l,p.2.length≤K):∀ r∈qv l,zc K r:=by
 intro r hr;obtain⟨p,hp,rfl⟩:=List.mem_map.1 hr;have:=hl p hp;refine⟨?_,?_,?_,?_⟩ <;> simp [QF] <;> omega
end Go.Proofs.YtapechjebkjidaaGreatDoor
namespace Go.Proofs.YtapechjebkjidaaGreatDoor
open Go.RowKit Go.Shelf
def rovarB:ByteArray:=⟨#[114,111,118,97,114]⟩
def rovarC:List Int:=[98,99,100,102,103,104,106,107,108,109,110,112,113,114,115,116,118,119,120,122]
def rovarW:ByteArray:=⟨#[98,99,100,102,103,104,106,107,108,109,110,112,113,114,115,116,118,119,120,122]⟩
def rovarT:List (Int × List Int):=rovarC.map fun c=>(c,[c,111,c])
theorem mapT_map (f:Int→List Int) (r:Int):∀ l:List Int,uj (l.map fun c=>(c,f c)) r=if r∈l then f r else [r]:=by
 intro l;induction l with
 | nil=>simp [uj]
 | cons a l ih=>
  rw [List.map_cons,uj,ih];by_cases h:r=a
  ·subst h;simp
  simp [h]
theorem rovar_dec:(List.range 20).all (fun p=>decide (((Utf8.decode rovarW p).1:Int)=rovarC.getD p 0) && decide ((Utf8.decode rovarW p).2=1))=true:=by kernel_rfl
theorem rovar_file:mc rovarB 13 (ji (qv rovarT)):=⟨by decide,by kernel_rfl,by kernel_rfl,by kernel_rfl,by kernel_rfl,by kernel_rfl,by kernel_rfl⟩
theorem rovar_rules:nE (qv rovarT) 3:=⟨Fv _ _ (by decide),by decide,by decide,by kernel_rfl,by kernel_rfl,by kernel_rfl,by kernel_rfl⟩
theorem rovar_turn (s:ByteArray) (hs:(ay s 0).length≤1000) (nN:s.size≤100000) (w:World):Calls Tryz.prog 30 #[.string rovarB,.bool false,.string s] w (iq w ((ay s 0).flatMap (uj rovarT))) :=
  iE rovar_file rovar_rules s hs nN _ (fun f h=>JC rovarT f _ h) w
theorem rovar_by (r:Int) (hr:aK r=true) (w:World):Calls Tryz.prog 27 #[.int .i32 r] w fun e w'=>e=.returned (.string (pz (uj rovarT r)))∧Below w.heap.size w w':=by
 have HP:=Lib.hid (fun(W:World)=>de r hr W);have hsr:(pz [r]).size≤4:=bN [r];have HD:=Lib.hid (fun(p:Nat) (hp:p<20)=>show((Utf8.decode rovarW p).1:Int)=rovarC.getD p 0∧(Utf8.decode rovarW p).2=1 by
  have h:=List.all_eq_true.1 rovar_dec p (List.mem_range.2 hp);rw [Bool.and_eq_true,decide_eq_true_eq,decide_eq_true_eq]at h;exact h)
 have hz0:rovarW.size=20:=rfl;have TO:Hid (rovarW=⟨#[98,99,100,102,103,104,106,107,108,109,110,112,113,114,115,116,118,119,120,122]⟩):=Lib.hid rfl;have Qb:=Lib.hid (fun(h:r∈rovarC)=>show uj rovarT r = [r,111,r] by unfold rovarT;rw [mapT_map,if_pos h]);have HOUT:=Lib.hid (fun(h:¬ r∈rovarC)=>show uj rovarT r = [r] by unfold rovarT;rw [mapT_map,if_neg h]);have yG:Hid (rovarC.length=20):=Lib.hid rfl;go_enter Tryz.func27,Tryz.ntmps27;go_wp2_with fail;rw [← TO.out];generalize rovarW=S at *;go_loopw [4] (fun _ wr=>∃ p:Nat,p≤20∧wr.heap[w.heap.size]? = some (.stringIter S p)∧(∀ c∈rovarC.take p,c≠r)∧Below w.heap.size w wr) (fun _ wr=>20 - wr.iterPos w.heap.size);(case atStart=>exact⟨0,Nat.zero_le _,World.iter_heap _ _ _,by simp,(Below.refl _ _).alloc (Nat.le_refl _) _⟩);obtain⟨p,hp,hit,hno,hb⟩:=hrel;have qQ:=iterPos_of hit;by_cases hlt:p<S.size
 ·have hp2:p<20:=(by omega);obtain⟨d1,d2⟩:=HD.out p hp2;obtain⟨z,hz⟩:∃ z,rovarC[p]? = some z:=⟨_,List.getElem?_eq_getElem (by rw [yG.out];exact hp2)⟩;rw [List.getD_eq_getElem?_getD,hz,Option.getD_some]at d1;have hnext:=fun ty=>Lib.run_next_any_at (P:=Tryz.prog) wr w.heap.size S p ty hit hlt;rw [d1,d2]at hnext;have J9:=Lib.iterAt_heap wr w.heap.size S p (p+1) hit;have aT:=Lib.below_iterAt hb (Nat.le_refl _) S (p+1);generalize wr.iterAt w.heap.size S (p+1)=W1 at *;have HI:=Lib.hid J9;have YQ:=Lib.hid (iterPos_of J9);have HI0:=Lib.hid qQ;have HB:=Lib.hid aT;have HNO:=Lib.hid hno;have HZ:=Lib.hid hz;clear hit J9 qQ hb aT hno hz d1 d2;by_cases hzr:z=r
  ·subst hzr;have HE:=Lib.hid (Qb.out (List.mem_of_getElem? HZ.out));have nN:(pz [z]++⟨#[111]⟩:ByteArray).size≤5:=(by rw [ByteArray.size_append];exact Nat.add_le_add hsr (Nat.le_refl 1));go_wp2_with fail;refine(HP.out _).mono ?_;rintro e w2 ⟨rfl,aL⟩;have aW:=Lib.hid (HB.out.trans (aL.mono HB.out.size));clear aL;go_wp2_with fail;refine(HP.out _).mono ?_;rintro e w3 ⟨rfl,bQ⟩;have bW:=Lib.hid (aW.out.trans (bQ.mono aW.out.size));clear bQ;go_wp2_with fail;go_ret;rw [HE.out];exact⟨by rw [show(⟨#[111]⟩:ByteArray)=pz [111] from rfl,ee,ee];rfl,bW.out⟩
  have q0:(z == r)=false:=(by rw [beq_eq_false_iff_ne];exact hzr);go_wp2_with fail;refine⟨⟨p+1,by omega,HI.out,?_,HB.out⟩,by rw [YQ.out,HI0.out];omega⟩;intro c hc;rw [List.take_add_one,HZ.out]at hc;rcases List.mem_append.1 hc with h | h;exact HNO.out c h;simp at h;rw [h];exact hzr
 obtain rfl:p=20:=(by omega);have hnext:=fun ty=>Lib.run_next_end_at (P:=Tryz.prog) wr w.heap.size S 20 ty hit hlt;have HB:=Lib.hid hb;have HE:=Lib.hid (HOUT.out (fun h=>hno r (by rw [List.take_of_length_le (by rw [yG.out];exact Nat.le_refl _)];exact h) rfl));clear hit qQ hno hb;go_wp2_with fail;refine(HP.out _).mono ?_;rintro e w2 ⟨rfl,aL⟩;have aW:=Lib.hid (HB.out.trans (aL.mono HB.out.size));clear aL;go_wp2_with fail;go_ret;rw [HE.out];exact⟨rfl,aW.out⟩
theorem shelf_rovar (s:ByteArray) (w:World):Calls Tryz.prog 13 #[.string s] w fun e w'=>e=.returned (.bool true)∧Below w.heap.size w w':=by
 have eg:∀ args w,(callFunc 27 args).run Tryz.prog w=.ok (.enter 27 args) w:=enters_of Tryz.func27 (by kernel_rfl) rfl;by_cases hs:s.size≤1000
 ·have FQ:=cZ s;have HBY:=Lib.hid (RX s hs 27 #[] (uj rovarT) w eg (fun r=>by unfold rovarT;rw [mapT_map];split <;> simp) (fun W r hr=>rovar_by r hr W));have NW:=Lib.hid (fun(W:World)=>iM rovarB s _ (fun W=>rovar_turn s (by omega) (by omega) W) W);have nO:=Lib.hid (fu s w);rw [decide_eq_true (show(s.size:Int)≤1000 by omega)]at nO;generalize pz ((ay s 0).flatMap (uj rovarT))=T at *;clear hs eg FQ;go_enter Tryz.func13,Tryz.ntmps13;go_wp2_with fail;refine nO.out.mono ?_;rintro e w0 ⟨rfl,rfl⟩;go_wp2_with fail;refine HBY.out.mono ?_;rintro e w1 ⟨rfl,aT⟩;have bT:=Lib.hid aT;clear aT;go_wp2_with fail;refine(NW.out w1).mono ?_;rintro e w2 ⟨rfl,aL⟩;have aW:=Lib.hid (bT.out.trans (aL.mono bT.out.size));clear aL;go_wp2_with fail;go_ret;exact⟨rfl,aW.out⟩
 have nO:=Lib.hid (fu s w);rw [decide_eq_false (show ¬(s.size:Int)≤1000 by omega)]at nO;clear hs eg;go_enter Tryz.func13,Tryz.ntmps13;go_wp2_with fail;refine nO.out.mono ?_;rintro e w0 ⟨rfl,rfl⟩;go_wp2_with fail;go_ret;exact⟨rfl,Below.refl _ _⟩
end Go.Proofs.YtapechjebkjidaaGreatDoor
namespace Go.Proofs.YtapechjebkjidaaGreatDoor
theorem bulk_one {H:Type} (d:DataW H):1≤Rows.uptoBulk d:=by
 cases d with
 | lit l=>cases l <;> simp [Rows.uptoBulk]
 | nil=>simp [Rows.uptoBulk]
 | ptr d=>simp [Rows.uptoBulk]
 | slice elems spare=>simp [Rows.uptoBulk]
 | agg parts=>simp [Rows.uptoBulk]
 | iface t d=>simp [Rows.uptoBulk]
 | map entries=>simp [Rows.uptoBulk]
 | held h=>simp [Rows.uptoBulk]
theorem bulk_len {H:Type} (l:List (DataW H)):l.length≤Rows.uptoBulkAll l:=by
 induction l with
 | nil=>simp
 | cons x r ih=>have:=bulk_one x;simp only [Rows.uptoBulkAll,List.length_cons];omega
theorem bulk_slice {H:Type} {d:DataW H} {c:Nat} (h:(d=.nil∧c=0)∨∃ elems spare,d=.slice elems spare∧elems.length+spare.length=c):c≤Rows.uptoBulk d:=by
 rcases h with ⟨_,rfl⟩ | ⟨elems,spare,rfl,rfl⟩;exact Nat.zero_le _;have h1:=bulk_len elems;have h2:=bulk_len spare;simp only [Rows.uptoBulk];omega
theorem bulk_string {H:Type} (s:ByteArray):s.size≤Rows.uptoBulk (DataW.lit (H:=H) (.string s.data.toList)):=by
 have e:s.data.toList.length=s.size:=(by rw [Array.length_toList];rfl);simp only [Rows.uptoBulk];omega
theorem bulk_bound {H:Type} {l:List (DataW H)} (hk:Rows.uptoSmall H l=true):Rows.uptoBulkAll l≤1048576:=of_decide_eq_true hk
end Go.Proofs.YtapechjebkjidaaGreatDoor
namespace Go.Proofs.YtapechjebkjidaaGreatDoor
open Go.RowKit Go.ChangeShapes Go.WideShapes Go.ChangeAt Go.Shelf
open Go.ChangeMaps (open_string shut_string)
theorem shelfrovar_reads (os:Os) {H:Type} (enc:TypeId × Value→H) :
    (OpenSpec.ofChange Rows.shelfRovarSpec).preRow enc Tryz.prog Tryz.f13 Rows.shelfRovarRow.domain false Rows.shelfRovarRow.laid ((cy os).forCall (fun _ _=>0) ⟨#[],#[.string ⟨#[]⟩],[]⟩).memory #[.string ⟨#[]⟩]:=by
 have hw:(DataW.whole enc Tryz.prog ((cy os).forCall (fun _ _=>0) ⟨#[],#[.string ⟨#[]⟩],[]⟩).memory Tryz.f13.params.toList Rows.shelfRovarSpec.vars false #[.string ⟨#[]⟩].toList 8).map (fun x=>(x.1,x.2.1)) =
     some ([.lit (.string [])],[]):=by kernel_rfl
 obtain⟨⟨x1,x2,x3⟩,hx,hx1⟩:=Option.map_eq_some_iff.1 hw;simp only [Prod.mk.injEq]at hx1;obtain⟨rfl,rfl⟩:=hx1;exact OpenSpec.preRow_of_cond 8 hx (by kernel_rfl) (fun k hk=>by cases hk) (by kernel_rfl) (mz os _)
theorem shelfrovar_lifted (os:Os) (started:os.Started) (H:Type) (enc:TypeId × Value→H) (F:Stop.Interp) :
    ReturnsInHanded {} Tryz.checked os 13 .any ((OpenSpec.ofChange Rows.shelfRovarSpec).preRow enc Tryz.prog Tryz.f13 Rows.shelfRovarRow.domain false Rows.shelfRovarRow.laid) (((OpenSpec.ofChange Rows.shelfRovarSpec).at F).post enc Tryz.prog Tryz.f13 false true false false):=by
 refine returnsInHanded_of_row (C:=Tryz.checked) (s:=(OpenSpec.ofChange Rows.shelfRovarSpec)) mF started (by kernel_rfl) Tryz.func13
   (witness_row_atRef (enc:=enc) (C:=Tryz.checked) false (cy os) #[.string ⟨#[]⟩] rfl (by kernel_rfl) (by kernel_rfl) (by kernel_rfl) (shelfrovar_reads os enc)) ?_
 intro W base args ds gs before hval hW _ _ _ _ _ _;have Ny:=hW;obtain⟨p,q,CS,hV,rfl,hfz,hnd⟩:=hW;have hA:DataW.TrodAll enc Tryz.prog W 0 (fun _=>true) true Tryz.f13.params.toList args.toList ds p:=CS;have ng:∀ (j:Nat) t v,Tryz.f13.params[j]? = some t→args[j]? = some v→Value.okWide Tryz.prog W .any base t v:=hval;rw [Tryz.params13]at hA ng;obtain⟨v0,d0,rfl,rfl,h0⟩:=trodAll_one hA;obtain⟨rfl,rfl⟩:=trodVars_none hV;obtain⟨s0,rfl,rfl,rfl,hs0⟩:=open_string Tryz.underlying9 (ng 0 _ v0 rfl rfl) h0;refine(shelf_rovar s0 W).mono fun e W' ⟨he,hb⟩=>⟨_,he,?_⟩;exact kV Tryz.underlying4 rfl rfl mQ (by kernel_rfl) Ny rfl hb
theorem shelfrovar_said:Rows.ShelfRovarSaid :=
  OpenClaim.holds_of_cond 13 Tryz.f13 rfl rfl rfl rfl rfl rfl rfl ⟨rfl,rfl,rfl,rfl,rfl⟩ rfl rfl rfl rfl rfl (by kernel_rfl) Tryz.func13 shelfrovar_joined
    (of_decide_eq_true (by kernel_rfl)) (by unfold Func.isWrapper;first | (rw [if_pos (by decide +kernel)];kernel_rfl) | (rw [if_neg (by decide +kernel)];exact⟨rfl,rfl⟩))
    (fun os started H enc _ F=>by rw [OpenClaim.pre_eq_preRow];exact shelfrovar_lifted os started H enc F)
theorem shelfrovar_plain (f:FuncId) (fn:Func) (hf : Tryz.pinned.checked.prog.funcNamed "scriptshift/scriptlaw16.ShelfRovar" = some f) (hfn : Tryz.pinned.checked.prog.funcs[f]? = some fn) :
    true = Tryz.pinned.checked.prog.looks []∧∀ (j:Nat) t,fn.params[j]? = some t → Tryz.pinned.checked.prog.wantsStandIn t=false:=by
 obtain rfl:f = 13:=Option.some.inj ((show Tryz.prog.funcNamed "scriptshift/scriptlaw16.ShelfRovar" = some 13 by kernel_rfl).symm.trans hf) |>.symm;obtain rfl:fn = Tryz.f13:=(Option.some.inj (Tryz.func13.symm.trans hfn)).symm;refine⟨by kernel_rfl,fun j t ht=>?_⟩;have h:(Tryz.f13.params.toList.all fun t=>!Tryz.prog.wantsStandIn t)=true:=(by kernel_rfl);have h2:=List.all_eq_true.1 h t (by simpa using Array.mem_of_getElem? ht);have h3 : Tryz.prog.wantsStandIn t=false:=(by simpa using h2);exact h3
/-- THE CARD. -/
theorem shelfrovar_card:Rows.ShelfRovarCardSaid :=
  Claim7.holds_tied_plain_at .later [] _ _ _ _ shelfrovar_said (fun _ h=>by cases h) (by kernel_rfl) (fun _ h=>by cases h) shelfRovar_row_tie rfl ⟨rfl,rfl⟩ (by kernel_rfl) rfl shelfrovar_plain (by kernel_rfl)
end Go.Proofs.YtapechjebkjidaaGreatDoor
