/- ShelfVowels: vowels leaves all but vowels; what is left stays. Condition: Go's own variables are as their text lays them. -/
import Derived.Test.YtapechjebkjidaaGreatDoorCards
import Derived.Test.YtapechjebkjidaaGreatDoorRows
import Derived.Test.YtapechjebkjidaaGreatDoorShVowelsJ
import Derived.Test.YtapechjebkjidaaGreatDoorTie
import Derived.Test.YtapechjebkjidaaGreatDoorZs20
import Derived.Test.YtapechjebkjidaaGreatDoorZs3
import Derived.Test.YtapechjebkjidaaGreatDoorZs32
import Derived.Test.YtapechjebkjidaaGreatDoorZs45
set_option maxHeartbeats 3200000
set_option maxRecDepth 100000
namespace Go.Proofs.YtapechjebkjidaaGreatDoor
open Go.RowKit
/-! ### vowels -/
def vowelS:af:=[(65,65),(69,69),(73,73),(79,79),(85,85),(97,97),(101,101),(105,105),(111,111),(117,117)]
def vowelsR:List au:=[⟨false,false,[],[vowelS],[],[],0⟩]
theorem vowels_law (f:Nat) (Z:List Int) (h:Z.length≤f):cP vowelsR f [] Z=Z.flatMap (fun x=>if bk vowelS x=true then []else [x]):=by
 rw [Me vowelsR (by intro r hr;obtain rfl:=List.mem_singleton.1 hr;exact⟨⟨rfl,rfl,rfl,rfl,rfl⟩,rfl⟩) f [] Z h,List.nil_append];congr 1;funext x;unfold PU vowelsR;rw [List.find?_cons];simp only [bJ,Bool.and_true,List.find?_nil];cases bk vowelS x <;> rfl
end Go.Proofs.YtapechjebkjidaaGreatDoor
namespace Go.Proofs.YtapechjebkjidaaGreatDoor
open Go.RowKit Go.Shelf
def vowelsB:ByteArray:=⟨#[118,111,119,101,108,115]⟩
def vowelsC:List Int:=[65,69,73,79,85,97,101,105,111,117]
def vowelsW:ByteArray:=⟨#[65,69,73,79,85,97,101,105,111,117]⟩
def vowelsM (x:Int):List Int:=if bk vowelS x=true then []else [x]
theorem vowels_has {r:Int}:bk vowelS r=true↔r∈vowelsC:=by
 simp only [bk,vowelS,vowelsC,List.any_cons,List.any_nil,Bool.or_false,Bool.or_eq_true,Bool.and_eq_true,decide_eq_true_eq,List.mem_cons,List.not_mem_nil,or_false];omega
theorem vowels_idem (L:List Int):(L.flatMap vowelsM).flatMap vowelsM=L.flatMap vowelsM:=by
 induction L with
 | nil=>rfl
 | cons a l ih=>
  rw [List.flatMap_cons,List.flatMap_append,ih];congr 1;unfold vowelsM;split;rfl;rename_i h;simp [h]
theorem vowels_all (L:List Int) (h:L.all aK=true):(L.flatMap vowelsM).all aK=true:=by
 induction L with
 | nil=>rfl
 | cons a l ih=>
  rw [List.all_cons,Bool.and_eq_true]at h;rw [List.flatMap_cons,List.all_append,ih h.2];unfold vowelsM;split <;> simp [h.1]
theorem vowels_dec:(List.range 10).all (fun p=>decide (((Utf8.decode vowelsW p).1:Int)=vowelsC.getD p 0) && decide ((Utf8.decode vowelsW p).2=1))=true:=by kernel_rfl
theorem vowels_file:mc vowelsB 17 (ji vowelsR):=⟨by decide,by kernel_rfl,by kernel_rfl,by kernel_rfl,by kernel_rfl,by kernel_rfl,by kernel_rfl⟩
theorem vowels_rules:nE vowelsR 1:=⟨by unfold zc;decide,by decide,by decide,by kernel_rfl,by kernel_rfl,by kernel_rfl,by kernel_rfl⟩
theorem vowels_turn (s:ByteArray) (hs:(ay s 0).length≤1000) (nN:s.size≤100000) (w:World):Calls Tryz.prog 30 #[.string vowelsB,.bool false,.string s] w (iq w ((ay s 0).flatMap (vowelsM))) :=
  iE vowels_file vowels_rules s hs nN _ (fun f h=>vowels_law f _ h) w
theorem vowels_by (r:Int) (hr:aK r=true) (w:World):Calls Tryz.prog 28 #[.int .i32 r] w fun e w'=>e=.returned (.string (pz (vowelsM r)))∧Below w.heap.size w w':=by
 have HP:=Lib.hid (fun(W:World)=>de r hr W);have hsr:(pz [r]).size≤4:=bN [r];have HD:=Lib.hid (fun(p:Nat) (hp:p<10)=>show((Utf8.decode vowelsW p).1:Int)=vowelsC.getD p 0∧(Utf8.decode vowelsW p).2=1 by
  have h:=List.all_eq_true.1 vowels_dec p (List.mem_range.2 hp);rw [Bool.and_eq_true,decide_eq_true_eq,decide_eq_true_eq]at h;exact h)
 have hz0:vowelsW.size=10:=rfl;have TO:Hid (vowelsW=⟨#[65,69,73,79,85,97,101,105,111,117]⟩):=Lib.hid rfl;have Qb:=Lib.hid (fun(h:r∈vowelsC)=>show vowelsM r = [] by unfold vowelsM;rw [if_pos (vowels_has.2 h)]);have HOUT:=Lib.hid (fun(h:¬ r∈vowelsC)=>show vowelsM r = [r] by unfold vowelsM;rw [if_neg (fun e=>h (vowels_has.1 e))]);have yG:Hid (vowelsC.length=10):=Lib.hid rfl;go_enter Tryz.func28,Tryz.ntmps28;go_wp2_with fail;rw [← TO.out];generalize vowelsW=S at *;go_loopw [4] (fun _ wr=>∃ p:Nat,p≤10∧wr.heap[w.heap.size]? = some (.stringIter S p)∧(∀ c∈vowelsC.take p,c≠r)∧Below w.heap.size w wr) (fun _ wr=>10 - wr.iterPos w.heap.size);(case atStart=>exact⟨0,Nat.zero_le _,World.iter_heap _ _ _,by simp,(Below.refl _ _).alloc (Nat.le_refl _) _⟩);obtain⟨p,hp,hit,hno,hb⟩:=hrel;have qQ:=iterPos_of hit;by_cases hlt:p<S.size
 ·have hp2:p<10:=(by omega);obtain⟨d1,d2⟩:=HD.out p hp2;obtain⟨z,hz⟩:∃ z,vowelsC[p]? = some z:=⟨_,List.getElem?_eq_getElem (by rw [yG.out];exact hp2)⟩;rw [List.getD_eq_getElem?_getD,hz,Option.getD_some]at d1;have hnext:=fun ty=>Lib.run_next_any_at (P:=Tryz.prog) wr w.heap.size S p ty hit hlt;rw [d1,d2]at hnext;have J9:=Lib.iterAt_heap wr w.heap.size S p (p+1) hit;have aT:=Lib.below_iterAt hb (Nat.le_refl _) S (p+1);generalize wr.iterAt w.heap.size S (p+1)=W1 at *;have HI:=Lib.hid J9;have YQ:=Lib.hid (iterPos_of J9);have HI0:=Lib.hid qQ;have HB:=Lib.hid aT;have HNO:=Lib.hid hno;have HZ:=Lib.hid hz;clear hit J9 qQ hb aT hno hz d1 d2;by_cases hzr:z=r
  ·subst hzr;have HE:=Lib.hid (Qb.out (List.mem_of_getElem? HZ.out));go_wp2_with fail;go_ret;rw [HE.out];exact⟨rfl,HB.out⟩
  have q0:(z == r)=false:=(by rw [beq_eq_false_iff_ne];exact hzr);go_wp2_with fail;refine⟨⟨p+1,by omega,HI.out,?_,HB.out⟩,by rw [YQ.out,HI0.out];omega⟩;intro c hc;rw [List.take_add_one,HZ.out]at hc;rcases List.mem_append.1 hc with h | h;exact HNO.out c h;simp at h;rw [h];exact hzr
 obtain rfl:p=10:=(by omega);have hnext:=fun ty=>Lib.run_next_end_at (P:=Tryz.prog) wr w.heap.size S 10 ty hit hlt;have HB:=Lib.hid hb;have HE:=Lib.hid (HOUT.out (fun h=>hno r (by rw [List.take_of_length_le (by rw [yG.out];exact Nat.le_refl _)];exact h) rfl));clear hit qQ hno hb;go_wp2_with fail;refine(HP.out _).mono ?_;rintro e w2 ⟨rfl,aL⟩;have aW:=Lib.hid (HB.out.trans (aL.mono HB.out.size));clear aL;go_wp2_with fail;go_ret;rw [HE.out];exact⟨rfl,aW.out⟩
theorem shelf_vowels (s:ByteArray) (w:World):Calls Tryz.prog 14 #[.string s] w fun e w'=>e=.returned (.bool true)∧Below w.heap.size w w':=by
 have eg:∀ args w,(callFunc 28 args).run Tryz.prog w=.ok (.enter 28 args) w:=enters_of Tryz.func28 (by kernel_rfl) rfl;by_cases hs:s.size≤1000
 ·have FQ:=cZ s;have HBY:=Lib.hid (RX s hs 28 #[] (vowelsM) w eg (fun r=>by unfold vowelsM;split <;> simp) (fun W r hr=>vowels_by r hr W));have NW:=Lib.hid (fun(W:World)=>iM vowelsB s _ (fun W=>vowels_turn s (by omega) (by omega) W) W);have HTV:=Lib.hid (fun(W:World)=>show Calls Tryz.prog 17 #[.string vowelsB,.string (pz ((ay s 0).flatMap vowelsM)),.string (pz ((ay s 0).flatMap vowelsM))] W fun e w'=>e=.returned (.bool true)∧Below W.heap.size W w' from by
   have h1:=Aw (vowels_all (ay s 0) (fA s));have h2:=DT vowelsM 1 (ay s 0) (fun r _=>by unfold vowelsM;split <;> simp);refine iM vowelsB (pz ((ay s 0).flatMap vowelsM)) _ (fun W=>?_) W;have h3:=vowels_turn (pz ((ay s 0).flatMap vowelsM)) (by rw [h1];omega) (by have:=bN ((ay s 0).flatMap vowelsM);omega) W;rw [h1,vowels_idem]at h3;exact h3)
  have nO:=Lib.hid (fu s w);rw [decide_eq_true (show(s.size:Int)≤1000 by omega)]at nO;generalize pz ((ay s 0).flatMap (vowelsM))=T at *;clear hs eg FQ;go_enter Tryz.func14,Tryz.ntmps14;go_wp2_with fail;refine nO.out.mono ?_;rintro e w0 ⟨rfl,rfl⟩;go_wp2_with fail;refine HBY.out.mono ?_;rintro e w1 ⟨rfl,aT⟩;have bT:=Lib.hid aT;clear aT;go_wp2_with fail;refine(NW.out w1).mono ?_;rintro e w2 ⟨rfl,aL⟩;have aW:=Lib.hid (bT.out.trans (aL.mono bT.out.size));clear aL;go_wp2_with fail;refine(HTV.out w2).mono ?_;rintro e w3 ⟨rfl,bQ⟩;have bW:=Lib.hid (aW.out.trans (bQ.mono aW.out.size));clear bQ;go_wp2_with fail;go_ret;exact⟨rfl,bW.out⟩
 have nO:=Lib.hid (fu s w);rw [decide_eq_false (show ¬(s.size:Int)≤1000 by omega)]at nO;clear hs eg;go_enter Tryz.func14,Tryz.ntmps14;go_wp2_with fail;refine nO.out.mono ?_;rintro e w0 ⟨rfl,rfl⟩;go_wp2_with fail;go_ret;exact⟨rfl,Below.refl _ _⟩
end Go.Proofs.YtapechjebkjidaaGreatDoor
namespace Go.Proofs.YtapechjebkjidaaGreatDoor
theorem bulk_one {H:Type} (d:DataW H):1≤Rows.uptoBulk d:=by
 cases d with
 | lit l=>cases l <;> simp [Rows.uptoBulk]
 | nil=>simp [Rows.uptoBulk]
 | ptr d=>simp [Rows.uptoBulk]
 | slice elems spare=>simp [Rows.uptoBulk]
 | agg parts=>simp [Rows.uptoBulk]
 | iface t d=>simp [Rows.uptoBulk]
 | map entries=>simp [Rows.uptoBulk]
 | held h=>simp [Rows.uptoBulk]
theorem bulk_len {H:Type} (l:List (DataW H)):l.length≤Rows.uptoBulkAll l:=by
 induction l with
 | nil=>simp
 | cons x r ih=>have:=bulk_one x;simp only [Rows.uptoBulkAll,List.length_cons];omega
theorem bulk_slice {H:Type} {d:DataW H} {c:Nat} (h:(d=.nil∧c=0)∨∃ elems spare,d=.slice elems spare∧elems.length+spare.length=c):c≤Rows.uptoBulk d:=by
 rcases h with ⟨_,rfl⟩ | ⟨elems,spare,rfl,rfl⟩;exact Nat.zero_le _;have h1:=bulk_len elems;have h2:=bulk_len spare;simp only [Rows.uptoBulk];omega
theorem bulk_string {H:Type} (s:ByteArray):s.size≤Rows.uptoBulk (DataW.lit (H:=H) (.string s.data.toList)):=by
 have e:s.data.toList.length=s.size:=(by rw [Array.length_toList];rfl);simp only [Rows.uptoBulk];omega
theorem bulk_bound {H:Type} {l:List (DataW H)} (hk:Rows.uptoSmall H l=true):Rows.uptoBulkAll l≤1048576:=of_decide_eq_true hk
end Go.Proofs.YtapechjebkjidaaGreatDoor
namespace Go.Proofs.YtapechjebkjidaaGreatDoor
open Go.RowKit Go.ChangeShapes Go.WideShapes Go.ChangeAt Go.Shelf
open Go.ChangeMaps (open_string shut_string)
theorem shelfvowels_reads (os:Os) {H:Type} (enc:TypeId × Value→H) :
    (OpenSpec.ofChange Rows.shelfVowelsSpec).preRow enc Tryz.prog Tryz.f14 Rows.shelfVowelsRow.domain false Rows.shelfVowelsRow.laid ((cy os).forCall (fun _ _=>0) ⟨#[],#[.string ⟨#[]⟩],[]⟩).memory #[.string ⟨#[]⟩]:=by
 have hw:(DataW.whole enc Tryz.prog ((cy os).forCall (fun _ _=>0) ⟨#[],#[.string ⟨#[]⟩],[]⟩).memory Tryz.f14.params.toList Rows.shelfVowelsSpec.vars false #[.string ⟨#[]⟩].toList 8).map (fun x=>(x.1,x.2.1)) =
     some ([.lit (.string [])],[]):=by kernel_rfl
 obtain⟨⟨x1,x2,x3⟩,hx,hx1⟩:=Option.map_eq_some_iff.1 hw;simp only [Prod.mk.injEq]at hx1;obtain⟨rfl,rfl⟩:=hx1;exact OpenSpec.preRow_of_cond 8 hx (by kernel_rfl) (fun k hk=>by cases hk) (by kernel_rfl) (mz os _)
theorem shelfvowels_lifted (os:Os) (started:os.Started) (H:Type) (enc:TypeId × Value→H) (F:Stop.Interp) :
    ReturnsInHanded {} Tryz.checked os 14 .any ((OpenSpec.ofChange Rows.shelfVowelsSpec).preRow enc Tryz.prog Tryz.f14 Rows.shelfVowelsRow.domain false Rows.shelfVowelsRow.laid) (((OpenSpec.ofChange Rows.shelfVowelsSpec).at F).post enc Tryz.prog Tryz.f14 false true false false):=by
 refine returnsInHanded_of_row (C:=Tryz.checked) (s:=(OpenSpec.ofChange Rows.shelfVowelsSpec)) mF started (by kernel_rfl) Tryz.func14
   (witness_row_atRef (enc:=enc) (C:=Tryz.checked) false (cy os) #[.string ⟨#[]⟩] rfl (by kernel_rfl) (by kernel_rfl) (by kernel_rfl) (shelfvowels_reads os enc)) ?_
 intro W base args ds gs before hval hW _ _ _ _ _ _;have Ny:=hW;obtain⟨p,q,CS,hV,rfl,hfz,hnd⟩:=hW;have hA:DataW.TrodAll enc Tryz.prog W 0 (fun _=>true) true Tryz.f14.params.toList args.toList ds p:=CS;have ng:∀ (j:Nat) t v,Tryz.f14.params[j]? = some t→args[j]? = some v→Value.okWide Tryz.prog W .any base t v:=hval;rw [Tryz.params14]at hA ng;obtain⟨v0,d0,rfl,rfl,h0⟩:=trodAll_one hA;obtain⟨rfl,rfl⟩:=trodVars_none hV;obtain⟨s0,rfl,rfl,rfl,hs0⟩:=open_string Tryz.underlying9 (ng 0 _ v0 rfl rfl) h0;refine(shelf_vowels s0 W).mono fun e W' ⟨he,hb⟩=>⟨_,he,?_⟩;exact kV Tryz.underlying4 rfl rfl mQ (by kernel_rfl) Ny rfl hb
theorem shelfvowels_said:Rows.ShelfVowelsSaid :=
  OpenClaim.holds_of_cond 14 Tryz.f14 rfl rfl rfl rfl rfl rfl rfl ⟨rfl,rfl,rfl,rfl,rfl⟩ rfl rfl rfl rfl rfl (by kernel_rfl) Tryz.func14 shelfvowels_joined
    (of_decide_eq_true (by kernel_rfl)) (by unfold Func.isWrapper;first | (rw [if_pos (by decide +kernel)];kernel_rfl) | (rw [if_neg (by decide +kernel)];exact⟨rfl,rfl⟩))
    (fun os started H enc _ F=>by rw [OpenClaim.pre_eq_preRow];exact shelfvowels_lifted os started H enc F)
theorem shelfvowels_plain (f:FuncId) (fn:Func) (hf : Tryz.pinned.checked.prog.funcNamed "scriptshift/scriptlaw16.ShelfVowels" = some f) (hfn : Tryz.pinned.checked.prog.funcs[f]? = some fn) :
    true = Tryz.pinned.checked.prog.looks []∧∀ (j:Nat) t,fn.params[j]? = some t → Tryz.pinned.checked.prog.wantsStandIn t=false:=by
 obtain rfl:f = 14:=Option.some.inj ((show Tryz.prog.funcNamed "scriptshift/scriptlaw16.ShelfVowels" = some 14 by kernel_rfl).symm.trans hf) |>.symm;obtain rfl:fn = Tryz.f14:=(Option.some.inj (Tryz.func14.symm.trans hfn)).symm;refine⟨by kernel_rfl,fun j t ht=>?_⟩;have h:(Tryz.f14.params.toList.all fun t=>!Tryz.prog.wantsStandIn t)=true:=(by kernel_rfl);have h2:=List.all_eq_true.1 h t (by simpa using Array.mem_of_getElem? ht);have h3 : Tryz.prog.wantsStandIn t=false:=(by simpa using h2);exact h3
/-- THE CARD. -/
theorem shelfvowels_card:Rows.ShelfVowelsCardSaid :=
  Claim7.holds_tied_plain_at .later [] _ _ _ _ shelfvowels_said (fun _ h=>by cases h) (by kernel_rfl) (fun _ h=>by cases h) shelfVowels_row_tie rfl ⟨rfl,rfl⟩ (by kernel_rfl) rfl shelfvowels_plain (by kernel_rfl)
end Go.Proofs.YtapechjebkjidaaGreatDoor
