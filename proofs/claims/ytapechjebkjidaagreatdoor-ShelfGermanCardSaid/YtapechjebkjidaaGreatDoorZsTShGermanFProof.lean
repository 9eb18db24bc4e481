/- ShelfGerman: german writes umlauts, and sharp s, with two letters. Condition: Go's own variables are as their text lays them. -/
import Derived.Test.YtapechjebkjidaaGreatDoorCards
import Derived.Test.YtapechjebkjidaaGreatDoorRows
import Derived.Test.YtapechjebkjidaaGreatDoorShGermanJ
import Derived.Test.YtapechjebkjidaaGreatDoorTie
import Derived.Test.YtapechjebkjidaaGreatDoorZs20
import Derived.Test.YtapechjebkjidaaGreatDoorZs3
import Derived.Test.YtapechjebkjidaaGreatDoorZs32
import Derived.Test.YtapechjebkjidaaGreatDoorZs45
import Derived.Test.YtapechjebkjidaaGreatDoorZs5
set_option maxHeartbeats 3200000
set_option maxRecDepth 100000
namespace Go.Proofs.YtapechjebkjidaaGreatDoor
open Go.RowKit
/-! ### tables: one rune each -/
def QF (a:Int) (t:List Int):au:=⟨false,false,[],[[(a,a)]],[],t,t.length⟩
def qv (l:List (Int × List Int)):List au:=l.map fun p=>QF p.1 p.2
def uj:List (Int × List Int)→Int→List Int
  | [],x=>[x]
  | p::l,x=>if x=p.1 then p.2 else uj l x
theorem Gt (x:Int):∀ l:List (Int × List Int),PU (qv l) x=uj l x:=by
 intro l;induction l with
 | nil=>rfl
 | cons p l ih=>
  unfold PU qv at *;rw [List.map_cons,List.find?_cons];have:bJ (QF p.1 p.2).source [x] = decide (x=p.1):=(by simp [QF,bJ,oc]);rw [this,uj];by_cases h:x=p.1
  ·rw [decide_eq_true h,if_pos h];rfl
  rw [decide_eq_false h,if_neg h];exact ih
theorem Df (l:List (Int × List Int)):∀ r∈qv l,Plain r∧r.source.length=1:=by
 intro r hr;obtain⟨p,_,rfl⟩:=List.mem_map.1 hr;exact⟨⟨rfl,rfl,rfl,rfl,rfl⟩,rfl⟩
theorem JC (l:List (Int × List Int)) (f:Nat) (Z:List Int) (h:Z.length≤f):cP (qv l) f [] Z=Z.flatMap (uj l):=by
 rw [Me _ (Df l) f [] Z h,List.nil_append];congr 1;funext x;exact Gt x l
theorem Fv (l:List (Int × List Int)) (K:Nat) (hl:∀ p∈l,p.2.length≤K):∀ r∈qv l,zc K r:=by
 intro r hr;obtain⟨p,hp,rfl⟩:=List.mem_map.1 hr;have:=hl p hp;refine⟨?_,?_,?_,?_⟩ <;> simp [QF] <;> omega
end Go.Proofs.YtapechjebkjidaaGreatDoor
namespace Go.Proofs.YtapechjebkjidaaGreatDoor
open Go.RowKit Go.Shelf Go.Maps
def jo:List (Int × List Int):=[(228,[97,101]),(246,[111,101]),(252,[117,101]),(223,[115,115]),(196,[65,101]),(214,[79,101]),(220,[85,101])]
theorem N3 (l:List (Int × List Int)) (K:Nat) (hl:∀ p∈l,p.2.length≤K) (x:Int) (hK:1≤K:=by decide):(uj l x).length≤K:=by
 induction l with
 | nil=>simpa [uj] using hK
 | cons p l ih=>
  obtain⟨a,t⟩:=p;rw [uj];split;exact hl (a,t) (by simp);exact ih (fun p hp=>hl p (by simp [hp]))
def Cq:ByteArray:=⟨#[103,101,114,109,97,110]⟩
theorem EX:mc Cq 7 (ji (qv jo)):=⟨by decide,by kernel_rfl,by kernel_rfl,by kernel_rfl,by kernel_rfl,by kernel_rfl,by kernel_rfl⟩
theorem Ck:nE (qv jo) 2:=⟨Fv _ _ (by decide),by decide,by decide,by kernel_rfl,by kernel_rfl,by kernel_rfl,by kernel_rfl⟩
theorem CX (s:ByteArray) (hs:s.size≤1000) (w:World):Calls Tryz.prog 30 #[.string Cq,.bool false,.string s] w (iq w ((ay s 0).flatMap (uj jo))) :=
  iE EX Ck s (by have:=cZ s;omega) (by omega) _ (fun f h=>JC jo f _ h) w
theorem Kz (r:Int) (hr:aK r=true) (w:World):Calls Tryz.prog 19 #[.int .i32 r] w fun e w'=>e=.returned (.string (pz (uj jo r)))∧Below w.heap.size w w':=by
 have hmm:=@run_makeMap Tryz.prog;have HP:=Lib.hid (de r hr w);have nU:=Lib.hid (EI.made w);have ek:=Lib.hid ((Below.refl w.heap.size w).alloc (Nat.le_refl _) (.map #[] 0));by_cases h1:r=228∨r=246∨r=252
 ·clear HP hr;rcases h1 with rfl | rfl | rfl
  all_goals
    go_enter Tryz.func19,Tryz.ntmps19
    go_wp2_with (refine dX rfl (.tmp 8) _ _ rfl w.heap.size 0 _ rfl nU.out (by simp only [maxLen];omega) _ _ rfl rfl (by decide) (by decide) ?_)
    intro w1 hM hg
    have IM:=Lib.hid hM
    have bT:=Lib.hid (ek.out.grown hg ek.out.size (fun k hk=>by cases hk;exact Nat.le_refl _))
    clear hM hg
    go_wp2_with (refine dX rfl (.tmp 8) _ _ rfl w.heap.size 1 _ rfl IM.out (by simp only [maxLen];omega) _ _ rfl rfl (by decide) (by decide) ?_)
    intro w2 hM hg
    have RE:=Lib.hid hM
    have aW:=Lib.hid (bT.out.grown hg bT.out.size (fun k hk=>by cases hk;exact Nat.le_refl _))
    clear hM hg
    go_wp2_with (refine dX rfl (.tmp 8) _ _ rfl w.heap.size 2 _ rfl RE.out (by simp only [maxLen];omega) _ _ rfl rfl (by decide) (by decide) ?_)
    intro w3 hM hg
    have RK:=Lib.hid hM
    have bW:=Lib.hid (aW.out.grown hg aW.out.size (fun k hk=>by cases hk;exact Nat.le_refl _))
    clear hM hg
    go_wp2_with (refine jm rfl (.tmp 9) (.tmp 10) rfl w.heap.size 3 _ rfl RK.out _ _ rfl (by decide) (by decide) rfl ?_)
    go_wp2_with fail
    go_ret
    exact⟨rfl,bW.out⟩
 by_cases h2:r=196∨r=214∨r=220
 ·clear HP hr h1;rcases h2 with rfl | rfl | rfl
  all_goals
    go_enter Tryz.func19,Tryz.ntmps19
    go_wp2_with (refine dX rfl (.tmp 16) _ _ rfl w.heap.size 0 _ rfl nU.out (by simp only [maxLen];omega) _ _ rfl rfl (by decide) (by decide) ?_)
    intro w1 hM hg
    have IM:=Lib.hid hM
    have bT:=Lib.hid (ek.out.grown hg ek.out.size (fun k hk=>by cases hk;exact Nat.le_refl _))
    clear hM hg
    go_wp2_with (refine dX rfl (.tmp 16) _ _ rfl w.heap.size 1 _ rfl IM.out (by simp only [maxLen];omega) _ _ rfl rfl (by decide) (by decide) ?_)
    intro w2 hM hg
    have RE:=Lib.hid hM
    have aW:=Lib.hid (bT.out.grown hg bT.out.size (fun k hk=>by cases hk;exact Nat.le_refl _))
    clear hM hg
    go_wp2_with (refine dX rfl (.tmp 16) _ _ rfl w.heap.size 2 _ rfl RE.out (by simp only [maxLen];omega) _ _ rfl rfl (by decide) (by decide) ?_)
    intro w3 hM hg
    have RK:=Lib.hid hM
    have bW:=Lib.hid (aW.out.grown hg aW.out.size (fun k hk=>by cases hk;exact Nat.le_refl _))
    clear hM hg
    go_wp2_with (refine jm rfl (.tmp 17) (.tmp 18) rfl w.heap.size 3 _ rfl RK.out _ _ rfl (by decide) (by decide) rfl ?_)
    go_wp2_with fail
    go_ret
    exact⟨rfl,bW.out⟩
 by_cases h3:r=223
 ·subst h3;clear HP hr h1 h2;go_enter Tryz.func19,Tryz.ntmps19;go_wp2_with fail;go_ret;exact⟨rfl,Below.refl _ _⟩
 have q0:(r == 228)=false:=(by rw [beq_eq_false_iff_ne];omega);have q1:(r == 246)=false:=(by rw [beq_eq_false_iff_ne];omega);have q2:(r == 252)=false:=(by rw [beq_eq_false_iff_ne];omega);have q3:(r == 196)=false:=(by rw [beq_eq_false_iff_ne];omega);have q4:(r == 214)=false:=(by rw [beq_eq_false_iff_ne];omega);have q5:(r == 220)=false:=(by rw [beq_eq_false_iff_ne];omega);have q6:(r == 223)=false:=(by rw [beq_eq_false_iff_ne];omega);have HV:=Lib.hid (show uj jo r = [r] by
  simp only [jo,uj];repeat rw [if_neg (by omega)])
 clear h1 h2 h3;go_enter Tryz.func19,Tryz.ntmps19;go_wp2_with fail;refine HP.out.mono ?_;rintro e w1 ⟨rfl,aT⟩;have bT:=Lib.hid aT;clear aT;go_wp2_with fail;go_ret;rw [HV.out];exact⟨rfl,bT.out⟩
theorem Bc (s:ByteArray) (w:World):Calls Tryz.prog 3 #[.string s] w fun e w'=>e=.returned (.bool true)∧Below w.heap.size w w':=by
 have eg:∀ args w,(callFunc 19 args).run Tryz.prog w=.ok (.enter 19 args) w:=enters_of Tryz.func19 (by kernel_rfl) rfl;by_cases hs:s.size≤1000
 ·have HBY:=Lib.hid (RX s hs 19 #[] (uj jo) w eg (fun r=>Nat.le_trans (N3 jo 2 (by decide) r) (by decide)) (fun W r hr=>Kz r hr W));have NW:=Lib.hid (fun(W:World)=>iM Cq s _ (fun W=>CX s hs W) W);have nO:=Lib.hid (fu s w);rw [decide_eq_true (show(s.size:Int)≤1000 by omega)]at nO;generalize pz ((ay s 0).flatMap (uj jo))=T at *;clear hs eg;go_enter Tryz.func3,Tryz.ntmps3;go_wp2_with fail;refine nO.out.mono ?_;rintro e w0 ⟨rfl,rfl⟩;go_wp2_with fail;refine HBY.out.mono ?_;rintro e w1 ⟨rfl,aT⟩;have bT:=Lib.hid aT;clear aT;go_wp2_with fail;refine(NW.out w1).mono ?_;rintro e w2 ⟨rfl,aL⟩;have aW:=Lib.hid (bT.out.trans (aL.mono bT.out.size));clear aL;go_wp2_with fail;go_ret;exact⟨rfl,aW.out⟩
 have nO:=Lib.hid (fu s w);rw [decide_eq_false (show ¬(s.size:Int)≤1000 by omega)]at nO;clear hs eg;go_enter Tryz.func3,Tryz.ntmps3;go_wp2_with fail;refine nO.out.mono ?_;rintro e w0 ⟨rfl,rfl⟩;go_wp2_with fail;go_ret;exact⟨rfl,Below.refl _ _⟩
end Go.Proofs.YtapechjebkjidaaGreatDoor
namespace Go.Proofs.YtapechjebkjidaaGreatDoor
theorem bulk_one {H:Type} (d:DataW H):1≤Rows.uptoBulk d:=by
 cases d with
 | lit l=>cases l <;> simp [Rows.uptoBulk]
 | nil=>simp [Rows.uptoBulk]
 | ptr d=>simp [Rows.uptoBulk]
 | slice elems spare=>simp [Rows.uptoBulk]
 | agg parts=>simp [Rows.uptoBulk]
 | iface t d=>simp [Rows.uptoBulk]
 | map entries=>simp [Rows.uptoBulk]
 | held h=>simp [Rows.uptoBulk]
theorem bulk_len {H:Type} (l:List (DataW H)):l.length≤Rows.uptoBulkAll l:=by
 induction l with
 | nil=>simp
 | cons x r ih=>have:=bulk_one x;simp only [Rows.uptoBulkAll,List.length_cons];omega
theorem bulk_slice {H:Type} {d:DataW H} {c:Nat} (h:(d=.nil∧c=0)∨∃ elems spare,d=.slice elems spare∧elems.length+spare.length=c):c≤Rows.uptoBulk d:=by
 rcases h with ⟨_,rfl⟩ | ⟨elems,spare,rfl,rfl⟩;exact Nat.zero_le _;have h1:=bulk_len elems;have h2:=bulk_len spare;simp only [Rows.uptoBulk];omega
theorem bulk_string {H:Type} (s:ByteArray):s.size≤Rows.uptoBulk (DataW.lit (H:=H) (.string s.data.toList)):=by
 have e:s.data.toList.length=s.size:=(by rw [Array.length_toList];rfl);simp only [Rows.uptoBulk];omega
theorem bulk_bound {H:Type} {l:List (DataW H)} (hk:Rows.uptoSmall H l=true):Rows.uptoBulkAll l≤1048576:=of_decide_eq_true hk
end Go.Proofs.YtapechjebkjidaaGreatDoor
namespace Go.Proofs.YtapechjebkjidaaGreatDoor
open Go.RowKit Go.ChangeShapes Go.WideShapes Go.ChangeAt Go.Shelf
open Go.ChangeMaps (open_string shut_string)
theorem sQ (os:Os) {H:Type} (enc:TypeId × Value→H) :
    (OpenSpec.ofChange Rows.shelfGermanSpec).preRow enc Tryz.prog Tryz.f3 Rows.shelfGermanRow.domain false Rows.shelfGermanRow.laid ((cy os).forCall (fun _ _=>0) ⟨#[],#[.string ⟨#[]⟩],[]⟩).memory #[.string ⟨#[]⟩]:=by
 have hw:(DataW.whole enc Tryz.prog ((cy os).forCall (fun _ _=>0) ⟨#[],#[.string ⟨#[]⟩],[]⟩).memory Tryz.f3.params.toList Rows.shelfGermanSpec.vars false #[.string ⟨#[]⟩].toList 8).map (fun x=>(x.1,x.2.1)) =
     some ([.lit (.string [])],[]):=by kernel_rfl
 obtain⟨⟨x1,x2,x3⟩,hx,hx1⟩:=Option.map_eq_some_iff.1 hw;simp only [Prod.mk.injEq]at hx1;obtain⟨rfl,rfl⟩:=hx1;exact OpenSpec.preRow_of_cond 8 hx (by kernel_rfl) (fun k hk=>by cases hk) (by kernel_rfl) (mz os _)
theorem qz (os:Os) (started:os.Started) (H:Type) (enc:TypeId × Value→H) (F:Stop.Interp) :
    ReturnsInHanded {} Tryz.checked os 3 .any ((OpenSpec.ofChange Rows.shelfGermanSpec).preRow enc Tryz.prog Tryz.f3 Rows.shelfGermanRow.domain false Rows.shelfGermanRow.laid) (((OpenSpec.ofChange Rows.shelfGermanSpec).at F).post enc Tryz.prog Tryz.f3 false true false false):=by
 refine returnsInHanded_of_row (C:=Tryz.checked) (s:=(OpenSpec.ofChange Rows.shelfGermanSpec)) mF started (by kernel_rfl) Tryz.func3
   (witness_row_atRef (enc:=enc) (C:=Tryz.checked) false (cy os) #[.string ⟨#[]⟩] rfl (by kernel_rfl) (by kernel_rfl) (by kernel_rfl) (sQ os enc)) ?_
 intro W base args ds gs before hval hW _ _ _ _ _ _;have Ny:=hW;obtain⟨p,q,CS,hV,rfl,hfz,hnd⟩:=hW;have hA:DataW.TrodAll enc Tryz.prog W 0 (fun _=>true) true Tryz.f3.params.toList args.toList ds p:=CS;have ng:∀ (j:Nat) t v,Tryz.f3.params[j]? = some t→args[j]? = some v→Value.okWide Tryz.prog W .any base t v:=hval;rw [Tryz.params3]at hA ng;obtain⟨v0,d0,rfl,rfl,h0⟩:=trodAll_one hA;obtain⟨rfl,rfl⟩:=trodVars_none hV;obtain⟨s0,rfl,rfl,rfl,hs0⟩:=open_string Tryz.underlying9 (ng 0 _ v0 rfl rfl) h0;refine(Bc s0 W).mono fun e W' ⟨he,hb⟩=>⟨_,he,?_⟩;exact kV Tryz.underlying4 rfl rfl mQ (by kernel_rfl) Ny rfl hb
theorem tu:Rows.ShelfGermanSaid :=
  OpenClaim.holds_of_cond 3 Tryz.f3 rfl rfl rfl rfl rfl rfl rfl ⟨rfl,rfl,rfl,rfl,rfl⟩ rfl rfl rfl rfl rfl (by kernel_rfl) Tryz.func3 shelfgerman_joined
    (of_decide_eq_true (by kernel_rfl)) (by unfold Func.isWrapper;first | (rw [if_pos (by decide +kernel)];kernel_rfl) | (rw [if_neg (by decide +kernel)];exact⟨rfl,rfl⟩))
    (fun os started H enc _ F=>by rw [OpenClaim.pre_eq_preRow];exact qz os started H enc F)
theorem rJ (f:FuncId) (fn:Func) (hf : Tryz.pinned.checked.prog.funcNamed "scriptshift/scriptlaw16.ShelfGerman" = some f) (hfn : Tryz.pinned.checked.prog.funcs[f]? = some fn) :
    true = Tryz.pinned.checked.prog.looks []∧∀ (j:Nat) t,fn.params[j]? = some t → Tryz.pinned.checked.prog.wantsStandIn t=false:=by
 obtain rfl:f = 3:=Option.some.inj ((show Tryz.prog.funcNamed "scriptshift/scriptlaw16.ShelfGerman" = some 3 by kernel_rfl).symm.trans hf) |>.symm;obtain rfl:fn = Tryz.f3:=(Option.some.inj (Tryz.func3.symm.trans hfn)).symm;refine⟨by kernel_rfl,fun j t ht=>?_⟩;have h:(Tryz.f3.params.toList.all fun t=>!Tryz.prog.wantsStandIn t)=true:=(by kernel_rfl);have h2:=List.all_eq_true.1 h t (by simpa using Array.mem_of_getElem? ht);have h3 : Tryz.prog.wantsStandIn t=false:=(by simpa using h2);exact h3
/-- THE CARD. -/
theorem shelfgerman_card:Rows.ShelfGermanCardSaid :=
  Claim7.holds_tied_plain_at .later [] _ _ _ _ tu (fun _ h=>by cases h) (by kernel_rfl) (fun _ h=>by cases h) shelfGerman_row_tie rfl ⟨rfl,rfl⟩ (by kernel_rfl) rfl rJ (by kernel_rfl)
end Go.Proofs.YtapechjebkjidaaGreatDoor
