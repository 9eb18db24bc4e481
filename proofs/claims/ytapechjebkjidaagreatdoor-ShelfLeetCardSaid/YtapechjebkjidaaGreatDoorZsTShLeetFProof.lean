/- ShelfLeet: leet writes small letters, and numbers for some of them. Condition: Go's own variables are as their text lays them. -/
import Derived.Test.YtapechjebkjidaaGreatDoorCards
import Derived.Test.YtapechjebkjidaaGreatDoorRows
import Derived.Test.YtapechjebkjidaaGreatDoorShLeetJ
import Derived.Test.YtapechjebkjidaaGreatDoorTie
import Derived.Test.YtapechjebkjidaaGreatDoorZs20
import Derived.Test.YtapechjebkjidaaGreatDoorZs3
import Derived.Test.YtapechjebkjidaaGreatDoorZs32
import Derived.Test.YtapechjebkjidaaGreatDoorZs45
import Derived.Test.YtapechjebkjidaaGreatDoorZs5
import Derived.Test.YtapechjebkjidaaGreatDoorZs7
set_option maxHeartbeats 3200000
set_option maxRecDepth 100000
namespace Go.Proofs.YtapechjebkjidaaGreatDoor
open Go.RowKit
/-! ### tables: one rune each -/
def QF (a:Int) (t:List Int):au:=⟨false,false,[],[[(a,a)]],[],t,t.length⟩
def qv (l:List (Int × List Int)):List au:=l.map fun p=>QF p.1 p.2
def uj:List (Int × List Int)→Int→List Int
  | [],x=>[x]
  | p::l,x=>if x=p.1 then p.2 else uj l x
theorem Gt (x:Int):∀ l:List (Int × List Int),PU (qv l) x=uj l x:=by
 intro l;induction l with
 | nil=>rfl
 | cons p l ih=>
  unfold PU qv at *;rw [List.map_cons,List.find?_cons];have:bJ (QF p.1 p.2).source [x] = decide (x=p.1):=(by simp [QF,bJ,oc]);rw [this,uj];by_cases h:x=p.1
  ·rw [decide_eq_true h,if_pos h];rfl
  rw [decide_eq_false h,if_neg h];exact ih
theorem Df (l:List (Int × List Int)):∀ r∈qv l,Plain r∧r.source.length=1:=by
 intro r hr;obtain⟨p,_,rfl⟩:=List.mem_map.1 hr;exact⟨⟨rfl,rfl,rfl,rfl,rfl⟩,rfl⟩
theorem JC (l:List (Int × List Int)) (f:Nat) (Z:List Int) (h:Z.length≤f):cP (qv l) f [] Z=Z.flatMap (uj l):=by
 rw [Me _ (Df l) f [] Z h,List.nil_append];congr 1;funext x;exact Gt x l
theorem Fv (l:List (Int × List Int)) (K:Nat) (hl:∀ p∈l,p.2.length≤K):∀ r∈qv l,zc K r:=by
 intro r hr;obtain⟨p,hp,rfl⟩:=List.mem_map.1 hr;have:=hl p hp;refine⟨?_,?_,?_,?_⟩ <;> simp [QF] <;> omega
end Go.Proofs.YtapechjebkjidaaGreatDoor
namespace Go.Proofs.YtapechjebkjidaaGreatDoor
open Go.RowKit Go.Shelf Go.Maps
def leetT:List (Int × List Int):=[(97,[52]),(101,[51]),(105,[49]),(111,[48]),(115,[53]),(116,[55])]
def leetB:ByteArray:=⟨#[108,101,101,116]⟩
def lowerB:ByteArray:=⟨#[108,111,119,101,114]⟩
def leetS:bl:=⟨false,[],[⟨lowerB,[]⟩,⟨⟨#[]⟩,qv leetT⟩]⟩
theorem leet_file:mc leetB 9 leetS:=⟨by decide,by kernel_rfl,by kernel_rfl,by kernel_rfl,by kernel_rfl,by kernel_rfl,by kernel_rfl⟩
theorem leet_w:(cI leetS).1=0:=by kernel_rfl
theorem leet_rules:nE (qv leetT) 1:=⟨Fv _ _ (by decide),by decide,by decide,by kernel_rfl,by kernel_rfl,by kernel_rfl,by kernel_rfl⟩
theorem low_right {r:Int} (h:aK r=true):aK (qx r)=true:=by
 rw [P4];simp only [aK,decide_eq_true_eq]at h ⊢;split;omega;split <;> omega
theorem low_all {l:List Int} (h:l.all aK=true):(l.map qx).all aK=true:=by
 rw [List.all_map];exact List.all_eq_true.2 fun x hx=>low_right (List.all_eq_true.1 h x hx)
theorem is_lower:isUpper lowerB=false∧isLower lowerB=true:=⟨by kernel_rfl,by kernel_rfl⟩
theorem leet_go (t:List Int) (hr:t.all aK=true) (hl:t.length≤1000):LO leetS t=(t.flatMap fun r=>uj leetT (qx r),(0,0)):=by
 have g:=leet_rules;have ht:=E1 hr (by omega);have hm:=E1 (low_all hr) (by rw [List.length_map];omega);obtain⟨p1,p2⟩:=tE (qv leetT) 1 g.one g.goes (t.map qx) g.rules g.heads hm (by rw [List.length_map];omega);rw [JC leetT _ _ (by omega),List.flatMap_map]at p1;have h1:iI ⟨lowerB,[]⟩ t=(t.map qx,0):=by
  unfold iI;rw [if_neg (by rw [is_lower.1];decide),if_pos is_lower.2]
 have hall:allI 0 leetS.passes t=(t.flatMap fun r=>uj leetT (qx r),(0,0)):=by
  show allI 0 [⟨lowerB,[]⟩,⟨⟨#[]⟩,qv leetT⟩] t=_;rw [allI,h1,allI,xS,p2,p1];rfl
 have hg:nW leetS t [] [] =(t.flatMap fun r=>uj leetT (qx r),(0,0)):=by
  rw [Ik rfl,List.nil_append];unfold iG;by_cases h0:t = []
  ·rw [if_pos h0,h0];rfl
  rw [if_neg h0,hall];rfl
 have hlen:=qJ (qv leetT) (t.map qx);rw [p1]at hlen;unfold LO;rw [if_neg (by rw [leet_w];decide),if_neg (by rw [ht];decide),hg,if_neg (fun h=>h rfl),if_neg (by simpa using hlen)]
theorem leetT_one (x:Int):(uj leetT x).length=1:=by
 simp only [leetT,uj];(repeat (split;rfl));rfl
theorem leetT_right {x:Int} (h:aK x=true):(uj leetT x).all aK=true:=by
 simp only [leetT,uj];(repeat (split;rfl));simp [h]
theorem leet_turn (s:ByteArray) (hs:(ay s 0).length≤1000) (nN:s.size≤100000) (w:World):Calls Tryz.prog 30 #[.string leetB,.bool false,.string s] w (iq w ((ay s 0).flatMap fun r=>uj leetT (qx r))) :=
  I3 leetB false s nN leetS _ (leet_go _ (fA s) hs) (List.all_eq_true.2 fun x hx=>by
    obtain⟨r,h1,h2⟩:=List.mem_flatMap.1 hx
    exact List.all_eq_true.1 (leetT_right (low_right (List.all_eq_true.1 (fA s) r h1))) x h2)
    (by have:=DT (fun r=>uj leetT (qx r)) 1 (ay s 0) (fun r _=>Nat.le_of_eq (leetT_one _));omega) leet_file.BO w
theorem leet_by (r:Int) (hr:aK r=true) (w:World):Calls Tryz.prog 21 #[.int .i32 r] w fun e w'=>e=.returned (.string (pz (uj leetT (qx r))))∧Below w.heap.size w w':=by
 have hmm:=@run_makeMap Tryz.prog;have ZU:=Lib.hid (K4 r w);have hx:=low_right hr;generalize qx r=x at *;have nU:=Lib.hid (EI.made w);have ek:=Lib.hid ((Below.refl w.heap.size w).alloc (Nat.le_refl _) (.map #[] 0));clear hr;by_cases h1:x=97∨x=101∨x=105∨x=111∨x=115∨x=116
 ·rcases h1 with rfl | rfl | rfl | rfl | rfl | rfl
  all_goals
    go_enter Tryz.func21,Tryz.ntmps21
    go_wp2_with fail
    refine ZU.out.mono ?_
    rintro e w0 ⟨rfl,rfl⟩
    go_wp2_with (refine dX rfl (.tmp 8) _ _ rfl w0.heap.size 0 _ rfl nU.out (by simp only [maxLen];omega) _ _ rfl rfl (by decide) (by decide) ?_)
    intro w1 hM hg
    have IM:=Lib.hid hM
    have bT:=Lib.hid (ek.out.grown hg ek.out.size (fun k hk=>by cases hk;exact Nat.le_refl _))
    clear hM hg
    go_wp2_with (refine dX rfl (.tmp 8) _ _ rfl w0.heap.size 1 _ rfl IM.out (by simp only [maxLen];omega) _ _ rfl rfl (by decide) (by decide) ?_)
    intro w2 hM hg
    have RE:=Lib.hid hM
    have aW:=Lib.hid (bT.out.grown hg bT.out.size (fun k hk=>by cases hk;exact Nat.le_refl _))
    clear hM hg
    go_wp2_with (refine dX rfl (.tmp 8) _ _ rfl w0.heap.size 2 _ rfl RE.out (by simp only [maxLen];omega) _ _ rfl rfl (by decide) (by decide) ?_)
    intro w3 hM hg
    have RK:=Lib.hid hM
    have bW:=Lib.hid (aW.out.grown hg aW.out.size (fun k hk=>by cases hk;exact Nat.le_refl _))
    clear hM hg
    go_wp2_with (refine dX rfl (.tmp 8) _ _ rfl w0.heap.size 3 _ rfl RK.out (by simp only [maxLen];omega) _ _ rfl rfl (by decide) (by decide) ?_)
    intro w4 hM hg
    have Zb:=Lib.hid hM
    have eM:=Lib.hid (bW.out.grown hg bW.out.size (fun k hk=>by cases hk;exact Nat.le_refl _))
    clear hM hg
    go_wp2_with (refine dX rfl (.tmp 8) _ _ rfl w0.heap.size 4 _ rfl Zb.out (by simp only [maxLen];omega) _ _ rfl rfl (by decide) (by decide) ?_)
    intro w5 hM hg
    have Uw:=Lib.hid hM
    have eK:=Lib.hid (eM.out.grown hg eM.out.size (fun k hk=>by cases hk;exact Nat.le_refl _))
    clear hM hg
    go_wp2_with (refine dX rfl (.tmp 8) _ _ rfl w0.heap.size 5 _ rfl Uw.out (by simp only [maxLen];omega) _ _ rfl rfl (by decide) (by decide) ?_)
    intro w6 hM hg
    have Uf:=Lib.hid hM
    have iS:=Lib.hid (eK.out.grown hg eK.out.size (fun k hk=>by cases hk;exact Nat.le_refl _))
    clear hM hg
    go_wp2_with (refine sW rfl (.tmp 9) (.tmp 10) rfl w0.heap.size 6 _ rfl Uf.out _ rfl (by decide) (by decide) _ true rfl (fun h=>by cases h) ?_)
    go_wp2_with fail
    go_ret
    exact⟨rfl,iS.out⟩
 have rE:=jJ hx;have HP:=Lib.hid (fun(W:World)=>de x hx W);have HV:=Lib.hid (show uj leetT x = [x] by
  simp only [leetT,uj];repeat rw [if_neg (by omega)])
 have HK:=Lib.hid h1;clear h1;go_enter Tryz.func21,Tryz.ntmps21;go_wp2_with fail;refine ZU.out.mono ?_;rintro e w0 ⟨rfl,rfl⟩;go_wp2_with (refine dX rfl (.tmp 8) _ _ rfl w0.heap.size 0 _ rfl nU.out (by simp only [maxLen];omega) _ _ rfl rfl (by decide) (by decide) ?_);intro w1 hM hg;have IM:=Lib.hid hM;have bT:=Lib.hid (ek.out.grown hg ek.out.size (fun k hk=>by cases hk;exact Nat.le_refl _));clear hM hg;go_wp2_with (refine dX rfl (.tmp 8) _ _ rfl w0.heap.size 1 _ rfl IM.out (by simp only [maxLen];omega) _ _ rfl rfl (by decide) (by decide) ?_);intro w2 hM hg;have RE:=Lib.hid hM;have aW:=Lib.hid (bT.out.grown hg bT.out.size (fun k hk=>by cases hk;exact Nat.le_refl _));clear hM hg;go_wp2_with (refine dX rfl (.tmp 8) _ _ rfl w0.heap.size 2 _ rfl RE.out (by simp only [maxLen];omega) _ _ rfl rfl (by decide) (by decide) ?_);intro w3 hM hg;have RK:=Lib.hid hM;have bW:=Lib.hid (aW.out.grown hg aW.out.size (fun k hk=>by cases hk;exact Nat.le_refl _));clear hM hg;go_wp2_with (refine dX rfl (.tmp 8) _ _ rfl w0.heap.size 3 _ rfl RK.out (by simp only [maxLen];omega) _ _ rfl rfl (by decide) (by decide) ?_);intro w4 hM hg;have Zb:=Lib.hid hM;have eM:=Lib.hid (bW.out.grown hg bW.out.size (fun k hk=>by cases hk;exact Nat.le_refl _));clear hM hg;go_wp2_with (refine dX rfl (.tmp 8) _ _ rfl w0.heap.size 4 _ rfl Zb.out (by simp only [maxLen];omega) _ _ rfl rfl (by decide) (by decide) ?_);intro w5 hM hg;have Uw:=Lib.hid hM;have eK:=Lib.hid (eM.out.grown hg eM.out.size (fun k hk=>by cases hk;exact Nat.le_refl _));clear hM hg;go_wp2_with (refine dX rfl (.tmp 8) _ _ rfl w0.heap.size 5 _ rfl Uw.out (by simp only [maxLen];omega) _ _ rfl rfl (by decide) (by decide) ?_);intro w6 hM hg;have Uf:=Lib.hid hM
 have iS:=Lib.hid (eK.out.grown hg eK.out.size (fun k hk=>by cases hk;exact Nat.le_refl _));clear hM hg;go_wp2_with (refine sW rfl (.tmp 9) (.tmp 10) rfl w0.heap.size 6 _ rfl Uf.out x rfl (by omega) (by omega) ⟨#[]⟩ false (show Eg _ x=none from by have h:=HK.out;simp only [Eg];repeat rw [if_neg (by omega)]) (fun _=>rfl) ?_);go_wp2_with fail;refine(HP.out _).mono ?_;rintro e w7 ⟨rfl,iB⟩;have mW:=Lib.hid (iS.out.trans (iB.mono iS.out.size));clear iB;go_wp2_with fail;go_ret;rw [HV.out];exact⟨rfl,mW.out⟩
theorem shelf_leet (s:ByteArray) (w:World):Calls Tryz.prog 4 #[.string s] w fun e w'=>e=.returned (.bool true)∧Below w.heap.size w w':=by
 have eg:∀ args w,(callFunc 21 args).run Tryz.prog w=.ok (.enter 21 args) w:=enters_of Tryz.func21 (by kernel_rfl) rfl;by_cases hs:s.size≤1000
 ·have FQ:=cZ s;have HBY:=Lib.hid (RX s hs 21 #[] (fun r=>uj leetT (qx r)) w eg (fun r=>by rw [leetT_one];omega) (fun W r hr=>leet_by r hr W));have NW:=Lib.hid (fun(W:World)=>iM leetB s _ (fun W=>leet_turn s (by omega) (by omega) W) W);have nO:=Lib.hid (fu s w);rw [decide_eq_true (show(s.size:Int)≤1000 by omega)]at nO;generalize pz ((ay s 0).flatMap fun r=>uj leetT (qx r))=T at *;clear hs eg FQ;go_enter Tryz.func4,Tryz.ntmps4;go_wp2_with fail;refine nO.out.mono ?_;rintro e w0 ⟨rfl,rfl⟩;go_wp2_with fail;refine HBY.out.mono ?_;rintro e w1 ⟨rfl,aT⟩;have bT:=Lib.hid aT;clear aT;go_wp2_with fail;refine(NW.out w1).mono ?_;rintro e w2 ⟨rfl,aL⟩;have aW:=Lib.hid (bT.out.trans (aL.mono bT.out.size));clear aL;go_wp2_with fail;go_ret;exact⟨rfl,aW.out⟩
 have nO:=Lib.hid (fu s w);rw [decide_eq_false (show ¬(s.size:Int)≤1000 by omega)]at nO;clear hs eg;go_enter Tryz.func4,Tryz.ntmps4;go_wp2_with fail;refine nO.out.mono ?_;rintro e w0 ⟨rfl,rfl⟩;go_wp2_with fail;go_ret;exact⟨rfl,Below.refl _ _⟩
end Go.Proofs.YtapechjebkjidaaGreatDoor
namespace Go.Proofs.YtapechjebkjidaaGreatDoor
theorem bulk_one {H:Type} (d:DataW H):1≤Rows.uptoBulk d:=by
 cases d with
 | lit l=>cases l <;> simp [Rows.uptoBulk]
 | nil=>simp [Rows.uptoBulk]
 | ptr d=>simp [Rows.uptoBulk]
 | slice elems spare=>simp [Rows.uptoBulk]
 | agg parts=>simp [Rows.uptoBulk]
 | iface t d=>simp [Rows.uptoBulk]
 | map entries=>simp [Rows.uptoBulk]
 | held h=>simp [Rows.uptoBulk]
theorem bulk_len {H:Type} (l:List (DataW H)):l.length≤Rows.uptoBulkAll l:=by
 induction l with
 | nil=>simp
 | cons x r ih=>have:=bulk_one x;simp only [Rows.uptoBulkAll,List.length_cons];omega
theorem bulk_slice {H:Type} {d:DataW H} {c:Nat} (h:(d=.nil∧c=0)∨∃ elems spare,d=.slice elems spare∧elems.length+spare.length=c):c≤Rows.uptoBulk d:=by
 rcases h with ⟨_,rfl⟩ | ⟨elems,spare,rfl,rfl⟩;exact Nat.zero_le _;have h1:=bulk_len elems;have h2:=bulk_len spare;simp only [Rows.uptoBulk];omega
theorem bulk_string {H:Type} (s:ByteArray):s.size≤Rows.uptoBulk (DataW.lit (H:=H) (.string s.data.toList)):=by
 have e:s.data.toList.length=s.size:=(by rw [Array.length_toList];rfl);simp only [Rows.uptoBulk];omega
theorem bulk_bound {H:Type} {l:List (DataW H)} (hk:Rows.uptoSmall H l=true):Rows.uptoBulkAll l≤1048576:=of_decide_eq_true hk
end Go.Proofs.YtapechjebkjidaaGreatDoor
namespace Go.Proofs.YtapechjebkjidaaGreatDoor
open Go.RowKit Go.ChangeShapes Go.WideShapes Go.ChangeAt Go.Shelf
open Go.ChangeMaps (open_string shut_string)
theorem shelfleet_reads (os:Os) {H:Type} (enc:TypeId × Value→H) :
    (OpenSpec.ofChange Rows.shelfLeetSpec).preRow enc Tryz.prog Tryz.f4 Rows.shelfLeetRow.domain false Rows.shelfLeetRow.laid ((cy os).forCall (fun _ _=>0) ⟨#[],#[.string ⟨#[]⟩],[]⟩).memory #[.string ⟨#[]⟩]:=by
 have hw:(DataW.whole enc Tryz.prog ((cy os).forCall (fun _ _=>0) ⟨#[],#[.string ⟨#[]⟩],[]⟩).memory Tryz.f4.params.toList Rows.shelfLeetSpec.vars false #[.string ⟨#[]⟩].toList 8).map (fun x=>(x.1,x.2.1)) =
     some ([.lit (.string [])],[]):=by kernel_rfl
 obtain⟨⟨x1,x2,x3⟩,hx,hx1⟩:=Option.map_eq_some_iff.1 hw;simp only [Prod.mk.injEq]at hx1;obtain⟨rfl,rfl⟩:=hx1;exact OpenSpec.preRow_of_cond 8 hx (by kernel_rfl) (fun k hk=>by cases hk) (by kernel_rfl) (mz os _)
theorem shelfleet_lifted (os:Os) (started:os.Started) (H:Type) (enc:TypeId × Value→H) (F:Stop.Interp) :
    ReturnsInHanded {} Tryz.checked os 4 .any ((OpenSpec.ofChange Rows.shelfLeetSpec).preRow enc Tryz.prog Tryz.f4 Rows.shelfLeetRow.domain false Rows.shelfLeetRow.laid) (((OpenSpec.ofChange Rows.shelfLeetSpec).at F).post enc Tryz.prog Tryz.f4 false true false false):=by
 refine returnsInHanded_of_row (C:=Tryz.checked) (s:=(OpenSpec.ofChange Rows.shelfLeetSpec)) mF started (by kernel_rfl) Tryz.func4
   (witness_row_atRef (enc:=enc) (C:=Tryz.checked) false (cy os) #[.string ⟨#[]⟩] rfl (by kernel_rfl) (by kernel_rfl) (by kernel_rfl) (shelfleet_reads os enc)) ?_
 intro W base args ds gs before hval hW _ _ _ _ _ _;have Ny:=hW;obtain⟨p,q,CS,hV,rfl,hfz,hnd⟩:=hW;have hA:DataW.TrodAll enc Tryz.prog W 0 (fun _=>true) true Tryz.f4.params.toList args.toList ds p:=CS;have ng:∀ (j:Nat) t v,Tryz.f4.params[j]? = some t→args[j]? = some v→Value.okWide Tryz.prog W .any base t v:=hval;rw [Tryz.params4]at hA ng;obtain⟨v0,d0,rfl,rfl,h0⟩:=trodAll_one hA;obtain⟨rfl,rfl⟩:=trodVars_none hV;obtain⟨s0,rfl,rfl,rfl,hs0⟩:=open_string Tryz.underlying9 (ng 0 _ v0 rfl rfl) h0;refine(shelf_leet s0 W).mono fun e W' ⟨he,hb⟩=>⟨_,he,?_⟩;exact kV Tryz.underlying4 rfl rfl mQ (by kernel_rfl) Ny rfl hb
theorem shelfleet_said:Rows.ShelfLeetSaid :=
  OpenClaim.holds_of_cond 4 Tryz.f4 rfl rfl rfl rfl rfl rfl rfl ⟨rfl,rfl,rfl,rfl,rfl⟩ rfl rfl rfl rfl rfl (by kernel_rfl) Tryz.func4 shelfleet_joined
    (of_decide_eq_true (by kernel_rfl)) (by unfold Func.isWrapper;first | (rw [if_pos (by decide +kernel)];kernel_rfl) | (rw [if_neg (by decide +kernel)];exact⟨rfl,rfl⟩))
    (fun os started H enc _ F=>by rw [OpenClaim.pre_eq_preRow];exact shelfleet_lifted os started H enc F)
theorem shelfleet_plain (f:FuncId) (fn:Func) (hf : Tryz.pinned.checked.prog.funcNamed "scriptshift/scriptlaw16.ShelfLeet" = some f) (hfn : Tryz.pinned.checked.prog.funcs[f]? = some fn) :
    true = Tryz.pinned.checked.prog.looks []∧∀ (j:Nat) t,fn.params[j]? = some t → Tryz.pinned.checked.prog.wantsStandIn t=false:=by
 obtain rfl:f = 4:=Option.some.inj ((show Tryz.prog.funcNamed "scriptshift/scriptlaw16.ShelfLeet" = some 4 by kernel_rfl).symm.trans hf) |>.symm;obtain rfl:fn = Tryz.f4:=(Option.some.inj (Tryz.func4.symm.trans hfn)).symm;refine⟨by kernel_rfl,fun j t ht=>?_⟩;have h:(Tryz.f4.params.toList.all fun t=>!Tryz.prog.wantsStandIn t)=true:=(by kernel_rfl);have h2:=List.all_eq_true.1 h t (by simpa using Array.mem_of_getElem? ht);have h3 : Tryz.prog.wantsStandIn t=false:=(by simpa using h2);exact h3
/-- THE CARD. -/
theorem shelfleet_card:Rows.ShelfLeetCardSaid :=
  Claim7.holds_tied_plain_at .later [] _ _ _ _ shelfleet_said (fun _ h=>by cases h) (by kernel_rfl) (fun _ h=>by cases h) shelfLeet_row_tie rfl ⟨rfl,rfl⟩ (by kernel_rfl) rfl shelfleet_plain (by kernel_rfl)
end Go.Proofs.YtapechjebkjidaaGreatDoor
