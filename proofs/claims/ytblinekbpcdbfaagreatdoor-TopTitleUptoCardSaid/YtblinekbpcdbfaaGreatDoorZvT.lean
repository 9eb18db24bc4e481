/- TopTitle: with great letters first a text has the same letters, and the same marks. Conditions: what the law reads is of bulk at most 1048576 (the statement of the second form); Go's own variables are as their text lays them. -/
import Derived.Test.YtblinekbpcdbfaaGreatDoorZv43
import Derived.Test.YtblinekbpcdbfaaGreatDoorZv5
import Derived.Test.YtblinekbpcdbfaaGreatDoorZv11
import Derived.Test.YtblinekbpcdbfaaGreatDoorZv1
import Derived.Test.YtblinekbpcdbfaaGreatDoorZv19
import Derived.Test.YtblinekbpcdbfaaGreatDoorTopTitleJ
import Derived.Test.YtblinekbpcdbfaaGreatDoorCards
import Derived.Test.YtblinekbpcdbfaaGreatDoorTie
set_option maxHeartbeats 2000000
set_option maxRecDepth 100000
namespace Go.Proofs.YtblinekbpcdbfaaGreatDoor
open Go.RowKit Go.ChangeShapes Go.WideShapes Go.ChangeAt Go.Shelf
open Go.ChangeMaps (open_string shut_string)
theorem vD (os:Os) {H:Type} (enc:TypeId × Value→H) :
    (Rows.OpenSpec.upto Rows.topTitleSpec).preRow enc Tryz.prog Tryz.f3 Rows.topTitleUptoRow.domain false Rows.topTitleUptoRow.laid ((oD os).forCall (fun _ _=>0) ⟨#[],#[.slice none 0 0,.string ⟨#[]⟩],[]⟩).memory #[.slice none 0 0,.string ⟨#[]⟩]:=by
 have hw:(DataW.whole enc Tryz.prog ((oD os).forCall (fun _ _=>0) ⟨#[],#[.slice none 0 0,.string ⟨#[]⟩],[]⟩).memory Tryz.f3.params.toList Rows.topTitleSpec.vars false #[.slice none 0 0,.string ⟨#[]⟩].toList 8).map (fun x=>(x.1,x.2.1)) =
     some ([.nil,.lit (.string [])],[]):=by kernel_rfl
 obtain⟨⟨x1,x2,x3⟩,hx,hx1⟩:=Option.map_eq_some_iff.1 hw;simp only [Prod.mk.injEq]at hx1;obtain⟨rfl,rfl⟩:=hx1;exact OpenSpec.preRow_of_cond 8 hx (by kernel_rfl) (fun k hk=>by cases hk;kernel_rfl) (by kernel_rfl) (MP os _)
theorem uq (os:Os) (started:os.Started) (H:Type) (enc:TypeId × Value→H) (F:Stop.Interp) :
    ReturnsInHanded {} Tryz.checked os 3 .any ((Rows.OpenSpec.upto Rows.topTitleSpec).preRow enc Tryz.prog Tryz.f3 Rows.topTitleUptoRow.domain false Rows.topTitleUptoRow.laid) (((Rows.OpenSpec.upto Rows.topTitleSpec).at F).post enc Tryz.prog Tryz.f3 false true false false):=by
 refine returnsInHanded_of_row (C:=Tryz.checked) (s:=(Rows.OpenSpec.upto Rows.topTitleSpec)) NU started (by kernel_rfl) Tryz.func3
   (witness_row_atRef (enc:=enc) (C:=Tryz.checked) false (oD os) #[.slice none 0 0,.string ⟨#[]⟩] rfl (by kernel_rfl) (by kernel_rfl) (by kernel_rfl) (vD os enc)) ?_
 intro W base args ds gs before hval hW _ Wv _ _ _ _;have hk:=Wv _ rfl;have hW':=hW;obtain⟨p,q,Q0,hV,rfl,hfz,hnd⟩:=hW;have hA:DataW.TrodAll enc Tryz.prog W 0 (fun _=>true) true Tryz.f3.params.toList args.toList ds p:=Q0;have yP:∀ (j:Nat) t v,Tryz.f3.params[j]? = some t→args[j]? = some v→Value.okWide Tryz.prog W .any base t v:=hval;rw [Tryz.params3]at hA yP;obtain⟨v0,v1,d0,d1,p0,p1,rfl,rfl,rfl,h0,h1⟩:=trodAll_two hA;obtain⟨rfl,rfl⟩:=trodVars_none hV;obtain⟨A0,n0,c0,rfl⟩:=okWide_slice Tryz.underlying22 (yP 0 _ v0 rfl rfl);obtain⟨f0,h0⟩:=h0;obtain⟨hn0,hm0,⟨l0,C5⟩,hx0⟩:=E3 (by simpa [Value.cells] using h0);have hb0:=Gd hx0;dsimp only at hb0;obtain⟨s1,rfl,rfl,rfl,hs1⟩:=open_string Tryz.underlying9 (yP 1 _ v1 rfl rfl) h1;have aT:=Cz (H:=H) s1;have hbk:=FE hk;simp only [List.append_nil,Rows.uptoBulkAll]at hbk;refine(J8 A0 n0 c0 l0 s1 W (by omega) (by omega) C5).mono fun e W' ⟨he,hb⟩=>⟨_,he,?_⟩;exact NA Tryz.underlying4 rfl rfl MD (by kernel_rfl) hW' rfl hb
theorem yE:Rows.TopTitleUptoSaid :=
  OpenClaim.holds_of_cond 3 Tryz.f3 rfl rfl rfl rfl rfl rfl rfl ⟨rfl,rfl,rfl,rfl,rfl⟩ rfl rfl rfl rfl rfl (by kernel_rfl) Tryz.func3 toptitle_joined
    (of_decide_eq_true (by kernel_rfl)) (by unfold Func.isWrapper;first | (rw [if_pos (by decide +kernel)];kernel_rfl) | (rw [if_neg (by decide +kernel)];exact⟨rfl,rfl⟩))
    (fun os started H enc _ F=>by rw [OpenClaim.pre_eq_preRow];exact uq os started H enc F)
theorem xj (f:FuncId) (fn:Func) (hf : Tryz.pinned.checked.prog.funcNamed "scriptshift/scripttop.TopTitle" = some f) (hfn : Tryz.pinned.checked.prog.funcs[f]? = some fn) :
    true = Tryz.pinned.checked.prog.looks []∧∀ (j:Nat) t,fn.params[j]? = some t → Tryz.pinned.checked.prog.wantsStandIn t=false:=by
 obtain rfl:f = 3:=Option.some.inj ((show Tryz.prog.funcNamed "scriptshift/scripttop.TopTitle" = some 3 by kernel_rfl).symm.trans hf) |>.symm;obtain rfl:fn = Tryz.f3:=(Option.some.inj (Tryz.func3.symm.trans hfn)).symm;refine⟨by kernel_rfl,fun j t ht=>?_⟩;have h:(Tryz.f3.params.toList.all fun t=>!Tryz.prog.wantsStandIn t)=true:=(by kernel_rfl);have h2:=List.all_eq_true.1 h t (by simpa using Array.mem_of_getElem? ht);have h3 : Tryz.prog.wantsStandIn t=false:=(by simpa using h2);exact h3
theorem toptitle_card:Rows.TopTitleUptoCardSaid :=
  Claim7.holds_tied_plain_at .later [] _ _ _ _ yE (fun _ h=>by cases h) (by kernel_rfl) (fun _ h=>by cases h) topTitleUpto_row_tie rfl ⟨rfl,rfl⟩ (by kernel_rfl) rfl xj (by kernel_rfl)
end Go.Proofs.YtblinekbpcdbfaaGreatDoor
