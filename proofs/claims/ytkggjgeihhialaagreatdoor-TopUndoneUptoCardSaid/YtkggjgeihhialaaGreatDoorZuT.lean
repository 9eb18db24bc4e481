/- TopUndone: its row. -/
import Derived.Test.YtkggjgeihhialaaGreatDoorZu45
import Derived.Test.YtkggjgeihhialaaGreatDoorZu4
import Derived.Test.YtkggjgeihhialaaGreatDoorZu10
import Derived.Test.YtkggjgeihhialaaGreatDoorZu0
import Derived.Test.YtkggjgeihhialaaGreatDoorZu18
import Derived.Test.YtkggjgeihhialaaGreatDoorUnCapJ
import Derived.Test.YtkggjgeihhialaaGreatDoorCards
import Derived.Test.YtkggjgeihhialaaGreatDoorTie
set_option maxHeartbeats 2000000
set_option maxRecDepth 100000
namespace Go.Proofs.YtkggjgeihhialaaGreatDoor
open Go.RowKit Go.ChangeShapes Go.WideShapes Go.ChangeAt Go.Shelf
open Go.ChangeMaps (open_string shut_string)
theorem um (os:Os) {H:Type} (enc:TypeId × Value→H) :
    (Rows.OpenSpec.upto Rows.topUndoneSpec).preRow enc Tryz.prog Tryz.f4 Rows.topUndoneUptoRow.domain false Rows.topUndoneUptoRow.laid ((od os).forCall (fun _ _=>0) ⟨#[],#[.string ⟨#[]⟩,.slice none 0 0,.string ⟨#[]⟩],[]⟩).memory #[.string ⟨#[]⟩,.slice none 0 0,.string ⟨#[]⟩]:=by
 have hw:(DataW.whole enc Tryz.prog ((od os).forCall (fun _ _=>0) ⟨#[],#[.string ⟨#[]⟩,.slice none 0 0,.string ⟨#[]⟩],[]⟩).memory Tryz.f4.params.toList Rows.topUndoneSpec.vars false #[.string ⟨#[]⟩,.slice none 0 0,.string ⟨#[]⟩].toList 8).map (fun x=>(x.1,x.2.1)) =
     some ([.lit (.string []),.nil,.lit (.string [])],[]):=by kernel_rfl
 obtain⟨⟨x1,x2,x3⟩,hx,hx1⟩:=Option.map_eq_some_iff.1 hw;simp only [Prod.mk.injEq]at hx1;obtain⟨rfl,rfl⟩:=hx1;exact OpenSpec.preRow_of_cond 8 hx (by kernel_rfl) (fun k hk=>by cases hk;kernel_rfl) (by kernel_rfl) (Kr os _)
theorem sH (os:Os) (started:os.Started) (H:Type) (enc:TypeId × Value→H) (F:Stop.Interp) :
    ReturnsInHanded {} Tryz.checked os 4 .any ((Rows.OpenSpec.upto Rows.topUndoneSpec).preRow enc Tryz.prog Tryz.f4 Rows.topUndoneUptoRow.domain false Rows.topUndoneUptoRow.laid) (((Rows.OpenSpec.upto Rows.topUndoneSpec).at F).post enc Tryz.prog Tryz.f4 false true false false):=by
 refine returnsInHanded_of_row (C:=Tryz.checked) (s:=(Rows.OpenSpec.upto Rows.topUndoneSpec)) Nq started (by kernel_rfl) Tryz.func4
   (witness_row_atRef (enc:=enc) (C:=Tryz.checked) false (od os) #[.string ⟨#[]⟩,.slice none 0 0,.string ⟨#[]⟩] rfl (by kernel_rfl) (by kernel_rfl) (by kernel_rfl) (um os enc)) ?_
 intro W base args ds gs before hval hW _ Vy _ _ _ _;have hk:=Vy _ rfl;have hW':=hW;obtain⟨p,q,QD,hV,rfl,hfz,hnd⟩:=hW;have hA:DataW.TrodAll enc Tryz.prog W 0 (fun _=>true) true Tryz.f4.params.toList args.toList ds p:=QD;have xP:∀ (j:Nat) t v,Tryz.f4.params[j]? = some t→args[j]? = some v→Value.okWide Tryz.prog W .any base t v:=hval;rw [Tryz.params4]at hA xP;obtain⟨v0,v1,v2,d0,d1,d2,p0,p1,p2,rfl,rfl,rfl,h0,h1,h2⟩:=trodAll_three hA;obtain⟨rfl,rfl⟩:=trodVars_none hV;obtain⟨s0,rfl,rfl,rfl,hs0⟩:=open_string Tryz.underlying9 (xP 0 _ v0 rfl rfl) h0;have hb0:=tQ (H:=H) s0;obtain⟨A1,n1,c1,rfl⟩:=okWide_slice Tryz.underlying24 (xP 1 _ v1 rfl rfl);obtain⟨f1,h1⟩:=h1;obtain⟨Km,YZ,⟨l1,ja⟩,hx1⟩:=Fb (by simpa [Value.cells] using h1);have aR:=EP hx1;dsimp only at aR;obtain⟨s2,rfl,rfl,rfl,xu⟩:=open_string Tryz.underlying9 (xP 2 _ v2 rfl rfl) h2;have aU:=tQ (H:=H) s2;have hbk:=EX hk;simp only [List.append_nil,Rows.uptoBulkAll]at hbk;refine(Eu s0 s2 A1 n1 c1 l1 (by omega) (by omega) W (by omega) Km ja).mono fun e W' ⟨he,hb⟩=>⟨_,he,?_⟩;exact My Tryz.underlying4 rfl rfl K4 (by kernel_rfl) hW' rfl hb
theorem vR:Rows.TopUndoneUptoSaid :=
  OpenClaim.holds_of_cond 4 Tryz.f4 rfl rfl rfl rfl rfl rfl rfl ⟨rfl,rfl,rfl,rfl,rfl⟩ rfl rfl rfl rfl rfl (by kernel_rfl) Tryz.func4 topundone_joined
    (of_decide_eq_true (by kernel_rfl)) (by unfold Func.isWrapper;first | (rw [if_pos (by decide +kernel)];kernel_rfl) | (rw [if_neg (by decide +kernel)];exact⟨rfl,rfl⟩))
    (fun os started H enc _ F=>by rw [OpenClaim.pre_eq_preRow];exact sH os started H enc F)
theorem uq (f:FuncId) (fn:Func) (hf : Tryz.pinned.checked.prog.funcNamed "scriptshift/scripttop.TopUndone" = some f) (hfn : Tryz.pinned.checked.prog.funcs[f]? = some fn) :
    true = Tryz.pinned.checked.prog.looks []∧∀ (j:Nat) t,fn.params[j]? = some t → Tryz.pinned.checked.prog.wantsStandIn t=false:=by
 obtain rfl:f = 4:=Option.some.inj ((show Tryz.prog.funcNamed "scriptshift/scripttop.TopUndone" = some 4 by kernel_rfl).symm.trans hf) |>.symm;obtain rfl:fn = Tryz.f4:=(Option.some.inj (Tryz.func4.symm.trans hfn)).symm;refine⟨by kernel_rfl,fun j t ht=>?_⟩;have h:(Tryz.f4.params.toList.all fun t=>!Tryz.prog.wantsStandIn t)=true:=(by kernel_rfl);have h2:=List.all_eq_true.1 h t (by simpa using Array.mem_of_getElem? ht);have h3 : Tryz.prog.wantsStandIn t=false:=(by simpa using h2);exact h3
theorem topundone_card:Rows.TopUndoneUptoCardSaid :=
  Claim7.holds_tied_plain_at .later [] _ _ _ _ vR (fun _ h=>by cases h) (by kernel_rfl) (fun _ h=>by cases h) topUndoneUpto_row_tie rfl ⟨rfl,rfl⟩ (by kernel_rfl) rfl uq (by kernel_rfl)
end Go.Proofs.YtkggjgeihhialaaGreatDoor
