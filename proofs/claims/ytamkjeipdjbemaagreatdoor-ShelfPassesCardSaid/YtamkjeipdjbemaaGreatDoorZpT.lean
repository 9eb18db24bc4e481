/- ShelfPasses: of each file of the shelf Go and the document's answer are at one, forth and back. Condition: Go's own variables are as their text lays them. -/
import Derived.Test.YtamkjeipdjbemaaGreatDoorZp45
import Derived.Test.YtamkjeipdjbemaaGreatDoorZp4
import Derived.Test.YtamkjeipdjbemaaGreatDoorZp9
import Derived.Test.YtamkjeipdjbemaaGreatDoorZp0
import Derived.Test.YtamkjeipdjbemaaGreatDoorZp21
import Derived.Test.YtamkjeipdjbemaaGreatDoorShPassJ
import Derived.Test.YtamkjeipdjbemaaGreatDoorCards
import Derived.Test.YtamkjeipdjbemaaGreatDoorTie
set_option maxHeartbeats 2000000
set_option maxRecDepth 100000
namespace Go.Proofs.YtamkjeipdjbemaaGreatDoor
open Go.RowKit Go.ChangeShapes Go.WideShapes Go.ChangeAt Go.Shelf
open Go.ChangeMaps (open_string shut_string)
theorem rZ (os:Os) {H:Type} (enc:TypeId × Value→H) :
    (OpenSpec.ofChange Rows.shelfPassesSpec).preRow enc Tryz.prog Tryz.f3 Rows.shelfPassesRow.domain false Rows.shelfPassesRow.laid ((oM os).forCall (fun _ _=>0) ⟨#[],#[.int .i64 0,.bool false,.slice none 0 0],[]⟩).memory #[.int .i64 0,.bool false,.slice none 0 0]:=by
 have hw:(DataW.whole enc Tryz.prog ((oM os).forCall (fun _ _=>0) ⟨#[],#[.int .i64 0,.bool false,.slice none 0 0],[]⟩).memory Tryz.f3.params.toList Rows.shelfPassesSpec.vars false #[.int .i64 0,.bool false,.slice none 0 0].toList 8).map (fun x=>(x.1,x.2.1)) =
     some ([.lit (.int .i64 0),.lit (.bool false),.nil],[]):=by kernel_rfl
 obtain⟨⟨x1,x2,x3⟩,hx,hx1⟩:=Option.map_eq_some_iff.1 hw;simp only [Prod.mk.injEq]at hx1;obtain⟨rfl,rfl⟩:=hx1;exact OpenSpec.preRow_of_cond 8 hx (by kernel_rfl) (fun k hk=>by cases hk) (by kernel_rfl) (NR os _)
theorem qE (os:Os) (started:os.Started) (H:Type) (enc:TypeId × Value→H) (F:Stop.Interp) :
    ReturnsInHanded {} Tryz.checked os 3 .any ((OpenSpec.ofChange Rows.shelfPassesSpec).preRow enc Tryz.prog Tryz.f3 Rows.shelfPassesRow.domain false Rows.shelfPassesRow.laid) (((OpenSpec.ofChange Rows.shelfPassesSpec).at F).post enc Tryz.prog Tryz.f3 false true false false):=by
 refine returnsInHanded_of_row (C:=Tryz.checked) (s:=(OpenSpec.ofChange Rows.shelfPassesSpec)) Lx started (by kernel_rfl) Tryz.func3
   (witness_row_atRef (enc:=enc) (C:=Tryz.checked) false (oM os) #[.int .i64 0,.bool false,.slice none 0 0] rfl (by kernel_rfl) (by kernel_rfl) (by kernel_rfl) (rZ os enc)) ?_
 intro W base args ds gs before hval hW _ _ hsz _ _ _;have hW':=hW;obtain⟨p,q,QE,hV,rfl,hfz,hnd⟩:=hW;have hA:DataW.TrodAll enc Tryz.prog W 0 (fun _=>true) true Tryz.f3.params.toList args.toList ds p:=QE;have rK:∀ (j:Nat) t v,Tryz.f3.params[j]? = some t→args[j]? = some v→Value.okWide Tryz.prog W .any base t v:=hval;rw [Tryz.params3]at hA rK;obtain⟨v0,v1,v2,d0,d1,d2,p0,p1,p2,rfl,rfl,rfl,h0,h1,h2⟩:=trodAll_three hA;obtain⟨rfl,rfl⟩:=trodVars_none hV;obtain⟨r0,rfl,rfl,rfl,wr0⟩:=open_int Tryz.underlying3 (rK 0 _ v0 rfl rfl) h0;obtain⟨r1,rfl⟩:=okWide_bool Tryz.underlying4 (rK 1 _ v1 rfl rfl);obtain⟨A2,n2,c2,rfl⟩:=okWide_slice Tryz.underlying22 (rK 2 _ v2 rfl rfl);obtain⟨f2,h2⟩:=h2;obtain⟨hn2,hm2,⟨l2,gh⟩,hx2⟩:=FX (by simpa [Value.cells] using h2);have aX:=GI hx2;dsimp only at aX;refine(B5 r0 r1 l2 A2 n2 c2 W (by have:=wr0;simp [Lit.wf,IntKind.min,IntKind.max,IntKind.bits,IntKind.signed]at this;omega) (by have:=wr0;simp [Lit.wf,IntKind.min,IntKind.max,IntKind.bits,IntKind.signed]at this;omega) hn2 (Nat.le_trans hn2 hm2) gh).mono fun e W' ⟨he,hb⟩=>⟨_,he,?_⟩;exact NZ Tryz.underlying4 rfl rfl NT (by kernel_rfl) hW' rfl hb
theorem tM:Rows.ShelfPassesSaid :=
  OpenClaim.holds_of_cond 3 Tryz.f3 rfl rfl rfl rfl rfl rfl rfl ⟨rfl,rfl,rfl,rfl,rfl⟩ rfl rfl rfl rfl rfl (by kernel_rfl) Tryz.func3 shelfpasses_joined
    (of_decide_eq_true (by kernel_rfl)) (by unfold Func.isWrapper;first | (rw [if_pos (by decide +kernel)];kernel_rfl) | (rw [if_neg (by decide +kernel)];exact⟨rfl,rfl⟩))
    (fun os started H enc _ F=>by rw [OpenClaim.pre_eq_preRow];exact qE os started H enc F)
theorem rm (f:FuncId) (fn:Func) (hf : Tryz.pinned.checked.prog.funcNamed "scriptshift/scriptlaw16.ShelfPasses" = some f) (hfn : Tryz.pinned.checked.prog.funcs[f]? = some fn) :
    true = Tryz.pinned.checked.prog.looks []∧∀ (j:Nat) t,fn.params[j]? = some t → Tryz.pinned.checked.prog.wantsStandIn t=false:=by
 obtain rfl:f = 3:=Option.some.inj ((show Tryz.prog.funcNamed "scriptshift/scriptlaw16.ShelfPasses" = some 3 by kernel_rfl).symm.trans hf) |>.symm;obtain rfl:fn = Tryz.f3:=(Option.some.inj (Tryz.func3.symm.trans hfn)).symm;refine⟨by kernel_rfl,fun j t ht=>?_⟩;have h:(Tryz.f3.params.toList.all fun t=>!Tryz.prog.wantsStandIn t)=true:=(by kernel_rfl);have h2:=List.all_eq_true.1 h t (by simpa using Array.mem_of_getElem? ht);have h3 : Tryz.prog.wantsStandIn t=false:=(by simpa using h2);exact h3
theorem shelfpasses_card:Rows.ShelfPassesCardSaid :=
  Claim7.holds_tied_plain_at .later [] _ _ _ _ tM (fun _ h=>by cases h) (by kernel_rfl) (fun _ h=>by cases h) shelfPasses_row_tie rfl ⟨rfl,rfl⟩ (by kernel_rfl) rfl rm (by kernel_rfl)
end Go.Proofs.YtamkjeipdjbemaaGreatDoor
