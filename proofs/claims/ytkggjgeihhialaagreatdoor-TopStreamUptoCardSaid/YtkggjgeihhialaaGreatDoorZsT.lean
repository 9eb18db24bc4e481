/- TopStream: its row. -/
import Derived.Test.YtkggjgeihhialaaGreatDoorZs44
import Derived.Test.YtkggjgeihhialaaGreatDoorZs4
import Derived.Test.YtkggjgeihhialaaGreatDoorZs8
import Derived.Test.YtkggjgeihhialaaGreatDoorZs0
import Derived.Test.YtkggjgeihhialaaGreatDoorZs19
import Derived.Test.YtkggjgeihhialaaGreatDoorTopStreamJ
import Derived.Test.YtkggjgeihhialaaGreatDoorCards
import Derived.Test.YtkggjgeihhialaaGreatDoorTie
set_option maxHeartbeats 2000000
set_option maxRecDepth 100000
namespace Go.Proofs.YtkggjgeihhialaaGreatDoor
open Go.RowKit Go.ChangeShapes Go.WideShapes Go.ChangeAt Go.Shelf
open Go.ChangeMaps (open_string shut_string)
theorem oh (os:Os) {H:Type} (enc:TypeId × Value→H) :
    (Rows.OpenSpec.upto Rows.topStreamSpec).preRow enc Tryz.prog Tryz.f3 Rows.topStreamUptoRow.domain false Rows.topStreamUptoRow.laid ((nw os).forCall (fun _ _=>0) ⟨#[],#[.string ⟨#[]⟩,.slice none 0 0],[]⟩).memory #[.string ⟨#[]⟩,.slice none 0 0]:=by
 have hw:(DataW.whole enc Tryz.prog ((nw os).forCall (fun _ _=>0) ⟨#[],#[.string ⟨#[]⟩,.slice none 0 0],[]⟩).memory Tryz.f3.params.toList Rows.topStreamSpec.vars false #[.string ⟨#[]⟩,.slice none 0 0].toList 8).map (fun x=>(x.1,x.2.1)) =
     some ([.lit (.string []),.nil],[]):=by kernel_rfl
 obtain⟨⟨x1,x2,x3⟩,hx,hx1⟩:=Option.map_eq_some_iff.1 hw;simp only [Prod.mk.injEq]at hx1;obtain⟨rfl,rfl⟩:=hx1;exact OpenSpec.preRow_of_cond 8 hx (by kernel_rfl) (fun k hk=>by cases hk;kernel_rfl) (by kernel_rfl) (K6 os _)
theorem mP (os:Os) (started:os.Started) (H:Type) (enc:TypeId × Value→H) (F:Stop.Interp) :
    ReturnsInHanded {} Tryz.checked os 3 .any ((Rows.OpenSpec.upto Rows.topStreamSpec).preRow enc Tryz.prog Tryz.f3 Rows.topStreamUptoRow.domain false Rows.topStreamUptoRow.laid) (((Rows.OpenSpec.upto Rows.topStreamSpec).at F).post enc Tryz.prog Tryz.f3 false true false false):=by
 refine returnsInHanded_of_row (C:=Tryz.checked) (s:=(Rows.OpenSpec.upto Rows.topStreamSpec)) Jn started (by kernel_rfl) Tryz.func3
   (witness_row_atRef (enc:=enc) (C:=Tryz.checked) false (nw os) #[.string ⟨#[]⟩,.slice none 0 0] rfl (by kernel_rfl) (by kernel_rfl) (by kernel_rfl) (oh os enc)) ?_
 intro W base args ds gs before hval hW _ SY _ _ _ _;have hk:=SY _ rfl;have hW':=hW;obtain⟨p,q,OH,hV,rfl,hfz,hnd⟩:=hW;have hA:DataW.TrodAll enc Tryz.prog W 0 (fun _=>true) true Tryz.f3.params.toList args.toList ds p:=OH;have wV:∀ (j:Nat) t v,Tryz.f3.params[j]? = some t→args[j]? = some v→Value.okWide Tryz.prog W .any base t v:=hval;rw [Tryz.params3]at hA wV;obtain⟨v0,v1,d0,d1,p0,p1,rfl,rfl,rfl,h0,h1⟩:=trodAll_two hA;obtain⟨rfl,rfl⟩:=trodVars_none hV;obtain⟨s0,rfl,rfl,rfl,hs0⟩:=open_string Tryz.underlying9 (wV 0 _ v0 rfl rfl) h0;have hb0:=rT (H:=H) s0;obtain⟨A1,n1,c1,rfl⟩:=okWide_slice Tryz.underlying22 (wV 1 _ v1 rfl rfl);obtain⟨f1,h1⟩:=h1;obtain⟨Lt,l1,kB,sJ⟩:=El (by simpa [Value.cells] using h1);dsimp only at Lt sJ;have hbk:=Ds hk;simp only [List.append_nil,Rows.uptoBulkAll]at hbk;refine(sO s0 A1 n1 c1 l1 (by omega) (by omega) (fun p hp=>by have:=sJ p hp;omega) W kB).mono fun e W' ⟨he,hb⟩=>⟨_,he,?_⟩;exact JC Tryz.underlying4 rfl rfl K0 (by kernel_rfl) hW' rfl hb
theorem o7:Rows.TopStreamUptoSaid :=
  OpenClaim.holds_of_cond 3 Tryz.f3 rfl rfl rfl rfl rfl rfl rfl ⟨rfl,rfl,rfl,rfl,rfl⟩ rfl rfl rfl rfl rfl (by kernel_rfl) Tryz.func3 topstreamwalk_joined
    (of_decide_eq_true (by kernel_rfl)) (by unfold Func.isWrapper;first | (rw [if_pos (by decide +kernel)];kernel_rfl) | (rw [if_neg (by decide +kernel)];exact⟨rfl,rfl⟩))
    (fun os started H enc _ F=>by rw [OpenClaim.pre_eq_preRow];exact mP os started H enc F)
theorem nY (f:FuncId) (fn:Func) (hf : Tryz.pinned.checked.prog.funcNamed "scriptshift/scripttop.TopStream" = some f) (hfn : Tryz.pinned.checked.prog.funcs[f]? = some fn) :
    true = Tryz.pinned.checked.prog.looks []∧∀ (j:Nat) t,fn.params[j]? = some t → Tryz.pinned.checked.prog.wantsStandIn t=false:=by
 obtain rfl:f = 3:=Option.some.inj ((show Tryz.prog.funcNamed "scriptshift/scripttop.TopStream" = some 3 by kernel_rfl).symm.trans hf) |>.symm;obtain rfl:fn = Tryz.f3:=(Option.some.inj (Tryz.func3.symm.trans hfn)).symm;refine⟨by kernel_rfl,fun j t ht=>?_⟩;have h:(Tryz.f3.params.toList.all fun t=>!Tryz.prog.wantsStandIn t)=true:=(by kernel_rfl);have h2:=List.all_eq_true.1 h t (by simpa using Array.mem_of_getElem? ht);have h3 : Tryz.prog.wantsStandIn t=false:=(by simpa using h2);exact h3
theorem topstreamwalk_card:Rows.TopStreamUptoCardSaid :=
  Claim7.holds_tied_plain_at .later [] _ _ _ _ o7 (fun _ h=>by cases h) (by kernel_rfl) (fun _ h=>by cases h) topStreamUpto_row_tie rfl ⟨rfl,rfl⟩ (by kernel_rfl) rfl nY (by kernel_rfl)
end Go.Proofs.YtkggjgeihhialaaGreatDoor
