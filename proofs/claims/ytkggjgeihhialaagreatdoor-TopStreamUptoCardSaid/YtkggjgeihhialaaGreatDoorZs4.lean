/- Open -/
import Derived.Test.YtkggjgeihhialaaGreatDoorZs3
import Derived.ProofKit
import Derived.SizedLaws
import Derived.JoinedCond
import Derived.Deep.CondSized
import Derived.OpenShut
import Derived.Deep.Slices
import Derived.Deep.Fields
import Derived.ChangeSame
import Derived.Carry
namespace Go.Proofs.YtkggjgeihhialaaGreatDoor
open Go.RowKit Go.ChangeShapes Go.WideShapes Go.ChangeAt
section
variable {H : Type} {enc : TypeId × Value → H} {P : Program} {w : World} {held : Bool}
theorem Ic (hl:laidOutB P=true) {W W':World} (hb:Below W.heap.size W W'):∀ (ts:List TypeId),(ts.all fun t=>P.readableRec t && decide (t<P.types.size))=true →
    ∀ (vs:List Value) (ds:List (DataW H)) (ps:List MemPlace),DataW.TrodAll enc P W 0 (fun _=>true) true ts vs ds ps→(∀ x∈ps,x.block<W.heap.size) →
      DataW.TrodAll enc P W' 0 (fun b=>decide (b<W.heap.size)) true ts vs ds ps:=by
 intro ts;induction ts with
 | nil=>
  intro _ vs ds ps h _;obtain⟨rfl,rfl,rfl⟩:=trodAll_nil h;rfl
 | cons t ts ih=>
  intro hr vs ds ps h hlt;simp only [List.all_cons,Bool.and_eq_true,decide_eq_true_eq]at hr;obtain⟨v,vs',d,ds',p,q,rfl,rfl,rfl,h0,h1⟩:=trodAll_cons h;exact trodAll_cons_mk (Below.trod hl hr.1.1 hr.1.2 h0 hb (fun x hx=>hlt x (by simp [hx]))) (ih (by simpa using hr.2) vs' ds' q h1 (fun x hx=>hlt x (by simp [hx])))
theorem JC {f:Func} {s:ChangeSpec} {W W':World} {args:Array Value} {ds gs:List (DataW H)} {before:List MemPlace} {T:TypeId} (hT:P.underlying T=some .bool) (hres:f.resultTypes = #[T]) (hv:s.vars = [])
    (hl:laidOutB P=true) (hr:(f.params.toList.all fun t=>P.readableRec t && decide (t<P.types.size))=true)
    (hW:DataW.Whole enc P f.params.toList s.vars false W args.toList ds gs before) (hs:s.fn H (ds++gs) = { results:=[.lit (.bool true)],args:=ds }) (hb:Below W.heap.size W W') :
    s.post enc P f false true false false W args (.bool true) W':=by
 have hlt:=hW.lt;obtain⟨p,q,hA,hV,rfl,hfz,hnd⟩:=hW;have hV0:=hV;rw [hv]at hV0;obtain⟨rfl,rfl⟩:=trodVars_none hV0;refine⟨ds,[],p++[],[],p,[],⟨p,[],hA,hV,rfl,hfz,hnd⟩,?_,?_,?_,hb.frame _,fun h=>by cases h⟩
 ·rw [hs,hres];exact trodAll_cons_mk (shut_bool hT _) trodAll_mk0
 ·rw [hs];exact Ic hl hb _ hr _ _ _ hA (fun x hx=>by simpa using hlt x (by simp [hx]))
 rw [hs,hv];rfl
end
end Go.Proofs.YtkggjgeihhialaaGreatDoor
