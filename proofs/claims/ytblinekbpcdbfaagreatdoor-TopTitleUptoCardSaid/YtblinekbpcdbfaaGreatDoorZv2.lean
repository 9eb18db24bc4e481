/- HeldTill -/
import Derived.Deep.RegionHeldLaw
import Derived.RowKit
import Derived.Below
namespace Go.Proofs.YtblinekbpcdbfaaGreatDoor
open Go.RowKit
section
variable {P : Program} {ops : Array Oper} {Q : Exit → Act → World → Prop} {md : Region.Mode} {S : World → Prop} {need : List Nat}
def Aj (md:Region.Mode) (ops:Array Oper):Nat→Nat→Nat→Bool
  | 0,_,_=>false
  | f+1,j,i=>match ops[j]? with
    | some o=>o.after.toList.any fun e=>Region.binds md e && (e.on == i || Aj md ops f e.on i)
    | none=>false
def uI (md:Region.Mode) (ops:Array Oper) (need:List Nat) (j:Nat):Bool:=need.all fun i=>Aj md ops ops.size j i
def sr (md:Region.Mode) (ops:Array Oper) (listed:Array Bool):Prop:=∀ (k:Nat) (o:Oper),ops[k]? = some o→listed.getD k false=true→∀ e∈o.after,Region.binds md e=true→listed.getD e.on false=true
def vg (md:Region.Mode) (ops:Array Oper) (listed:Array Bool):Bool:=(List.range ops.size).all fun k=>!(listed.getD k false) || (match ops[k]? with
  | some o=>o.after.toList.all fun e=>!(Region.binds md e) || listed.getD e.on false
  | none=>true)
theorem IJ {listed:Array Bool} (h:vg md ops listed=true):sr md ops listed:=by
 intro k o ho hk e he hb;have hlt:=(Array.getElem?_eq_some_iff.1 ho).1;have:=List.all_eq_true.1 h k (List.mem_range.2 hlt);rw [hk,ho]at this;simp only [Bool.not_true,Bool.false_or]at this;have:=List.all_eq_true.1 this e (by simpa using he);rw [hb]at this;simpa using this
theorem pZ {listed:Array Bool} {i:Nat} (h0:listed.getD i true=false):listed.getD i false=false:=by
 rcases Nat.lt_or_ge i listed.size with h' | h'
 ·simp [h']at h0 ⊢;exact h0
 simp [Array.getElem?_eq_none h']at h0
theorem sr.add {listed:Array Bool} {j:Nat} (h:sr md ops listed) (hj:j∈Region.ready md ops listed):sr md ops (listed.setIfInBounds j true):=by
 intro k o ho hk e he hb;obtain⟨_,oj,Om,hall⟩:=mem_ready.1 hj;by_cases hjk:j=k
 ·subst hjk;rw [Om]at ho;cases ho;exact getD_set_true (hall e he hb)
 rw [getD_set_ne false hjk]at hk;exact getD_set_true (h k o ho hk e he hb)
theorem AQ {listed:Array Bool} (hc:sr md ops listed) {i:Nat}:∀ (f j:Nat),(∀ o,ops[j]? = some o→∀ e∈o.after,Region.binds md e=true→listed.getD e.on false=true)→Aj md ops f j i=true→listed.getD i false=true:=by
 intro f;induction f with
 | zero=>intro j _ h;cases h
 | succ f ih=>
  intro j hj h;unfold Aj at h;cases ho:ops[j]? with
  | none=>rw [ho]at h;cases h
  | some o=>
   rw [ho]at h;obtain⟨e,he,h⟩:=List.any_eq_true.1 h;rw [Bool.and_eq_true,Bool.or_eq_true]at h;have hl:=hj o ho e (by simpa using he) h.1;rcases h.2 with h2 | h2
   ·rw [beq_iff_eq]at h2;rw [← h2];exact hl
   exact ih e.on (fun o' ho' e' he' hb'=>hc e.on o' ho' hl e' he' hb') h2
def di (P:Program) (md:Region.Mode) (ops:Array Oper) (Q:Exit→Act→World→Prop) (S:World→Prop) (need:List Nat):Nat→Array Bool→Act→World→Prop
  | 0,listed,a,w=>Region.ready md ops listed = []∧Q .normal a w
  | fuel+1,listed,a,w=>
    (Region.ready md ops listed = []→Q .normal a w) ∧
    ∀ i∈Region.ready md ops listed,wpOp P ops Q i (fun a' w'=>(uI md ops need i=false→S w→S w')∧di P md ops Q S need fuel (listed.setIfInBounds i true) a' w') a w
theorem pI:∀ (fuel:Nat) (listed:Array Bool) (a:Act) (w:World),di P md ops Q S need fuel listed a w→wpAny P md ops Q fuel listed a w
  | 0,_,_,_,h=>h
  | fuel+1,_,_,_,h=>⟨h.1,fun i hi=>wpOp_mono (fun a' w' h'=>pI fuel _ a' w' h'.2) (h.2 i hi)⟩
theorem BF {i:Nat} {oi:Oper} {v:Value} (hn:i∈need) (hi:ops[i]? = some oi) (hsel:∀ (j:Nat) (o:Oper) cs b,ops[j]? = some o→o.op≠.select cs b)
    (hQ:∀ c a w,Q (.panic c) (a.put oi.dst v) w→Q (.panic c) a w) :
    ∀ (fuel:Nat) (listed:Array Bool) (a:Act) (w:World),sr md ops listed →
      (∀ j oj,ops[j]? = some oj→j≠i→listed.getD j true=false→(∀ e∈oj.after,Region.binds md e=true→e.on≠i)→oi.apart ops oj=true) →
      i∈Region.ready md ops listed→YieldsIf P ops S oi v a→S w →
      di P md ops Q S need fuel (listed.setIfInBounds i true) (a.put oi.dst v) w→di P md ops Q S need (fuel+1) listed a w:=by
 intro fuel;induction fuel with
 | zero=>
  intro listed a w _ _ hr hy hS H;refine⟨fun h=>(by rw [h]at hr;cases hr),fun j hj=>?_⟩;by_cases hji:j=i
  ·subst hji;exact hy.wpOp hi hS ⟨fun _ h=>h,H⟩
  have:=ready_mono hj hji;rw [H.1]at this;cases this
 | succ fuel ih=>
  intro listed a w FX hfree hr hy hS H;refine⟨fun h=>(by rw [h]at hr;cases hr),fun j hj=>?_⟩;by_cases hji:j=i
  ·subst hji;exact hy.wpOp hi hS ⟨fun _ h=>h,H⟩
  have h1:=H.2 j (ready_mono hj hji);obtain⟨NM,oj,Om,hall⟩:=mem_ready.1 hj;have OM:=(mem_ready.1 hr).1;have hnot:∀ e∈oj.after,Region.binds md e=true→e.on≠i:=fun e he hb heq=>by
   have h1:=hall e he hb;rw [heq,pZ OM]at h1;cases h1
  have aaR:uI md ops need j=false:=by
   unfold uI;rw [Bool.eq_false_iff];intro h;have:=AQ FX ops.size j (fun o ho e he hb=>by rw [Om]at ho;cases ho;exact hall e he hb) (List.all_eq_true.1 h i hn);rw [pZ OM]at this;cases this
  have h2:=wpOp_putIf Om (hfree j oj Om hji NM hnot) (fun cs b=>hsel i oi cs b hi) (fun cs b=>hsel j oj cs b Om) hQ hy h1
  have F4:∀ k ok,ops[k]? = some ok→k≠i→(listed.setIfInBounds j true).getD k true=false →
      (∀ e∈ok.after,Region.binds md e=true→e.on≠i)→oi.apart ops ok=true:=fun k ok hk hki hun hno=>by
    refine hfree k ok hk hki ?_ hno
    by_cases hjk:j=k
    · subst hjk;exact NM
    · rw [getD_set_ne true hjk]at hun;exact hun
  refine wpOp_mono (fun a' w' h3=>⟨h3.2.1,ih (listed.setIfInBounds j true) a' w' (FX.add hj) F4 (ready_mono hr (Ne.symm hji)) h3.1 (h3.2.1 aaR hS) ?_⟩) h2;rw [Array.setIfInBounds_comm _ _ hji];exact h3.2.2
theorem Dh {i:Nat} {oi:Oper} {v:Value} (hi:ops[i]? = some oi) (hsel:∀ (j:Nat) (o:Oper) cs b,ops[j]? = some o→o.op≠.select cs b)
    (hQ:∀ c a w,Q (.panic c) (a.put oi.dst v) w→Q (.panic c) a w) :
    ∀ (fuel:Nat) (listed:Array Bool) (a:Act) (w:World),
      (∀ j oj,ops[j]? = some oj→j≠i→listed.getD j true=false→(∀ e∈oj.after,Region.binds md e=true→e.on≠i)→oi.apart ops oj=true) →
      i∈Region.ready md ops listed→YieldsIf P ops (fun _=>True) oi v a →
      di P md ops Q S need fuel (listed.setIfInBounds i true) (a.put oi.dst v) w→di P md ops Q S need (fuel+1) listed a w:=by
 intro fuel;induction fuel with
 | zero=>
  intro listed a w _ hr hy H;refine⟨fun h=>(by rw [h]at hr;cases hr),fun j hj=>?_⟩;by_cases hji:j=i
  ·subst hji;exact hy.wpOp hi trivial ⟨fun _ h=>h,H⟩
  have:=ready_mono hj hji;rw [H.1]at this;cases this
 | succ fuel ih=>
  intro listed a w hfree hr hy H;refine⟨fun h=>(by rw [h]at hr;cases hr),fun j hj=>?_⟩;by_cases hji:j=i
  ·subst hji;exact hy.wpOp hi trivial ⟨fun _ h=>h,H⟩
  have h1:=H.2 j (ready_mono hj hji);obtain⟨NM,oj,Om,hall⟩:=mem_ready.1 hj;have OM:=(mem_ready.1 hr).1;have hnot:∀ e∈oj.after,Region.binds md e=true→e.on≠i:=fun e he hb heq=>by
   have h1:=hall e he hb;rw [heq,pZ OM]at h1;cases h1
  have h2:=wpOp_putIf Om (hfree j oj Om hji NM hnot) (fun cs b=>hsel i oi cs b hi) (fun cs b=>hsel j oj cs b Om) hQ hy h1
  have F4:∀ k ok,ops[k]? = some ok→k≠i→(listed.setIfInBounds j true).getD k true=false →
      (∀ e∈ok.after,Region.binds md e=true→e.on≠i)→oi.apart ops ok=true:=fun k ok hk hki hun hno=>by
    refine hfree k ok hk hki ?_ hno
    by_cases hjk:j=k
    · subst hjk;exact NM
    · rw [getD_set_ne true hjk]at hun;exact hun
  refine wpOp_mono (fun a' w' h3=>⟨h3.2.1,ih (listed.setIfInBounds j true) a' w' F4 (ready_mono hr (Ne.symm hji)) h3.1 ?_⟩) h2;rw [Array.setIfInBounds_comm _ _ hji];exact h3.2.2
theorem C6 {i:Nat} {oi:Oper} {v:Value} {fuel:Nat} {listed:Array Bool} {a:Act} {w:World} (hi:ops[i]? = some oi)
    (hs:Region.noSelect ops=true) (hf:Region.free md ops listed i=true) (hr:(Region.ready md ops listed).contains i=true)
    (hQ:∀ c a w,Q (.panic c) (a.put oi.dst v) w→Q (.panic c) a w) (hy:YieldsIf P ops (fun _=>True) oi v a)
    (h:di P md ops Q S need fuel (listed.setIfInBounds i true) (a.put oi.dst v) w):di P md ops Q S need (fuel+1) listed a w :=
  Dh hi (Region.noSelect_spec hs) hQ fuel listed a w (Region.free_spec hi hf) (by simpa using hr) hy h
theorem DZ {i:Nat} {oi:Oper} {v:Value} {fuel:Nat} {listed:Array Bool} {a:Act} {w:World} (hi:ops[i]? = some oi) (hn:need.contains i=true)
    (hs:Region.noSelect ops=true) (hf:Region.free md ops listed i=true) (hr:(Region.ready md ops listed).contains i=true) (hc:vg md ops listed=true)
    (hQ:∀ c a w,Q (.panic c) (a.put oi.dst v) w→Q (.panic c) a w) (hy:YieldsIf P ops S oi v a) (hS:S w)
    (h:di P md ops Q S need fuel (listed.setIfInBounds i true) (a.put oi.dst v) w):di P md ops Q S need (fuel+1) listed a w :=
  BF (by simpa using hn) hi (Region.noSelect_spec hs) hQ fuel listed a w (IJ hc) (Region.free_spec hi hf) (by simpa using hr) hy hS h
theorem tp (i d:Nat) {oi:Oper} {v:Value} {fuel:Nat} {listed:Array Bool} {a:Act} {w:World} (hi:ops[i]? = some oi) (hk:(Region.noSelect ops && Region.free md ops listed i && (Region.ready md ops listed).contains i && decide (oi.dst=some d))=true)
    (hQ:∀ c a w,Q (.panic c) (a.put (some d) v) w→Q (.panic c) a w) (hw:Region.wanted oi (yielded ops a.tmps)=true) (hy:∀ wq:World,True→(execOp a.eval oi).run P wq=.ok (.value v) wq)
    (h:di P md ops Q S need fuel (listed.setIfInBounds i true) (a.put (some d) v) w):di P md ops Q S need (fuel+1) listed a w:=by
 simp only [Bool.and_eq_true,decide_eq_true_eq]at hk;obtain⟨⟨⟨h1,h2⟩,h3⟩,h4⟩:=hk;rw [← h4]at hQ h;exact C6 hi h1 h2 h3 hQ (Or.inl ⟨hw,hy⟩) h
theorem tt (i d:Nat) {oi:Oper} {v:Value} {fuel:Nat} {listed:Array Bool} {a:Act} {w:World} (hi:ops[i]? = some oi) (hk:(need.contains i && Region.noSelect ops && Region.free md ops listed i && (Region.ready md ops listed).contains i && vg md ops listed && decide (oi.dst=some d))=true)
    (hQ:∀ c a w,Q (.panic c) (a.put (some d) v) w→Q (.panic c) a w) (hw:Region.wanted oi (yielded ops a.tmps)=true) (hS:S w) (hy:∀ wq:World,S wq→(execOp a.eval oi).run P wq=.ok (.value v) wq)
    (h:di P md ops Q S need fuel (listed.setIfInBounds i true) (a.put (some d) v) w):di P md ops Q S need (fuel+1) listed a w:=by
 simp only [Bool.and_eq_true,decide_eq_true_eq]at hk;obtain⟨⟨⟨⟨⟨h1,h2⟩,h3⟩,h4⟩,h5⟩,h6⟩:=hk;rw [← h6]at hQ h;exact DZ hi h1 h2 h3 h4 h5 hQ (Or.inl ⟨hw,hy⟩) hS h
theorem tq (i d:Nat) {oi:Oper} {v:Value} {fuel:Nat} {listed:Array Bool} {a:Act} {w:World}
    (h:di P md ops Q S need fuel (listed.setIfInBounds i true) (a.put (some d) v) w)
    (hi:ops[i]? = some oi:=by rfl) (hk:(Region.noSelect ops && Region.free md ops listed i && (Region.ready md ops listed).contains i && decide (oi.dst=some d))=true:=by kernel_rfl)
    (hQ:∀ c a w,Q (.panic c) (a.put (some d) v) w→Q (.panic c) a w:=by exact fun _ _ _ h=>h) (hw:Region.wanted oi (yielded ops a.tmps)=true:=by rfl)
    (hy:∀ wq:World,True→(execOp a.eval oi).run P wq=.ok (.value v) wq:=by intro wq _;go_simp;try with_reducible rfl):di P md ops Q S need (fuel+1) listed a w:=tp i d hi hk hQ hw hy h
theorem tu (i d:Nat) {oi:Oper} {v:Value} {fuel:Nat} {listed:Array Bool} {a:Act} {w:World}
    (h:di P md ops Q S need fuel (listed.setIfInBounds i true) (a.put (some d) v) w)
    (hi:ops[i]? = some oi:=by rfl) (hk:(need.contains i && Region.noSelect ops && Region.free md ops listed i && (Region.ready md ops listed).contains i && vg md ops listed && decide (oi.dst=some d))=true:=by kernel_rfl)
    (hQ:∀ c a w,Q (.panic c) (a.put (some d) v) w→Q (.panic c) a w:=by exact fun _ _ _ h=>h) (hw:Region.wanted oi (yielded ops a.tmps)=true:=by rfl) (hS:S w:=by assumption)
    (hy:∀ wq:World,S wq→(execOp a.eval oi).run P wq=.ok (.value v) wq:=by intro wq rM;(try dsimp only at rM);go_simp;try with_reducible rfl):di P md ops Q S need (fuel+1) listed a w:=tt i d hi hk hQ hw hS hy h
theorem aD {i:Nat} {o:Oper} {fuel:Nat} {listed:Array Bool} {a:Act} {w:World} (hr:Region.ready md ops listed = [i]) (ho:ops[i]? = some o)
    (h:∀ K':Act→World→Prop,Shut (∀ a w,S w→(S w→di P md ops Q S need fuel (listed.setIfInBounds i true) a w)→K' a w)→if Region.wanted o (yielded ops a.tmps)=true then Oper.wp P o a w K' Q else K' (a.put o.dst undef) w) :
    di P md ops Q S need (fuel+1) listed a w:=by
 refine⟨fun h0=>(by rw [hr]at h0;cases h0),fun j hj=>?_⟩;rw [hr]at hj;obtain rfl:j=i:=(by simpa using hj);exact wpOp_step ho (fun K' hK=>h K' (fun a w hS hW=>hK a w ⟨fun _ _=>hS,hW hS⟩))
theorem eM {i j:Nat} {o o2:Oper} {fuel:Nat} {listed:Array Bool} {a:Act} {w:World} (hr:Region.ready md ops listed = [i,j]) (ho:ops[i]? = some o) (KF:ops[j]? = some o2)
    (h:∀ K':Act→World→Prop,Shut (∀ a w,S w→(S w→di P md ops Q S need fuel (listed.setIfInBounds i true) a w)→K' a w)→if Region.wanted o (yielded ops a.tmps)=true then Oper.wp P o a w K' Q else K' (a.put o.dst undef) w)
    (h2:∀ K':Act→World→Prop,Shut (∀ a w,S w→(S w→di P md ops Q S need fuel (listed.setIfInBounds j true) a w)→K' a w)→if Region.wanted o2 (yielded ops a.tmps)=true then Oper.wp P o2 a w K' Q else K' (a.put o2.dst undef) w) :
    di P md ops Q S need (fuel+1) listed a w:=by
 refine⟨fun h0=>(by rw [hr]at h0;cases h0),fun k hk=>?_⟩;rw [hr]at hk;rcases List.mem_cons.1 hk with rfl | hk;exact wpOp_step ho (fun K' hK=>h K' (fun a w hS hW=>hK a w ⟨fun _ _=>hS,hW hS⟩));obtain rfl:k=j:=(by simpa using hk);exact wpOp_step KF (fun K' hK=>h2 K' (fun a w hS hW=>hK a w ⟨fun _ _=>hS,hW hS⟩))
theorem aC {i:Nat} {o:Oper} {fuel:Nat} {listed:Array Bool} {a:Act} {w:World} (hr:Region.ready md ops listed = [i]) (ho:ops[i]? = some o) (hl:uI md ops need i=true)
    (h:∀ K':Act→World→Prop,Shut (∀ a w,di P md ops Q S need fuel (listed.setIfInBounds i true) a w→K' a w)→if Region.wanted o (yielded ops a.tmps)=true then Oper.wp P o a w K' Q else K' (a.put o.dst undef) w) :
    di P md ops Q S need (fuel+1) listed a w:=by
 refine⟨fun h0=>(by rw [hr]at h0;cases h0),fun j hj=>?_⟩;rw [hr]at hj;obtain rfl:j=i:=(by simpa using hj);exact wpOp_step ho (fun K' hK=>h K' (fun a w hW=>hK a w ⟨fun h0=>(by rw [hl]at h0;cases h0),hW⟩))
theorem aK {listed:Array Bool} {a:Act} {w:World} (hr:Region.ready md ops listed = []) (h:Q .normal a w):∀ fuel,di P md ops Q S need fuel listed a w
  | 0=>⟨hr,h⟩
  | _+1=>⟨fun _=>h,by rw [hr];simp⟩
theorem ay {id:Nat} {a:Act} {w:World} (need:List Nat) (hm:P.follows .mixedOrders=true) (hS:S w.drew)
    (h:S w.drew→di P .any ops Q S need ops.size (Array.replicate ops.size false) a w.drew):(Code.region id ops true).wp P Q a w :=
  wp_region_any hm (pI _ _ _ _ (h hS))
end
theorem zp (a:Act) (d:Nat) (v:Value):a.put (some d) v = { a with tmps:=a.tmps.setIfInBounds d v }:=rfl
theorem za {α:Type} (l:List α) (i:Nat) (v:α):l.toArray.setIfInBounds i v=(l.set i v).toArray:=List.setIfInBounds_toArray l i v
theorem z0 {α:Type} (x:α) (l:List α) (v:α):(x::l).set 0 v=v::l:=rfl
theorem zs {α:Type} (x:α) (l:List α) (i:Nat) (v:α):(x::l).set (i+1) v=x::l.set i v:=rfl
theorem aE {B:Nat} {w w':World} (h:Below B w w'):Below B w w'.drew:=⟨h.os,h.tape,h.output,h.size,h.block⟩
end Go.Proofs.YtblinekbpcdbfaaGreatDoor
