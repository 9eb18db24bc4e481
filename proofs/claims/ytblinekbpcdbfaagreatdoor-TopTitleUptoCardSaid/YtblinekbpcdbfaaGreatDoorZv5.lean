/- Open -/
import Derived.Test.YtblinekbpcdbfaaGreatDoorZv4
import Derived.ProofKit
import Derived.SizedLaws
import Derived.JoinedCond
import Derived.Deep.CondSized
import Derived.OpenShut
import Derived.Deep.Slices
import Derived.Deep.Fields
import Derived.ChangeSame
import Derived.Carry
namespace Go.Proofs.YtblinekbpcdbfaaGreatDoor
open Go.RowKit Go.ChangeShapes Go.WideShapes Go.ChangeAt
theorem Dg {α:Type} (enc:α→List Value):∀ (l:List α) (css:List (List Value)),l.length=css.length→(∀ (i:Nat) (a:α) (cs:List Value),l[i]? = some a→css[i]? = some cs→cs=enc a)→css.flatten=l.flatMap enc:=by
 intro l;induction l with
 | nil=>intro css h _;have:=List.eq_nil_of_length_eq_zero h.symm;subst this;rfl
 | cons a l ih=>
  intro css h hR;cases css with
  | nil=>simp at h
  | cons c css=>
   have h0:=hR 0 a c rfl rfl;subst h0;rw [List.flatten_cons,List.flatMap_cons,ih css (by simpa using h) (fun i a cs h1 h2=>hR (i+1) a cs (by simpa using h1) (by simpa using h2))]
theorem IG {α:Type} {n:Nat} {p:Nat→α→Prop} (h:∀ i,i<n→∃ a,p i a):∃ l:List α,l.length=n∧∀ (i:Nat) (a:α),l[i]? = some a→p i a:=by
 induction n with
 | zero=>exact⟨[],rfl,by simp⟩
 | succ n ih=>
  obtain⟨l,hl,hp⟩:=ih (fun i hi=>h i (by omega));obtain⟨a,ha⟩:=h n (by omega);refine⟨l++[a],by simp [hl],fun i x hx=>?_⟩;rcases Nat.lt_trichotomy i n with hi | hi | hi;exact hp i x (by rw [List.getElem?_append_left (by omega)]at hx;exact hx)
  ·subst hi;rw [List.getElem?_append_right (by omega)]at hx;simp [hl]at hx;subst hx;exact ha
  rw [List.getElem?_eq_none (by simp;omega)]at hx;cases hx
theorem ER {css:List (List Value)} {sz:Nat} (hsz:0<sz) (h:∀ cs∈css,cs.length=sz):∀ (k:Nat) (u:Value),css.flatten[k]? = some u→∃ cs,css[k / sz]? = some cs∧cs[k % sz]? = some u:=by
 induction css with
 | nil=>intro k u hk;simp at hk
 | cons c css ih=>
  intro k u hk;have hc:c.length=sz:=h c (by simp);by_cases hlt:k<sz
  ·rw [Nat.div_eq_of_lt hlt,Nat.mod_eq_of_lt hlt];rw [List.flatten_cons,List.getElem?_append_left (by omega)]at hk;exact⟨c,rfl,hk⟩
  obtain⟨q,rfl⟩:∃ q,k=q+sz:=⟨k - sz,by omega⟩;rw [List.flatten_cons,List.getElem?_append_right (by omega),hc,Nat.add_sub_cancel]at hk;obtain⟨cs,h1,h2⟩:=ih (fun x hx=>h x (by simp [hx])) q u hk;rw [Nat.add_div_right _ hsz,Nat.add_mod_right];exact⟨cs,by simpa using h1,h2⟩
section
variable {H : Type} {enc : TypeId × Value → H} {P : Program} {w : World} {held : Bool}
theorem Ir {α:Type} {t e:TypeId} {fuel:Nat} {A:Option Addr} {n c sz:Nat} {x:DataW H × List MemPlace} (ht:P.underlying t=some (.slice e)) (hC:P.cellsOf e=sz) (hsz:0<sz)
    (h:DataW.trod enc P w 0 (fun _=>true) held fuel t [.slice A n c] = some x) (R:α→List Value→Prop) (hel:∀ m cs y,DataW.trod enc P w 0 (fun _=>true) held m e cs=some y→∃ a,R a cs) :
    n≤c∧c≤maxLen∧∃ (l:List α) (css:List (List Value)),l.length=n∧css.length=n∧(∀ (i:Nat) (a:α) (cs:List Value),l[i]? = some a→css[i]? = some cs→R a cs)∧(∀ cs∈css,cs.length=sz) ∧
      Rd w w.heap.size sz A n css.flatten∧((x.1=.nil∧c=0)∨∃ elems spare,x.1=.slice elems spare∧elems.length+spare.length=c):=by
 rcases Deep.open_slice ht h with ⟨hcs,hx⟩ | ⟨a,len,cap,m,f,D,Pl,hcs,_,hl,hm,hmm,hx,hi⟩
 ·simp only [List.cons.injEq,Value.slice.injEq,and_true]at hcs;obtain⟨rfl,rfl,rfl⟩:=hcs;exact⟨Nat.le_refl _,Nat.zero_le _,[],[],rfl,rfl,by simp,by simp,Rd.nil,.inl ⟨by rw [hx],rfl⟩⟩
 simp only [List.cons.injEq,Value.slice.injEq,and_true]at hcs;obtain⟨rfl,rfl,rfl⟩:=hcs;simp only [if_true]at hmm;subst hmm;rw [hC]at hi;have hp:∀ i,i<n→∃ z:α × List Value,R z.1 z.2∧z.2.length=sz∧∀ j,j<sz→w.cell? ((a.add (i*sz)).add j)=z.2[j]?:=fun i hi'=>by
  obtain⟨cs,h1,h2⟩:=hi i (by omega);obtain⟨_,h3,h4⟩:=World.cells?_some h1;obtain⟨y,hy⟩:=hel _ _ _ h2;exact⟨(y,cs),hy,h3,h4⟩
 obtain⟨zs,hzl,hz⟩:=IG hp;have hlen:∀ cs∈zs.map Prod.snd,cs.length=sz:=by
  intro cs hcs;obtain⟨z,oQ,rfl⟩:=List.mem_map.1 hcs;obtain⟨i,hi1⟩:=List.mem_iff_getElem?.1 oQ;exact(hz i z hi1).2.1
 refine⟨hl,hm,zs.map Prod.fst,zs.map Prod.snd,by simp [hzl],by simp [hzl],?_,hlen,⟨?_,fun hn=>?_⟩,.inr ⟨_,_,by rw [hx],by simp;omega⟩⟩
 ·intro i y cs h1 h2;simp only [List.getElem?_map,Option.map_eq_some_iff]at h1 h2;obtain⟨z,oQ,rfl⟩:=h1;obtain⟨z',tr,rfl⟩:=h2;rw [oQ]at tr;cases tr;exact(hz i z oQ).1
 ·have:∀ (l:List (List Value)),(∀ cs∈l,cs.length=sz)→l.flatten.length=l.length*sz:=by
   intro l;induction l with
   | nil=>intro _;simp
   | cons c l ih=>
    intro hc;rw [List.flatten_cons,List.length_append,ih (fun x hx=>hc x (by simp [hx])),hc c (by simp),List.length_cons,Nat.succ_mul];omega
  rw [this _ hlen];simp [hzl]
 obtain⟨z0,hz0⟩:∃ z,zs[0]? = some z:=⟨_,List.getElem?_eq_getElem (by omega)⟩;obtain⟨_,C5,hc0⟩:=hz 0 z0 hz0;have TQ:=hc0 0 hsz;rw [List.getElem?_eq_getElem (by omega)]at TQ;simp only [Nat.zero_mul]at TQ;have e0:(a.add 0).add 0=a:=(by simp [Addr.add]);rw [e0]at TQ;have hsp:=World.cell?_spot TQ;have fq:=World.block_lt_of_cell? _ _ TQ;obtain⟨b,off,spot⟩:=a;simp only at hsp;subst hsp;refine⟨b,off,rfl,fq,fun j u hu=>?_⟩;obtain⟨cs,h1,h2⟩:=ER hsz hlen j u hu;simp only [List.getElem?_map,Option.map_eq_some_iff]at h1;obtain⟨z,oQ,rfl⟩:=h1;obtain⟨_,h3,h4⟩:=hz _ z oQ;have:=h4 (j % sz) (Nat.mod_lt _ hsz);rw [h2,gz,gz]at this;rw [← this];congr 2;rw [Nat.add_assoc,Nat.mul_comm,Nat.div_add_mod]
theorem Jp (hl:laidOutB P=true) {W W':World} (hb:Below W.heap.size W W'):∀ (ts:List TypeId),(ts.all fun t=>P.readableRec t && decide (t<P.types.size))=true →
    ∀ (vs:List Value) (ds:List (DataW H)) (ps:List MemPlace),DataW.TrodAll enc P W 0 (fun _=>true) true ts vs ds ps→(∀ x∈ps,x.block<W.heap.size) →
      DataW.TrodAll enc P W' 0 (fun b=>decide (b<W.heap.size)) true ts vs ds ps:=by
 intro ts;induction ts with
 | nil=>
  intro _ vs ds ps h _;obtain⟨rfl,rfl,rfl⟩:=trodAll_nil h;rfl
 | cons t ts ih=>
  intro hr vs ds ps h hlt;simp only [List.all_cons,Bool.and_eq_true,decide_eq_true_eq]at hr;obtain⟨v,vs',d,ds',p,q,rfl,rfl,rfl,h0,h1⟩:=trodAll_cons h;exact trodAll_cons_mk (Below.trod hl hr.1.1 hr.1.2 h0 hb (fun x hx=>hlt x (by simp [hx]))) (ih (by simpa using hr.2) vs' ds' q h1 (fun x hx=>hlt x (by simp [hx])))
theorem NA {f:Func} {s:ChangeSpec} {W W':World} {args:Array Value} {ds gs:List (DataW H)} {before:List MemPlace} {T:TypeId} (hT:P.underlying T=some .bool) (hres:f.resultTypes = #[T]) (hv:s.vars = [])
    (hl:laidOutB P=true) (hr:(f.params.toList.all fun t=>P.readableRec t && decide (t<P.types.size))=true)
    (hW:DataW.Whole enc P f.params.toList s.vars false W args.toList ds gs before) (hs:s.fn H (ds++gs) = { results:=[.lit (.bool true)],args:=ds }) (hb:Below W.heap.size W W') :
    s.post enc P f false true false false W args (.bool true) W':=by
 have hlt:=hW.lt;obtain⟨p,q,hA,hV,rfl,hfz,hnd⟩:=hW;have hV0:=hV;rw [hv]at hV0;obtain⟨rfl,rfl⟩:=trodVars_none hV0;refine⟨ds,[],p++[],[],p,[],⟨p,[],hA,hV,rfl,hfz,hnd⟩,?_,?_,?_,hb.frame _,fun h=>by cases h⟩
 ·rw [hs,hres];exact trodAll_cons_mk (shut_bool hT _) trodAll_mk0
 ·rw [hs];exact Jp hl hb _ hr _ _ _ hA (fun x hx=>by simpa using hlt x (by simp [hx]))
 rw [hs,hv];rfl
end
end Go.Proofs.YtblinekbpcdbfaaGreatDoor
