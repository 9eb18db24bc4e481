/- Compact -/
import Derived.Test.YtblinekbpcdbfaaGreatDoorZv29
import Derived.Shelf.SlicesE.Compact
namespace Go.Proofs.YtblinekbpcdbfaaGreatDoor
open Go.RowKit Go.Sort Go.Shelf
def tg:Go.Shelf.Ren:=⟨fun | 43=>142 | n=>n,fun | 22=>24 | 23=>21 | 3=>3 | 4=>4 | 0=>0 | n=>n,fun | n=>n⟩
theorem AF:Go.Proofs.SlLaysE.n43 Tryz.prog tg:={
  mixed:=by kernel_rfl
  f43:=⟨Tryz.f142.name,by decide,Tryz.func142.trans (congrArg some (by kernel_rfl))⟩
  t0:=Tryz.underlying0
  a0:=Tryz.isAgg0
  z0:=Tryz.sizeOf0
  v0:=Tryz.zeroValue0
  t3:=Tryz.underlying3
  a3:=Tryz.isAgg3
  z3:=Tryz.sizeOf3
  v3:=Tryz.zeroValue3
  t4:=Tryz.underlying4
  a4:=Tryz.isAgg4
  z4:=Tryz.sizeOf4
  v4:=Tryz.zeroValue4
  t22:=Tryz.underlying24
  a22:=Tryz.isAgg24
  z22:=Tryz.sizeOf24
  v22:=Tryz.zeroValue24
  a23:=Tryz.isAgg21
  z23:=Tryz.sizeOf21 }
theorem holds_of {w:World} {blk off:Nat} {d:Array Int} (h:cS w blk off d):Holds (Value.int .i32) w blk off d:=by
 obtain⟨c,e,hb,hc⟩:=h;exact fun j hj=>⟨(hb.cell _).trans (hc j hj),hb.frozen _⟩
theorem Iw {w:World} {blk off:Nat} {d D:Array Int} (h:cS w blk off d) (hD:D.size=d.size) (q:Nat):aA w blk off D (putRow (Value.int .i32) (Sort.ahead w q) blk off D):=by
 obtain⟨c,e,hb,hc⟩:=h;refine⟨c,putCells (Value.int .i32) off D c,e,hb,?_,by simp [putCells],fun j hj=>?_,fun k hk=>?_,by simp,rfl,rfl,rfl,fun k _ hne=>?_⟩
 ·unfold aj at hb ⊢;simp only [putRow,mapBlock,Sort.ahead,Array.getElem?_modify,if_true,hb,Option.map_some,onCells]
 ·have h1:=hc j (by omega);simp only [putCells,Array.getElem?_mapIdx,h1,Option.map_some];rw [if_pos ⟨by omega,by omega⟩,show off+j - off=j by omega]
 ·simp only [putCells,Array.getElem?_mapIdx];cases c[k]? with
  | none=>rfl
  | some x=>simp only [Option.map_some];rw [if_neg (by omega)]
 simp only [putRow,mapBlock,Sort.ahead,Array.getElem?_modify];rw [if_neg (fun e=>hne e.symm)]
theorem yB (blk off cap sz:Nat) (d:Array Int) (w:World) (hs:d.size=sz) (hH:cS w blk off d) (hsz:sz≤9223372036854775807) (hcap:sz≤cap) :
    Calls Tryz.prog 142 #[.slice (some ⟨blk,off,none⟩) sz cap] w fun e w'=>e=.returned (.slice (some ⟨blk,off,none⟩) (Lib.compactUpTo d sz).length cap) ∧
      ∃ d',d'.size=sz∧d'.toList.take (Lib.compactUpTo d sz).length=Lib.compactUpTo d sz∧aA w blk off d' w':=by
 subst hs;have hle:(Lib.compactUpTo d d.size).length≤d.size:=by
  unfold Lib.compactUpTo;rw [List.length_map];have:=List.length_filter_le (Lib.keeps d) (List.range d.size);simpa using this
 have hv:∀ w,(zeroValue (tg.t 23)).run Tryz.prog w=.ok (Value.int .i32 0) w:=fun w=>Tryz.zeroValue21 w;have h:=AnyE.slices_Compact AF (Value.int .i32) (fun _=>rfl) (EqlAt.intD _ _ _) (NeqAt.intD _ _ _) 0 hv blk off cap d w (holds_of hH) hsz hcap;change Calls Tryz.prog 142 _ _ _ at h;generalize Lib.compactUpTo d d.size=C at *;refine h.mono ?_;rintro e w' ⟨rfl,q,rfl⟩;refine⟨rfl,(C++List.replicate (d.size - C.length) 0).toArray,by simp;omega,by simp,Iw hH (by simp;omega) q⟩
theorem DM {d:Array Int} (m:Nat) (x:Int):x∈Lib.compactUpTo d m↔∃ j,j<m∧d[j]! = x:=by
 induction m with
 | zero=>simp [Lib.compactUpTo]
 | succ m ih=>
  rw [Lib.compactUpTo_succ,List.mem_append,ih];constructor
  ·rintro(⟨j,hj,rfl⟩ | h);exact⟨j,by omega,rfl⟩;by_cases hk:Lib.keeps d m=true
   ·rw [if_pos hk]at h;simp at h;exact⟨m,by omega,h.symm⟩
   rw [if_neg hk]at h;cases h
  rintro⟨j,hj,rfl⟩;rcases Nat.lt_or_ge j m with hlt | hge;exact .inl ⟨j,hlt,rfl⟩;obtain rfl:j=m:=(by omega);by_cases hk:Lib.keeps d j=true
  ·right;rw [if_pos hk];simp
  left;simp only [Lib.keeps,decide_eq_true_eq,not_or,Decidable.not_not]at hk;exact⟨j - 1,by omega,hk.2.symm⟩
theorem BH {d:Array Int} {m:Nat} (h:SortedIn ltInt 0 m d):(Lib.compactUpTo d m).Pairwise (· < ·):=by
 have hle:∀ i j,i≤j→j<m→d[i]! ≤ d[j]!:=by
  intro i j hij hj;rcases Nat.lt_or_ge i j with hlt | hge
  ·have:=h i j (Nat.zero_le _) hlt hj;simp only [ltInt,decide_eq_false_iff_not]at this;omega
  obtain rfl:i=j:=(by omega);exact Int.le_refl _
 unfold Lib.compactUpTo;rw [List.pairwise_map];have hp:((List.range m).filter (Lib.keeps d)).Pairwise (· < ·):=List.Pairwise.filter _ List.pairwise_lt_range;refine hp.imp_of_mem ?_;intro i j hi hj hij;have h1:=(List.mem_filter.1 hj);have hjm:=List.mem_range.1 h1.1;have hk:=h1.2;simp only [Lib.keeps,decide_eq_true_eq]at hk;have h2:=hle i (j - 1) (by omega) (by omega);have h3:=hle (j - 1) j (by omega) hjm;rcases hk with hk | hk;omega;omega
theorem zk:∀ {a b:List Int},a.Pairwise (· < ·)→b.Pairwise (· < ·)→(∀ x,x∈a↔x∈b)→a=b:=by
 intro a;induction a with
 | nil=>
  intro b _ _ h;cases b with
  | nil=>rfl
  | cons y b=>exact absurd ((h y).2 (by simp)) (by simp)
 | cons x a ih=>
  intro b ha hb h;cases b with
  | nil=>exact absurd ((h x).1 (by simp)) (by simp)
  | cons y b=>
   rw [List.pairwise_cons]at ha hb;have hxy:x=y:=by
    rcases List.mem_cons.1 ((h x).1 (by simp))with e | e;exact e;rcases List.mem_cons.1 ((h y).2 (by simp))with e2 | e2;exact e2.symm;have:=ha.1 y e2;have:=hb.1 x e;omega
   subst hxy;congr 1;refine ih ha.2 hb.2 (fun z=>⟨fun hz=>?_,fun hz=>?_⟩)
   ·rcases List.mem_cons.1 ((h z).1 (by simp [hz]))with e | e
    ·have:=ha.1 z hz;omega
    exact e
   rcases List.mem_cons.1 ((h z).2 (by simp [hz]))with e | e
   ·have:=hb.1 z hz;omega
   exact e
end Go.Proofs.YtblinekbpcdbfaaGreatDoor
