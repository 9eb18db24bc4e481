/- OpenTexts -/
import Derived.Test.YtkggjgeihhialaaGreatDoorZs4
import Derived.Test.YtkggjgeihhialaaGreatDoorZs0
import Derived.SliceStrings
namespace Go.Proofs.YtkggjgeihhialaaGreatDoor
open Go.RowKit Go.ChangeShapes Go.WideShapes Go.ChangeAt
def strCells (l:List ByteArray):List Value:=l.map .string
theorem F9 {H:Type} {x:DataW H}:∀ {l:List (DataW H)},x∈l→Rows.uptoBulk x≤Rows.uptoBulkAll l:=by
 intro l;induction l with
 | nil=>intro h;cases h
 | cons y l ih=>
  intro h;simp only [Rows.uptoBulkAll];rcases List.mem_cons.1 h with rfl | h;omega;have:=ih h;omega
section
variable {H : Type} {enc : TypeId × Value → H} {w : World}
theorem El {fuel n c:Nat} {A:Option Addr} {x:DataW H × List MemPlace} (h:DataW.trod enc Tryz.prog w 0 (fun _=>true) true fuel 22 [.slice A n c] = some x) :
    n≤Rows.uptoBulk x.1∧∃ l:List ByteArray,Rd w w.heap.size 1 A n (strCells l)∧∀ s∈l,s.size≤Rows.uptoBulk x.1:=by
 rcases open_strings Tryz.underlying22 Tryz.underlying9 (by kernel_rfl) h with ⟨hcs,hx⟩ | ⟨a,len,cap,ss,hcs,_,hl,hm,hz,hx,hi,_⟩
 ·simp only [List.cons.injEq,Value.slice.injEq,and_true]at hcs;obtain⟨rfl,rfl,rfl⟩:=hcs;exact⟨Nat.zero_le _,[],Rd.nil,by simp⟩
 simp only [List.cons.injEq,Value.slice.injEq,and_true]at hcs;obtain⟨rfl,rfl,rfl⟩:=hcs;simp only [if_true]at hz;subst hx;have aT:Rows.uptoBulk (DataW.slice (H:=H) (strs (ss.take n)) (strs (ss.drop n)))=Rows.uptoBulkAll (strs (H:=H) (ss.take n))+Rows.uptoBulkAll (strs (H:=H) (ss.drop n))+1:=(by simp only [Rows.uptoBulk]);have aQ:=J1 (strs (H:=H) (ss.take n));have bJ:(strs (H:=H) (ss.take n)).length=n:=(by simp [strs];omega);refine⟨by dsimp only;omega,ss.take n,⟨by simp [strCells];omega,fun hn=>?_⟩,fun s hs=>?_⟩
 ·have Xj:=hi 0 (by omega);have e0:a.add 0=a:=(by simp [Addr.add]);rw [e0]at Xj;have hsp:=World.cell?_spot Xj;have eD:=World.block_lt_of_cell? _ _ Xj;obtain⟨b,off,spot⟩:=a;simp only at hsp;subst hsp;refine⟨b,off,rfl,eD,fun j u hu=>?_⟩;unfold strCells at hu;rw [List.getElem?_map,Option.map_eq_some_iff]at hu;obtain⟨s,hs,rfl⟩:=hu;have hj:=(List.getElem?_eq_some_iff.1 hs).1;rw [List.length_take]at hj;have h1:=hi j (by omega);have h2:ss[j]? = some s:=(by rwa [List.getElem?_take_of_lt (by omega)]at hs);rw [show ss.getD j ByteArray.empty=s by simp [List.getD,h2]]at h1;rw [gX]at h1;exact h1
 have h1:(DataW.lit (H:=H) (.string s.data.toList))∈strs (H:=H) (ss.take n):=List.mem_map.2 ⟨s,hs,rfl⟩;have h2:=F9 h1;have h3:=rT (H:=H) s;dsimp only;omega
end
theorem FX {w:World} {B n:Nat} {A:Option Addr} {l:List ByteArray} (h:Rd w B 1 A n (strCells l)) {k:Nat} {s:ByteArray} (hk:l[k]? = some s) :
    ∃ b off,A=some ⟨b,off,none⟩∧b<B∧w.cell? ⟨b,off+k,none⟩=some (.string s):=by
 have hl:=(List.getElem?_eq_some_iff.1 hk).1;have h1:=h.1;unfold strCells at h1;rw [List.length_map]at h1;obtain⟨b,off,e,hb,hc⟩:=h.2 (by omega);exact⟨b,off,e,hb,hc k _ (by simp [strCells,hk])⟩
end Go.Proofs.YtkggjgeihhialaaGreatDoor
