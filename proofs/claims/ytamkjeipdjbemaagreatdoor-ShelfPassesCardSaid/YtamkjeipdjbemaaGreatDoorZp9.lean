import Derived.Test.YtamkjeipdjbemaaGreatDoorZp4
import Derived.Test.YtamkjeipdjbemaaGreatDoorZp6
namespace Go.Proofs.YtamkjeipdjbemaaGreatDoor
open Go.RowKit Go.ChangeShapes Go.WideShapes Go.ChangeAt
section
variable {H : Type} {enc : TypeId × Value → H} {w : World}
theorem FX {fuel n c:Nat} {A:Option Addr} {x:DataW H × List MemPlace} (h:DataW.trod enc Tryz.prog w 0 (fun _=>true) true fuel 22 [.slice A n c] = some x) :
    n≤c∧c≤maxLen∧(∃ l,mg w w.heap.size A n l)∧((x.1=.nil∧c=0)∨∃ elems spare,x.1=.slice elems spare∧elems.length+spare.length=c):=by
 obtain⟨h1,h2,l,css,hl,hc,hR,_,hrd,hx⟩:=Jg Tryz.underlying22 (sz:=1) (by kernel_rfl) (by decide) h (fun(a:Int) cs=>cs = [.int .i32 a]) (fun m cs y hy=>by
  obtain⟨a,e,_,_⟩:=DataW.trod_int Tryz.underlying21 hy;exact⟨a,e⟩)
 rw [EG (fun a:Int=>[.int .i32 a]) l css (by omega) hR]at hrd;refine⟨h1,h2,⟨l,?_⟩,hx⟩;unfold mg runeCells;rw [List.map_eq_flatMap];exact hrd
end
end Go.Proofs.YtamkjeipdjbemaaGreatDoor
