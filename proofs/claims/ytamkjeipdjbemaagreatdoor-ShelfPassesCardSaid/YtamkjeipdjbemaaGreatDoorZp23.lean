/- RefSt + ClassSpan -/
import Derived.Test.YtamkjeipdjbemaaGreatDoorZp22
import Derived.Test.YtamkjeipdjbemaaGreatDoorZp13
import Derived.Test.YtamkjeipdjbemaaGreatDoorZp1
import Derived.Deep.DeepCutAuto
set_option maxHeartbeats 3200000
set_option maxRecDepth 100000
namespace Go.Proofs.YtamkjeipdjbemaaGreatDoor
open Go.RowKit Go.Maps
def Q3 (B lo:Nat) (va:Value) (A:List az) (P:List cz) (vp:Value) (wx:World):Prop :=
  dD (bg wx (bI B lo va (.slice none 0 0) vp (.slice none 0 0))) 133 7 wx lo va A ∧
  ∃ css:List (List Value),css.length=P.length∧(∀ (i:Nat) (a:cz) (cs:List Value),P[i]? = some a→css[i]? = some cs→cX wx (bI B lo va (.slice none 0 0) vp (.slice none 0 0)) a cs)∧(∀ cs∈css,cs.length=2) ∧
    wx.ownsRow lo 63 2 vp (P.length+1) (css.flatten++[.string ⟨#[]⟩,va])
abbrev ClD (B lo:Nat) (P:List cz) (vp:Value) (wx:World):Prop:=dB B lo [] [] P [] (.slice none 0 0) (.slice none 0 0) vp (.slice none 0 0) wx
section
variable {B lo g i : Nat} {va vp v' u : Value} {A : List az} {P : List cz} {wx w2 w9 : World}
theorem Q3.kept (hk:aa wx (bI B lo va (.slice none 0 0) vp (.slice none 0 0)) w2 (bI B lo va (.slice none 0 0) vp (.slice none 0 0))) (ho:∀ (e:TypeId) (sz n:Nat) (v:Value) (xs:List Value),wx.ownsRow lo e sz v n xs→w2.ownsRow lo e sz v n xs)
    (h:Q3 B lo va A P vp wx):Q3 B lo va A P vp w2:=by
 obtain⟨h1,css,h2,h3,h4,h5⟩:=h;exact⟨h1.kept (ho _ _ · _ ·) (fun _ _=>bg.keep hk),css,h2,fun i a cs x y=>(h3 i a cs x y).keep hk,h4,ho _ _ _ _ _ h5⟩
theorem Q3.set (h:Q3 B lo va A P vp wx) (h1:B≤g) (h2:g<lo):Q3 B lo va A P vp (wx.setCell ⟨g,i,none⟩ u) :=
  Q3.kept (aa.setCell u (fun b hb=>by rcases hb with h | h <;> dsimp only <;> omega) (fun _ h _=>h)) (fun _ _ _ _ _ h=>qw h h2) h
end
end Go.Proofs.YtamkjeipdjbemaaGreatDoor
namespace Go.Proofs.YtamkjeipdjbemaaGreatDoor
open Go.RowKit
def Si (w:World) (s:ag) (out i:Value) (wr:World):Prop :=
  ∃ j:Nat,j≤s.length∧i=.int .i64 ((2*j:Nat):Int)∧wr.ownsRow w.heap.size 95 2 out j (au (s.take j))∧Below w.heap.size w wr
theorem FM (b off c:Nat) (s:ag) (N:Nat) (w:World) (hN:N=2*s.length) (hn:N≤1000) (hb:b<w.heap.size) (hr:∀ j u,(au s)[j]? = some u→w.cell? ⟨b,off+j,none⟩=some u) :
    Calls Tryz.prog 142 #[.slice (some ⟨b,off,none⟩) N c] w (dO w s 1000):=by
 obtain⟨i0,hi,y0,y1,y2⟩:=info_parts jY;have HR:=qqh hr;have YQ:=qqh hN;clear hr hN;go_enter Tryz.func142,Tryz.ntmps142;go_wp2_with fail;go_loopw [3,4] (Si w s) (fun _ i _=>N - (intOf i).toNat);(case atStart=>exact⟨0,Nat.zero_le _,rfl,World.ownsRow_nil _ _ _ _,qqb⟩);obtain⟨j,hj,rfl,hown,eP⟩:=hrel;have hz:=eP.size;obtain⟨Av,cv,rfl,sP⟩:=av hown;by_cases hlt:j<s.length
 ·have aeC:2*j+1<N:=(by have:=YQ.out;omega);have abW:j+1≤1000:=(by have:=YQ.out;omega);obtain⟨⟨x,y⟩,hx⟩:∃ z,s[j]? = some z:=⟨_,List.getElem?_eq_getElem hlt⟩;obtain⟨q0,q1⟩:=kD s j x y hx;rw [Nat.mul_comm j 2]at q0 q1;have d0:=(eP.cell (p:=⟨b,off+2*j,none⟩) hb).trans (HR.out _ _ q0);have d1:=(eP.cell (p:=⟨b,off+(2*j+1),none⟩) hb).trans (HR.out _ _ q1);have HT:=qqh (show s.take (j+1)=s.take j++[(x,y)] by rw [List.take_add_one,hx];rfl);have nM:=qqh (World.ownsRow.alloc hown (.cells #[.int .i32 x,.int .i32 y] 95));have bF:=qqh (eP.alloc hz (.cells #[.int .i32 x,.int .i32 y] 95));have HN:=qqh (Rd.new wr 95 2 1 [.int .i32 x,.int .i32 y] rfl);generalize hm:2*j=m at *;have HM:=qqh hm;clear hx q0 q1 hown eP hm;have hg:decide ((m:Int)<(N:Int))=true:=decide_eq_true (by omega);have hw1:IntKind.i64.wrap ((m:Int)+1)=((m+1:Nat):Int):=(by rw [wrap_small _ (by omega) (by omega)];omega);have k0:(0:Int)≤(m:Int):=(by omega);have k1:(m:Int)<(N:Int):=(by omega);have k2:(0:Int)≤(m:Int)+1:=(by omega);have k3:(m:Int)+1<(N:Int):=(by omega);go_upto_region 5 with fail;refine aC (S:=(fun w'=>w'.cell? ⟨b,off+m,none⟩=some (.int .i32 x)∧w'.cell? ⟨b,off+(m+1),none⟩=some (.int .i32 y))) [4,9] (by kernel_rfl) ⟨d0,d1⟩ (fun aQ=>?_);refine tq 0 11 ?_;(try simp only [zp,za,z0,zs]);refine tq 1 12 ?_;(try simp only [zp,za,z0,zs]);refine tq 2 13 ?_;(try simp only [zp,za,z0,zs]);refine tq 3 14 ?_;(try simp only [zp,za,z0,zs]);refine tu 4 15 ?_;(try simp only [zp,za,z0,zs]);refine tq 5 16 ?_;(try simp only [zp,za,z0,zs]);refine tq 6 17 ?_;(try simp only [zp,za,z0,zs]);refine tq 7 18 ?_;(try simp only [zp,za,z0,zs]);refine tq 8 19 ?_;(try simp only [zp,za,z0,zs])
  refine tu 9 20 ?_;(try simp only [zp,za,z0,zs]);refine tq 10 21 ?_;(try simp only [zp,za,z0,zs]);refine aA (i:=11) (o:=⟨some 22,_,_,_,_,_⟩) (by kernel_rfl) rfl (by kernel_rfl) (fun K hK=>?_);go_simp;(try dsimp only);refine hK.out _ _ ?_;clear hK K;(try simp only [zp,za,z0,zs]);refine aA (i:=12) (o:=⟨some 23,_,_,_,_,_⟩) (by kernel_rfl) rfl (by kernel_rfl) (fun K hK=>?_);refine aH _ rfl (.tmp 11) (.tmp 22) 26 rfl w.heap.size 95 i0 _ 2 8 Tryz.underlying26 hi y0 y1 y2 rfl (by decide) _ _ _ rfl nM.out (wr.heap.size+1) (some ⟨wr.heap.size,0,none⟩) 1 1 [.int .i32 x,.int .i32 y] rfl HN.out (mM _ _) (by simp only [maxLen];omega) (by omega) bF.out.size ?_;intro v' w9 af;(try dsimp only);refine hK.out _ _ ?_;clear hK K;have cB:=qqh ((ak bF.out).trans (af.below (ak bF.out).size nM.out));have fH:=qqh (show w9.ownsRow w.heap.size 95 2 v' (j+1) (au (s.take (j+1))) by rw [HT.out,hJ];exact af.own);clear af;(try simp only [zp,za,z0,zs]);refine tq 13 3 ?_;(try simp only [zp,za,z0,zs]);refine aL (by kernel_rfl) ?_ _;go_simp;go_wp2_with fail;exact⟨⟨j+1,by omega,by rw [show((2*(j+1):Nat):Int)=(m:Int)+2 by have:=HM.out;omega],fH.out,cB.out⟩,by simp [intOf];omega⟩
 obtain rfl:j=s.length:=(by omega);have HF:=qqh (show wr.ownsRow w.heap.size 95 2 (.slice Av s.length cv) s.length (au s) by have:=hown;rwa [List.take_of_length_le qql]at this);generalize hm:2*s.length=m at *;have hg:decide (m<N)=false:=decide_eq_false (by have:=YQ.out;omega);have Qc:s.length≤1000:=(by have:=YQ.out;omega);generalize s.length=k at *;clear hown hm;go_wp2_with fail;go_ret;exact⟨Av,_,cv,rfl,cL.b8 HF.out (fun b hb=>(bt HF.out hb).1),Qc,sP,eP⟩
end Go.Proofs.YtamkjeipdjbemaaGreatDoor
