/- ShFree + BareD + PartX + SameI + SetNot + ConcatS -/
import Derived.Test.YtamkjeipdjbemaaGreatDoorZp12
import Derived.Deep.Strs
import Derived.Deep.QuietTactic
import Derived.BigQuiet
import Derived.Test.YtamkjeipdjbemaaGreatDoorZp11
import Derived.Test.YtamkjeipdjbemaaGreatDoorZp10
import Derived.BigRegion
import Derived.Lib.AppendZeros
import Derived.Lib.SliceRun
set_option maxHeartbeats 1600000
set_option maxRecDepth 100000
namespace Go.Proofs.YtamkjeipdjbemaaGreatDoor
open Go.RowKit
theorem mZ {w:World} {g i:Nat} {t:TypeId} {cs:Array Value} {v:Value} (h:an w g t cs) (hv:cs[i]? = some v):w.setCell ⟨g,i,none⟩ v=w:=by
 have e0:cs.setIfInBounds i v=cs:=by
  apply Array.ext_getElem?;intro k;rw [Array.getElem?_setIfInBounds];by_cases hk:i=k
  ·subst hk;rw [if_pos rfl,hv,if_pos (Array.getElem?_eq_some_iff.1 hv).1]
  rw [if_neg hk]
 have e:(w.setCell ⟨g,i,none⟩ v).heap=w.heap:=by
  unfold World.setCell;apply Array.ext_getElem?;intro k;simp only [Array.getElem?_modify];by_cases hk:g=k
  ·subst hk;unfold an at h;rw [if_pos rfl,h];simp [e0]
  rw [if_neg hk]
 have e2:w.setCell ⟨g,i,none⟩ v = { w with heap:=(w.setCell ⟨g,i,none⟩ v).heap }:=rfl;rw [e2,e]
def Ms:Value→Bool
  | .int _ _=>true
  | .string _=>true
  | .slice _ n _=>n != 0
  | _=>false
def Bn (X:Nat→Prop) (g b:Nat):Prop:=X b∧b≠g
def nW (cs:List Value):Prop:=∃ (j:Nat) (u:Value),cs[j]? = some u∧Ms u=true
def VQ (w:World) (g:Nat):Prop:=∀ (j:Nat) (u:Value),w.cell? ⟨g,j,none⟩=some u→Ms u=false
section
variable {w : World} {X : Nat → Prop} {g : Nat} (hG : VQ w g)
include hG
theorem cL.free {sz n:Nat} {A:Option Addr} {xs:List Value} (ht:0<n→nW xs) (h:cL w X sz A n xs):cL w (Bn X g) sz A n xs:=by
 refine⟨h.1,fun hn=>?_⟩;obtain⟨b,off,e,hx,hl,hc⟩:=h.2 hn;refine⟨b,off,e,⟨hx,fun hb=>?_⟩,hl,hc⟩;obtain⟨j,u,h1,h2⟩:=ht hn;subst hb;rw [hG _ u (hc j u h1)]at h2;cases h2
theorem bS.free {α:Type} {R R':α→List Value→Prop} {sz n:Nat} {A:Option Addr} {l:List α} (hR:∀ a∈l,∀ cs,R a cs→nW cs∧R' a cs) (h:bS R w X sz A n l):bS R' w (Bn X g) sz A n l:=by
 obtain⟨css,h1,h2,h3,h4,h5⟩:=h;refine⟨css,h1,h2,fun i a cs ha hc=>(hR a (List.mem_of_getElem? ha) cs (h3 i a cs ha hc)).2,h4,h5.free hG fun hn=>?_⟩;obtain⟨a,ha⟩:∃ a,l[0]? = some a:=⟨_,List.getElem?_eq_getElem (by omega)⟩;obtain⟨cs,hc⟩:∃ cs,css[0]? = some cs:=⟨_,List.getElem?_eq_getElem (by omega)⟩;obtain⟨j,u,q1,q2⟩:=(hR a (List.mem_of_getElem? ha) cs (h3 0 a cs ha hc)).1;exact⟨_,u,dH h4 0 cs hc j u q1,q2⟩
theorem jh.free {s:ag} {u:Value} (h:jh w X s u):jh w (Bn X g) s u:=by
 obtain⟨A,n,c,e,h1,h2⟩:=h;refine⟨A,n,c,e,h1.free hG fun hn=>?_,h2⟩;have hl:=h1.1;cases s with
 | nil=>simp [au]at hl;omega
 | cons a s=>exact⟨0,.int .i32 a.1,by simp [au],rfl⟩
theorem iH.free {s:ag} (hs:s ≠ []) {cs:List Value} (h:iH w X s cs):nW cs∧iH w (Bn X g) s cs:=by
 obtain⟨u,e,h⟩:=h;refine⟨?_,u,e,h.free hG⟩;obtain⟨A,n,c,rfl,h1,_⟩:=h;have hl:=h1.1;refine⟨0,_,by rw [e];rfl,?_⟩;cases s with
 | nil=>exact absurd rfl hs
 | cons a s=>simp [au]at hl;simp [Ms];omega
theorem eH.free {l:List ag} (hl:l.all (fun s=>!s.isEmpty)=true) {u:Value} (h:eH w X l u):eH w (Bn X g) l u:=by
 obtain⟨A,n,c,e,h1,h2⟩:=h;refine⟨A,n,c,e,h1.free hG fun s hs cs hc=>hc.free hG ?_,h2⟩;rintro rfl;have:=List.all_eq_true.1 hl _ hs;simp at this
def BA (r:az):Bool:=r.before.all (fun s=>!s.isEmpty) && r.source.all (fun s=>!s.isEmpty) && r.after.all (fun s=>!s.isEmpty)
theorem bg.free {r:az} (hr:BA r=true) {cs:List Value} (h:bg w X r cs):nW cs∧bg w (Bn X g) r cs:=by
 obtain⟨u1,u2,u3,A,n,c,e,h1,h2,h3,h4,h5⟩:=h;simp only [BA,Bool.and_eq_true]at hr;refine⟨⟨6,.int .i64 r.ai,by rw [e];rfl,rfl⟩,u1,u2,u3,A,n,c,e,h1.free hG hr.1.1,h2.free hG hr.1.2,h3.free hG hr.2,h4.free hG fun hn=>?_,h5⟩;have hl:=h4.1;cases ht:r.target with
 | nil=>rw [ht]at hl;simp [runeCells]at hl;omega
 | cons a s=>exact⟨0,.int .i32 a,by simp [runeCells],rfl⟩
theorem cX.free {p:cz} (hp:p.rules.all BA=true) {cs:List Value} (h:cX w X p cs):nW cs∧cX w (Bn X g) p cs:=by
 obtain⟨u,e,A,n,c,e2,h1,h2⟩:=h;exact⟨⟨0,.string p.name,by rw [e];rfl,rfl⟩,u,e,A,n,c,e2,h1.free hG fun r hr cs hc=>hc.free hG (List.all_eq_true.1 hp r hr),h2⟩
def oB (s:aR):Bool:=s.passes.all fun p=>p.rules.all BA
theorem dW.free {s:aR} (hs:oB s=true) {cs:List Value} (h:dW w X s cs):dW w (Bn X g) s cs:=by
 obtain⟨u,v,e,h1,A,n,c,e2,h2,h3⟩:=h;exact⟨u,v,e,h1.free hG,A,n,c,e2,h2.free hG fun p hp cs hc=>hc.free hG (List.all_eq_true.1 hs p hp),h3⟩
end
def Vt (a:aI):aI:=⟨a.kind,if a.kind=1 then a.rune else 0,if a.kind=2 then a.set else [],if a.kind=3 then a.name else ⟨#[]⟩⟩
def Ro:cG:=⟨false,false,[],[],[],0⟩
def qj (w:World) (X:Nat→Prop) (a:aI) (cs:List Value):Prop :=
  ∃ A n c,cs = [.int .i64 a.kind,.int .i32 a.rune,.slice A n c,.string a.name]∧cL w X 2 A n (au a.set)∧n≤maxLen∧lA a.kind∧a.name.size≤maxLen
def ji (w:World) (X:Nat→Prop) (A:Option Addr) (n:Nat) (l:List aI):Prop:=bS (qj w X) w X 4 A n l
def rR (w:World) (X:Nat→Prop) (s:cG) (cs:List Value):Prop :=
  ∃ A1 n1 c1 A2 n2 c2 A3 n3 c3,cs = [.bool s.start,.bool s.fin,.slice A1 n1 c1,.slice A2 n2 c2,.slice A3 n3 c3,.int .i64 s.ai] ∧
    ji w X A1 n1 s.before∧ji w X A2 n2 s.source∧ji w X A3 n3 s.after∧n1≤maxLen∧n2≤maxLen∧n3≤maxLen∧lA s.ai
def eV (w:World) (X:Nat→Prop) (p:aK) (cs:List Value):Prop :=
  ∃ A n c ls rs,cs = [.int .i64 p.kind,.string p.name,.slice A n c,.int .i64 p.dir]++ls++rs∧cL w X 2 A n (au p.set)∧n≤maxLen∧rR w X p.left ls∧rR w X p.right rs∧lA p.kind∧lA p.dir∧p.name.size≤maxLen
def iE (w:World) (X:Nat→Prop) (A:Option Addr) (n:Nat) (l:List aK):Prop:=bS (eV w X) w X 16 A n l
section
variable {w w' : World} {X X' : Nat → Prop} (hk : aa w X w' X')
include hk
theorem qj.keep {a:aI} {cs:List Value} (h:qj w X a cs):qj w' X' a cs:=by
 obtain⟨A,n,c,e,h1,h2⟩:=h;exact⟨A,n,c,e,h1.keep hk,h2⟩
theorem ji.keep {A:Option Addr} {n:Nat} {l:List aI} (h:ji w X A n l):ji w' X' A n l:=bS.keep hk (fun _ _=>qj.keep hk) h
theorem rR.keep {s:cG} {cs:List Value} (h:rR w X s cs):rR w' X' s cs:=by
 obtain⟨A1,n1,c1,A2,n2,c2,A3,n3,c3,e,h1,h2,h3,h4⟩:=h;exact⟨A1,n1,c1,A2,n2,c2,A3,n3,c3,e,h1.keep hk,h2.keep hk,h3.keep hk,h4⟩
theorem eV.keep {p:aK} {cs:List Value} (h:eV w X p cs):eV w' X' p cs:=by
 obtain⟨A,n,c,ls,rs,e,h1,h2,h3,h4,h5⟩:=h;exact⟨A,n,c,ls,rs,e,h1.keep hk,h2,h3.keep hk,h4.keep hk,h5⟩
theorem iE.keep {A:Option Addr} {n:Nat} {l:List aK} (h:iE w X A n l):iE w' X' A n l:=bS.keep hk (fun _ _=>eV.keep hk) h
end
section
variable {α : Type} {w : World} {B sz n : Nat} {A : Option Addr}
variable {X : Nat → Prop}
theorem bS.rd {R R':α→List Value→Prop} {l:List α} (hR:∀ a cs,R a cs→R' a cs) (h:bS R w X sz A n l):kL R' w w.heap.size sz A n l:=by
 obtain⟨css,h1,h2,h3,h4,h5⟩:=h;exact⟨css,h1,h2,fun i a cs ha hc=>hR a cs (h3 i a cs ha hc),h4,h5.rd (fun _ _ h=>h)⟩
theorem qj.rd {a:aI} {cs:List Value} (h:qj w X a cs):zx w w.heap.size a cs:=by
 obtain⟨A,n,c,e,h1,h2⟩:=h;exact⟨A,n,c,e,h1.rd (fun _ _ h=>h),h2⟩
theorem ji.rd {l:List aI} (h:ji w X A n l):ck w w.heap.size A n l:=bS.rd (fun _ _=>qj.rd) h
theorem rR.rd {s:cG} {cs:List Value} (h:rR w X s cs):tZ w w.heap.size s cs:=by
 obtain⟨A1,n1,c1,A2,n2,c2,A3,n3,c3,e,h1,h2,h3,h4⟩:=h;exact⟨A1,n1,c1,A2,n2,c2,A3,n3,c3,e,h1.rd,h2.rd,h3.rd,h4⟩
theorem eV.rd {p:aK} {cs:List Value} (h:eV w X p cs):zq w w.heap.size p cs:=by
 obtain⟨A,n,c,ls,rs,e,h1,h2,h3,h4,h5⟩:=h;exact⟨A,n,c,ls,rs,e,h1.rd (fun _ _ h=>h),h2,h3.rd,h4.rd,h5⟩
theorem iE.rd {l:List aK} (h:iE w X A n l):DH w w.heap.size A n l:=bS.rd (fun _ _=>eV.rd) h
theorem qj.one {a:aI} {cs:List Value} (h:qj w X a cs):cs.length=4∧∀ u∈cs,u.oneCell'=true:=by
 obtain⟨A,n,c,rfl,_⟩:=h;refine⟨rfl,fun u hu=>?_⟩;simp at hu;rcases hu with rfl | rfl | rfl | rfl <;> rfl
theorem eV.one {p:aK} {cs:List Value} (h:eV w X p cs):cs.length=16∧∀ u∈cs,u.oneCell'=true:=by
 obtain⟨A,n,c,ls,rs,rfl,_,_,⟨A1,n1,c1,A2,n2,c2,A3,n3,c3,rfl,_⟩,⟨B1,m1,d1,B2,m2,d2,B3,m3,d3,rfl,_⟩,_⟩:=h;refine⟨rfl,fun u hu=>?_⟩;simp at hu;rcases hu with rfl | rfl | rfl | rfl | rfl | rfl | rfl | rfl | rfl | rfl | rfl | rfl | rfl | rfl | rfl | rfl <;> rfl
theorem eV.form {q:aK} {cs:List Value} (h:eV w X q cs):∃ A' n' c' L1 a1 x1 L2 a2 x2 L3 a3 x3 R1 b1 y1 R2 b2 y2 R3 b3 y3,cs = [.int .i64 q.kind,.string q.name,.slice A' n' c',.int .i64 q.dir,.bool q.left.start,.bool q.left.fin,.slice L1 a1 x1,.slice L2 a2 x2,.slice L3 a3 x3,.int .i64 q.left.ai,.bool q.right.start,.bool q.right.fin,.slice R1 b1 y1,.slice R2 b2 y2,.slice R3 b3 y3,.int .i64 q.right.ai]:=by
 obtain⟨A,n,c,ls,rs,rfl,_,_,⟨A1,n1,c1,A2,n2,c2,A3,n3,c3,rfl,_⟩,⟨B1,m1,d1,B2,m2,d2,B3,m3,d3,rfl,_⟩,_⟩:=h;exact⟨A,n,c,A1,n1,c1,A2,n2,c2,A3,n3,c3,B1,m1,d1,B2,m2,d2,B3,m3,d3,rfl⟩
theorem cL.nil (sz:Nat):cL w X sz none 0 []:=⟨by simp,fun h=>absurd h (Nat.lt_irrefl 0)⟩
theorem ji.nil:ji w X none 0 []:=⟨[],rfl,rfl,by simp,by simp,cL.nil 4⟩
theorem kM:rR w X Ro [.bool false,.bool false,.slice none 0 0,.slice none 0 0,.slice none 0 0,.int .i64 0] :=
  ⟨none,0,0,none,0,0,none,0,0,rfl,ji.nil,ji.nil,ji.nil,Nat.zero_le _,Nat.zero_le _,Nat.zero_le _,by unfold lA Ro;dsimp only;omega⟩
end
theorem I3:(Tryz.prog.info? 83).map (fun i=>(i.zero,i.size,i.bytes))=some (some (.agg #[.int .i64 0,.string ⟨#[]⟩,.slice none 0 0,.int .i64 0,.bool false,.bool false,.slice none 0 0,.slice none 0 0,.slice none 0 0,.int .i64 0,.bool false,.bool false,.slice none 0 0,.slice none 0 0,.slice none 0 0,.int .i64 0]),16,232):=by kernel_rfl
theorem DL {xs ys:List Int} {k:Nat} {x y:Int} (hx:xs[k]? = some x) (hy:ys[k]? = some y) (h:x≠y):false=(xs == ys):=by
 symm;rw [beq_eq_false_iff_ne];rintro rfl;rw [hx]at hy;cases hy;exact h rfl
theorem vZ {xs ys:List Int} {k:Nat} {x:Int} (hx:xs[k]? = some x) (hy:ys[k]? = some x) (he:xs.take k=ys.take k):xs.take (k+1)=ys.take (k+1):=by
 rw [List.take_add_one,List.take_add_one,he,hx,hy]
theorem Aj {xs ys:List Int} {n:Nat} (hx:xs.length=n) (hy:ys.length=n) (he:xs.take n=ys.take n):true=(xs == ys):=by
 rw [List.take_of_length_le (by omega),List.take_of_length_le (by omega)]at he;simp [he]
theorem Jm (A C:Option Addr) (n m c d:Nat) (xs ys:List Int) (w:World) (hn:n≤9223372036854775807) (hx:JK w w.heap.size A n xs) (hy:JK w w.heap.size C m ys) :
    Calls Tryz.prog 88 #[.slice A n c,.slice C m d] w fun e w'=>e=.returned (.bool (xs == ys))∧∃ k,w'=w.drewN k:=by
 have LX:=qqh hx.len;have LY:=qqh hy.len;have HX:=qqh hx;have HY:=qqh hy;clear hx hy;by_cases hnm:n=m
 ·subst hnm;go_enter Tryz.func88,Tryz.ntmps88;go_wp2_with fail;go_loopw [13] (fun i wr=>∃ k q:Nat,k≤n∧i=.int .i64 k∧wr=w.drewN q∧xs.take k=ys.take k) (fun i _=>n - (intOf i).toNat);(case atStart=>exact⟨0,0,Nat.zero_le _,rfl,rfl,rfl⟩);obtain⟨k,q,hk,rfl,rfl,heq⟩:=hrel;have HE:=qqh heq;clear heq;by_cases hlt:k<n
  ·obtain⟨x,hx⟩:∃ z,xs[k]? = some z:=⟨_,List.getElem?_eq_getElem (by rw [LX.out];exact hlt)⟩;obtain⟨y,hy⟩:∃ z,ys[k]? = some z:=⟨_,List.getElem?_eq_getElem (by rw [LY.out];exact hlt)⟩;obtain⟨b1,o1,rfl,aP,hc1⟩:=HX.out.at hx;obtain⟨b2,o2,rfl,aX,hc2⟩:=HY.out.at hy;have sL:=qqh hx;have vY:=qqh hy;clear hx hy;by_cases he:x=y
   ·subst he;go_wp2_with fail;go_quiet (fail);go_wp2_with fail;exact⟨⟨k+1,_,by omega,by go_num,rfl,vZ sL.out vY.out HE.out⟩,by simp [intOf];omega⟩
   have hd:(x != y)=true:=(by rw [bne_iff_ne];exact he);go_wp2_with fail;go_quiet (fail);go_wp2_with fail;go_ret;exact⟨aV (DL sL.out vY.out he),_,World.drewN_drewN _ _ _⟩
  obtain rfl:k=n:=(by omega);go_wp2_with fail;go_ret;exact⟨aV (Aj LX.out LY.out HE.out),_,rfl⟩
 have hne:((n:Int) !=(m:Int))=true:=(by rw [bne_iff_ne];omega);go_enter Tryz.func88,Tryz.ntmps88;go_wp2_with fail;go_ret;refine⟨aV ?_,0,rfl⟩;symm;rw [beq_eq_false_iff_ne];intro e;have h1:=LX.out;have h2:=LY.out;rw [e]at h1;omega
theorem Ch (A C:Option Addr) (n m c d:Nat) (xs ys:List Int) (w:World) (hn:n≤9223372036854775807) (hx:JK w w.heap.size A n xs) (hy:JK w w.heap.size C m ys) :
    Calls Tryz.prog 147 #[.slice A n c,.slice C m d] w fun e w'=>e=.returned (.bool (xs == ys))∧∃ k,w'=w.drewN k:=by
 have LX:=qqh hx.len;have LY:=qqh hy.len;have HX:=qqh hx;have HY:=qqh hy;clear hx hy;by_cases hnm:n=m
 ·subst hnm;go_enter Tryz.func147,Tryz.ntmps147;go_wp2_with fail;go_loopw [13] (fun i wr=>∃ k q:Nat,k≤n∧i=.int .i64 k∧wr=w.drewN q∧xs.take k=ys.take k) (fun i _=>n - (intOf i).toNat);(case atStart=>exact⟨0,0,Nat.zero_le _,rfl,rfl,rfl⟩);obtain⟨k,q,hk,rfl,rfl,heq⟩:=hrel;have HE:=qqh heq;clear heq;by_cases hlt:k<n
  ·obtain⟨x,hx⟩:∃ z,xs[k]? = some z:=⟨_,List.getElem?_eq_getElem (by rw [LX.out];exact hlt)⟩;obtain⟨y,hy⟩:∃ z,ys[k]? = some z:=⟨_,List.getElem?_eq_getElem (by rw [LY.out];exact hlt)⟩;obtain⟨b1,o1,rfl,aP,hc1⟩:=HX.out.at hx;obtain⟨b2,o2,rfl,aX,hc2⟩:=HY.out.at hy;have sL:=qqh hx;have vY:=qqh hy;clear hx hy;by_cases he:x=y
   ·subst he;go_wp2_with fail;go_quiet (fail);go_wp2_with fail;exact⟨⟨k+1,_,by omega,by go_num,rfl,vZ sL.out vY.out HE.out⟩,by simp [intOf];omega⟩
   have hd:(x != y)=true:=(by rw [bne_iff_ne];exact he);go_wp2_with fail;go_quiet (fail);go_wp2_with fail;go_ret;exact⟨aV (DL sL.out vY.out he),_,World.drewN_drewN _ _ _⟩
  obtain rfl:k=n:=(by omega);go_wp2_with fail;go_ret;exact⟨aV (Aj LX.out LY.out HE.out),_,rfl⟩
 have hne:((n:Int) !=(m:Int))=true:=(by rw [bne_iff_ne];omega);go_enter Tryz.func147,Tryz.ntmps147;go_wp2_with fail;go_ret;refine⟨aV ?_,0,rfl⟩;symm;rw [beq_eq_false_iff_ne];intro e;have h1:=LX.out;have h2:=LY.out;rw [e]at h1;omega
def U7 (w:World) (n:Nat) (i:Value) (wr:World):Prop:=∃ j:Nat,j≤n∧i=.int .i64 j∧Below w.heap.size w wr
theorem wV (X:Nat→Prop) (L:List ag) (A:Option Addr) (n c:Nat) (w:World) (hn:n≤1000) (hS:∀ s∈L,aJ s) (hL:bS (iH w X) w X 1 A n L) :
    Calls Tryz.prog 115 #[.slice A n c] w fun e w'=>e=.returned (.int .i64 0)∧Below w.heap.size w w':=by
 have aM:=qqh (show L.length=n from hL.len);have HL:=qqh hL;have HS:=qqh hS;clear hL hS;go_enter Tryz.func115,Tryz.ntmps115;go_wp2_with fail;go_loopw [8] (U7 w n) (fun i _=>n - (intOf i).toNat);(case atStart=>exact⟨0,Nat.zero_le _,rfl,qqb⟩);obtain⟨j,hj,rfl,hb⟩:=hrel;by_cases hlt:j<n
 ·obtain⟨s,hs⟩:∃ z,L[j]? = some z:=⟨_,List.getElem?_eq_getElem (by rw [aM.out];exact hlt)⟩;obtain⟨b,off,A',n',c',rfl,_,cK,Lb,hrd,_,hnn⟩:=pH HL.out hs;have pT:=(hb.cell (p:=⟨b,off+j,none⟩) cK).trans Lb;simp only [maxLen]at hnn;have HW:=qqh (show Calls Tryz.prog 39 #[.slice A' n' c'] wr fun e w'=>e=.returned (.int .i64 0)∧Below wr.heap.size wr w' by
   have:=jx A' n' c' s wr (by omega) ((Rd.below hrd hb).more hb.size);rwa [mK (HS.out s (List.mem_of_getElem? hs))]at this)
  have HB:=qqh hb;clear hs hrd hb Lb;go_wp2_with fail;refine HW.out.mono ?_;rintro e w1 ⟨rfl,aP⟩;have bF:=qqh (HB.out.trans (aP.mono HB.out.size));go_wp2_with fail;exact⟨⟨j+1,by omega,by go_num,bF.out⟩,by simp [intOf];omega⟩
 obtain rfl:j=n:=(by omega);go_wp2_with fail;go_ret;exact⟨rfl,hb⟩
theorem oC (A:Option Addr) (n c:Nat) (w:World) :
    Calls Tryz.prog 120 #[.slice A n c] w fun e w'=>e=.returned (if 200<n then .tuple #[.slice none 0 0,.int .i64 5]else .tuple #[.slice A n c,.int .i64 0])∧w'=w:=by
 by_cases h:200<n
 ·rw [if_pos h];go_enter Tryz.func120,Tryz.ntmps120;go_wp2_with fail;go_ret2;exact⟨rfl,rfl⟩
 rw [if_neg h];go_enter Tryz.func120,Tryz.ntmps120;go_wp2_with fail;go_ret2;exact⟨rfl,rfl⟩
def dO (w:World) (s:ag) (m:Nat) (e:Ending) (w':World):Prop:=∃ A' n' c',e=.returned (.slice A' n' c')∧cL w' (fun b=>w.heap.size≤b) 2 A' n' (au s)∧n'≤m∧n'≤c'∧Below w.heap.size w w'
def Wl (w:World) (s:ag) (n:Nat) (out a i:Value) (wr:World):Prop :=
  ∃ (j k:Nat) (x:Int) (acc:ag),j≤n∧i=.int .i64 j∧a=.int .i32 x∧0≤x∧x≤1114112∧k≤j∧wr.ownsRow w.heap.size 95 2 out k (au acc)∧acc.length=k∧wP s=acc++mY x (s.drop j)∧Below w.heap.size w wr
theorem Ef (A:Option Addr) (n c:Nat) (s:ag) (w:World) (hn:n≤200) (hs:aJ s) (hl:mA w w.heap.size A n s) :
    Calls Tryz.prog 122 #[.slice A n c] w (dO w (wP s) 201):=by
 obtain⟨i0,hi,z0,z1,z2⟩:=info_parts jY;have aM:=qqh hl.len;have HL:=qqh hl;have HS:=qqh hs;clear hl hs;go_enter Tryz.func122,Tryz.ntmps122;go_wp2_with fail;go_loopw [3,4,9] (Wl w s n) (fun _ _ i _=>n - (intOf i).toNat);(case atStart=>exact⟨0,0,0,[],Nat.zero_le _,rfl,rfl,by omega,by omega,by omega,World.ownsRow_nil _ _ _ _,rfl,rfl,qqb⟩);obtain⟨j,k,a,acc,hj,rfl,rfl,ha0,mI,hk,hown,hk2,aN,hb⟩:=hrel;have hz:=hb.size;have hb0:=hb;obtain⟨A3,c3,rfl,lR⟩:=av hown;by_cases hlt:j<n
 ·obtain⟨⟨x,y⟩,hx⟩:∃ z,s[j]? = some z:=⟨_,List.getElem?_eq_getElem (by rw [aM.out];exact hlt)⟩;obtain⟨b,off,rfl,cK,c0,c1⟩:=HL.out.at hx;have d0:=(hb.cell (p:=⟨b,off+j*2,none⟩) cK).trans c0;have d1:=(hb.cell (p:=⟨b,off+j*2+1,none⟩) cK).trans c1;have hxy:=HS.out.each (x,y) (List.mem_of_getElem? hx);simp only at hxy;rw [bR hx,mY]at aN;simp only at aN;have HX:=qqh hx;have bF:=qqh (hb.alloc hz (.cells #[.int .i32 x,.int .i32 y] 95));have nM:=qqh (World.ownsRow.alloc hown (.cells #[.int .i32 x,.int .i32 y] 95));have KX:=qqh hown;have HY:=qqh (an.new wr 95 #[.int .i32 x,.int .i32 y]);clear hx c0 c1 hown hb hb0;by_cases hgt:a<x
  ·rw [if_pos hgt]at aN;have HG:=qqh aN;have rC:=qqh (World.ownsRow.alloc nM.out (.cells #[.int .i32 a,.int .i32 (x - 1)] 95));have bf:=qqh (bF.out.alloc bF.out.size (.cells #[.int .i32 a,.int .i32 (x - 1)] 95));have HN:=qqh (show Rd ((wr.alloc (.cells #[.int .i32 x,.int .i32 y] 95)).alloc (.cells #[.int .i32 a,.int .i32 (x - 1)] 95)) (wr.heap.size+1+1) 2 (some ⟨wr.heap.size+1,0,none⟩) 1 [.int .i32 a,.int .i32 (x - 1)] by
    have:=Rd.new (wr.alloc (.cells #[.int .i32 x,.int .i32 y] 95)) 95 2 1 [.int .i32 a,.int .i32 (x - 1)] rfl;simpa using this)
   clear aN;go_wp2_with (at_builtin;refine aj _ rfl (.tmp 17) (.tmp 23) 26 rfl w.heap.size 95 i0 _ 2 8 Tryz.underlying26 hi z0 z1 z2 rfl (by decide) _ _ _ rfl rC.out (wr.heap.size+1+1) (some ⟨wr.heap.size+1,0,none⟩) 1 1 [.int .i32 a,.int .i32 (x - 1)] rfl HN.out (mM _ _) (by simp only [maxLen];omega) (by omega) bf.out.size ?_);intro v' w9 af;have cB:=qqh (bf.out.trans (af.below bf.out.size rC.out));have fH:=qqh (show w9.ownsRow w.heap.size 95 2 v' (k+1) (au (acc++[(a,x - 1)])) by rw [hJ];exact af.own);have uM:an w9 wr.heap.size 95 #[.int .i32 x,.int .i32 y]:=by
    have h1:an ((wr.alloc (.cells #[.int .i32 x,.int .i32 y] 95)).alloc (.cells #[.int .i32 a,.int .i32 (x - 1)] 95)) wr.heap.size 95 #[.int .i32 x,.int .i32 y]:=HY.out.alloc _;unfold an at h1 ⊢;rw [af.2.1.block _ (by simp;omega) (fun e=>?_)];exact h1;have:=(bt KX.out e.symm).2;omega
   have e1:=uM.cell 1;clear af uM;go_wp2_with fail;exact⟨⟨j+1,k+1,y+1,acc++[(a,x - 1)],by omega,by go_num,rfl,by omega,by omega,by omega,fH.out,by simp;omega,by rw [HG.out];simp,cB.out⟩,by simp [intOf];omega⟩
  rw [if_neg hgt,List.nil_append]at aN;have HG:=qqh aN;clear aN;go_wp2_with fail;exact⟨⟨j+1,k,y+1,acc,by omega,by go_num,rfl,by omega,by omega,by omega,nM.out,by omega,HG.out,bF.out⟩,by simp [intOf];omega⟩
 obtain rfl:j=n:=(by omega);rw [List.drop_of_length_le (by rw [aM.out];omega),mY]at aN;by_cases hle:a≤1114111
 ·rw [if_pos hle]at aN;have HG:=qqh aN;have rC:=qqh (World.ownsRow.alloc hown (.cells #[.int .i32 a,.int .i32 1114111] 95));have bf:=qqh (hb.alloc hb.size (.cells #[.int .i32 a,.int .i32 1114111] 95));have HN:=qqh (Rd.new wr 95 2 1 [.int .i32 a,.int .i32 1114111] rfl);clear aN hown hb hb0;go_wp2_with (at_builtin;refine aj _ rfl (.tmp 31) (.tmp 34) 26 rfl w.heap.size 95 i0 _ 2 8 Tryz.underlying26 hi z0 z1 z2 rfl (by decide) _ _ _ rfl rC.out (wr.heap.size+1) (some ⟨wr.heap.size,0,none⟩) 1 1 [.int .i32 a,.int .i32 1114111] rfl HN.out (mM _ _) (by simp only [maxLen];omega) (by omega) bf.out.size ?_);intro v' w9 af;have cB:=qqh (bf.out.trans (af.below bf.out.size rC.out));have fH:=qqh (show w9.ownsRow w.heap.size 95 2 v' (k+1) (au (wP s)) by rw [HG.out,hJ];exact af.own);clear af;obtain⟨A9,c9,rfl,ES⟩:=av fH.out;go_wp2_with fail;go_ret;exact⟨A9,k+1,c9,rfl,cL.b8 fH.out (fun b hb=>(bt fH.out hb).1),by omega,ES,cB.out⟩
 rw [if_neg hle,List.append_nil]at aN;have fH:=qqh (show wr.ownsRow w.heap.size 95 2 (.slice A3 k c3) k (au (wP s)) by rw [aN];exact hown);clear aN hown hb0;go_wp2_with fail;go_ret;exact⟨A3,k,c3,rfl,cL.b8 fH.out (fun b hb=>(bt fH.out hb).1),by omega,lR,hb⟩
def OP (w:World) (outs:List ag) (us:List Value):Prop:=∀ (i:Nat) (l:ag) (u:Value),outs[i]? = some l→us[i]? = some u→∃ A n c,u=.slice A n c∧Rd w w.heap.size 2 A n (au l)
theorem OP.below {w w':World} {outs:List ag} {us:List Value} (h:OP w outs us) (hb:Below w.heap.size w w'):OP w' outs us:=by
 intro i l u h1 h2;obtain⟨A,n,c,e,hr⟩:=h i l u h1 h2;exact⟨A,n,c,e,(Rd.below hr hb).more hb.size⟩
theorem Dy (A:Option Addr) (n c:Nat) (l:ag) (w:World) (hn:n≤100000) (hl:mA w w.heap.size A n l) :
    Calls Tryz.prog 72 #[.slice A n c] w fun e w'=>(∃ v,e=.returned v∧w'.ownsRow w.heap.size 95 2 v n (au l))∧Below w.heap.size w w':=by
 obtain⟨i0,hi,z0,z1,z2⟩:=info_parts jY;have Tj:=qqh (fun W=>Lib.run_eql_slice_nil (P:=Tryz.prog) W 26 95 A n c 0 0 Tryz.underlying26);have HL:=qqh hl;cases A with
 | none=>
  have h0:n=0:=by
   rcases Nat.eq_zero_or_pos n with h | h;exact h;obtain⟨b,o,e,_⟩:=hl.2 h;cases e
  subst h0;have Ck:l = []:=List.eq_nil_of_length_eq_zero hl.len;subst Ck;have heq:=fun W=>Tj.out W;simp only [Option.isNone_none]at heq;clear hl;go_enter Tryz.func72,Tryz.ntmps72;go_wp2_with fail;go_ret;exact⟨⟨_,rfl,World.ownsRow_nil _ _ _ _⟩,qqb⟩
 | some a=>
  have heq:=fun W=>Tj.out W;simp only [Option.isNone_some]at heq;have Dc:=qqh (bH w 95 2 w.heap.size w.heap.size rfl qql);have hba:=(Below.refl w.heap.size w).alloc qql (.cells #[] 95);have vI:=qqh hba;have gX:=qqh ((Rd.below hl hba).more hba.size);clear hba hl;go_enter Tryz.func72,Tryz.ntmps72;go_wp2_with (at_builtin;refine aj _ rfl (.tmp 5) (.tmp 6) 26 rfl w.heap.size 95 i0 _ 2 8 Tryz.underlying26 hi z0 z1 z2 rfl (by decide) _ _ _ rfl Dc.out _ (some a) n c (au l) rfl gX.out (mc _) (by simp only [maxLen];omega) (by omega) (by simp) ?_);intro v1 w3 af;have bN:=qqh (vI.out.trans (af.below (by simp) Dc.out));have qG:=qqh af.own;clear af heq;go_wp2_with fail;go_ret;exact⟨⟨_,rfl,by simpa using qG.out⟩,bN.out⟩
theorem Ga (n:Nat) (w:World) (hn:n≤100000) :
    Calls Tryz.prog 140 #[.slice none 0 0,.int .i64 n] w fun e w'=>(∃ v,e=.returned v∧w'.ownsRow w.heap.size 95 2 v 0 [])∧Below w.heap.size w w':=by
 obtain⟨i0,hi,z0,z1,z2⟩:=info_parts jY;by_cases h0:n=0
 ·subst h0;go_enter Tryz.func140,Tryz.ntmps140;go_wp2_with fail;go_ret;exact⟨⟨_,rfl,World.ownsRow_nil _ _ _ _⟩,qqb⟩
 have hrun:=Lib.run_append_nil_zeros (P:=Tryz.prog) w 26 3 26 95 i0 (.agg #[.int .i32 0,.int .i32 0]) .i64 .i64 Tryz.underlying26 Tryz.underlying3 hi z0 n (by omega) (by omega) (by omega) (by rw [z2];omega);generalize hcap:grownCap w n 0 95 = cap at hrun;have afB:n≤cap:=(by rw [← hcap];exact grownCap_ge w _ 0 95);have abn:cap≤maxLen:=(by rw [← hcap];exact grownCap_le_maxLen w _ 0 95 (by simp only [maxLen];omega));generalize hZ:(Builtin.zeroCells (Value.agg #[.int .i32 0,.int .i32 0]).cells n++Builtin.zeroCells (Value.agg #[.int .i32 0,.int .i32 0]).cells (cap - n))=Z at hrun;have hZs:Z.size=cap*2:=(by rw [← hZ];simp [size_zeroCells,Value.cells];omega);have HR:=qqh hrun
 have HO:=qqh (show(w.drew.alloc (.cells Z 95)).ownsRow w.heap.size 95 2 (.slice (some ⟨w.heap.size,0,none⟩) 0 cap) 0 [] from
   ⟨rfl,.inr ⟨w.heap.size,cap,Z,rfl,qql,heap_alloc_new w.drew _,Nat.zero_le _,abn,by omega,by simp⟩⟩)
 have HB:=qqh (show Below w.heap.size w (w.drew.alloc (.cells Z 95)) from((Below.refl w.heap.size w).drew).alloc qql _);clear hcap hZ hZs hrun;go_enter Tryz.func140,Tryz.ntmps140;go_wp2_with (at_builtin;refine Lib.wpList_append_run _ rfl (.tmp 20) (.tmp 21) _ _ rfl (.slice none 0 0) (.int .i64 n) rfl rfl _ _ HR.out ?_);go_wp2_with fail;go_ret;exact⟨⟨_,rfl,HO.out⟩,HB.out⟩
theorem qV {outs:List ag} {k:Nat} {x:ag} (h:outs[k]? = some x):(outs.take (k+1)).flatten=(outs.take k).flatten++x:=by
 rw [List.take_add_one,h];simp
theorem sE (outs:List ag) (k:Nat):(outs.take k).flatten.length≤outs.flatten.length:=by
 have h:=congrArg (fun z:List ag=>z.flatten.length) (List.take_append_drop k outs);simp only [List.flatten_append,List.length_append]at h;omega
def We (w:World) (outs:List ag) (m:Nat) (s3 i:Value) (wr:World):Prop :=
  ∃ k:Nat,k≤m∧i=.int .i64 k∧s3=.int .i64 (outs.take k).flatten.length∧w=wr
def Tv (w:World) (outs:List ag) (m:Nat) (s6 i:Value) (wr:World):Prop :=
  ∃ (k N:Nat),k≤m∧i=.int .i64 k∧(outs.take k).flatten.length=N∧wr.ownsRow w.heap.size 95 2 s6 N (au (outs.take k).flatten)∧Below w.heap.size w wr
theorem Bq (outs:List ag) (us:List Value) (A:Option Addr) (m c:Nat) (w:World) (hlen:outs.length=m) (hrd:Rd w w.heap.size 1 A m us) (hpc:OP w outs us) (hsum:outs.flatten.length≤100000) (hm:m≤100000) :
    Calls Tryz.prog 117 #[.slice A m c] w fun e w'=>(∃ v,e=.returned v∧w'.ownsRow w.heap.size 95 2 v outs.flatten.length (au outs.flatten))∧Below w.heap.size w w':=by
 obtain⟨i0,hi,z0,z1,z2⟩:=info_parts jY;have aM:=qqh hlen;have nP:=qqh hrd;have Ic:=qqh hpc;have HUL:=qqh (show us.length=m by have:=hrd.1;omega);have OH:=qqh hsum;clear hlen hrd hpc hsum;go_enter Tryz.func117,Tryz.ntmps117;go_wp2_with fail;go_loopw [3,11] (We w outs m) (fun _ i _=>m - (intOf i).toNat);(case atStart=>exact⟨0,Nat.zero_le _,rfl,rfl,rfl⟩);obtain⟨k,hk,rfl,rfl,rfl⟩:=hrel;obtain⟨S,hS⟩:∃ S,(outs.take k).flatten.length=S:=⟨_,rfl⟩;have hS1:S≤100000:=(by have:=sE outs k;have:=OH.out;omega);by_cases hlt:k<m
 ·obtain⟨x,hx⟩:∃ x,outs[k]? = some x:=⟨_,List.getElem?_eq_getElem (by rw [aM.out];exact hlt)⟩;obtain⟨u,hu⟩:∃ u,us[k]? = some u:=⟨_,List.getElem?_eq_getElem (by rw [HUL.out];exact hlt)⟩;obtain⟨P,n1,c1,rfl,hr⟩:=Ic.out k x u hx hu;obtain⟨b,o,rfl,_,hc⟩:=nP.out.2 (by omega);have u0:=hc _ _ hu;have iJ:=hr.1;rw [bP]at iJ;have Yr:=qqh (show(outs.take (k+1)).flatten.length=S+n1 by rw [qV hx,List.length_append,hS];omega);have TU:S+n1≤100000:=(by have:=Yr.out;have:=sE outs (k+1);have:=OH.out;omega);have hk0:(0:Int)≤(k:Int):=(by omega);have R5:decide ((S:Int)+(n1:Int)<0)=false:=decide_eq_false (by omega);rw [hS];clear hx hu hr hc iJ hS;go_wp2_with fail;exact⟨⟨k+1,by omega,by go_num,by rw [Yr.out];go_num,rfl⟩,by simp [intOf];omega⟩
 obtain rfl:k=m:=(by omega);rw [List.take_of_length_le (by rw [aM.out];exact qql)]at hS ⊢;have HS:=qqh hS;rw [hS];clear hS;go_wp2_with fail;refine(Ga S _ hS1).mono ?_;rintro e w1 ⟨⟨v,rfl,ho⟩,aP⟩;have HO:=qqh ho;have HB:=qqh aP;obtain⟨A1,c1,rfl,_⟩:=av ho;clear ho aP;go_wp2_with fail;go_loopw [6,27] (Tv w outs k) (fun _ i _=>k - (intOf i).toNat);(case atStart=>exact⟨0,0,Nat.zero_le _,rfl,rfl,HO.out,HB.out⟩);obtain⟨j,N,hj,rfl,hN,ho,hb⟩:=hrel;have HO:=qqh ho;have HB:=qqh hb;have HN:=qqh hN;have hz:=hb.size;have Uc:N≤100000:=(by have:=sE outs j;have:=OH.out;omega);obtain⟨A2,c2,rfl,_⟩:=av ho;clear ho hN;by_cases hlt:j<k
 ·obtain⟨x,hx⟩:∃ x,outs[j]? = some x:=⟨_,List.getElem?_eq_getElem (by rw [aM.out];exact hlt)⟩;obtain⟨u,hu⟩:∃ u,us[j]? = some u:=⟨_,List.getElem?_eq_getElem (by rw [HUL.out];exact hlt)⟩;obtain⟨P,n1,YO,rfl,hr⟩:=(Ic.out.below hb) j x u hx hu;obtain⟨b,o,rfl,cK,hc⟩:=(Rd.below nP.out hb).2 (by omega);have u0:=hc _ _ hu;have iJ:=hr.1;rw [bP]at iJ;have Yr:=qqh (qV hx);have mj:=qqh (show(outs.take (j+1)).flatten.length=N+n1 by rw [qV hx,List.length_append,HN.out];omega);have TU:N+n1≤100000:=(by have:=mj.out;have:=sE outs (j+1);have:=OH.out;omega);have HR:=qqh hr;clear hx hu hr hc iJ hb;go_wp2_with (at_builtin;refine aj _ rfl (.tmp 31) (.tmp 32) 26 rfl w.heap.size 95 i0 _ 2 8 Tryz.underlying26 hi z0 z1 z2 rfl (by decide) _ N _ rfl HO.out _ P n1 YO (au x) rfl HR.out (mc _) (by simp only [maxLen];omega) (by omega) hz ?_);intro v' w9 af;have cB:=qqh (HB.out.trans (af.below hz HO.out));have fH:=qqh (show w9.ownsRow w.heap.size 95 2 v' (N+n1) (au (outs.take (j+1)).flatten) by rw [Yr.out,xK];exact af.own);clear af;go_wp2_with fail;exact⟨⟨j+1,N+n1,by omega,by go_num,mj.out,fH.out,cB.out⟩,by simp [intOf];omega⟩
 obtain rfl:j=k:=(by omega);have HF:=qqh (show wr.ownsRow w.heap.size 95 2 (.slice A2 N c2) outs.flatten.length (au outs.flatten) by
  have h1:=HO.out;have h2:=HN.out;rw [List.take_of_length_le (by rw [aM.out];exact qql)]at h1 h2;rw [h2];exact h1)
 clear hb;go_wp2_with fail;go_ret;exact⟨⟨_,rfl,HF.out⟩,HB.out⟩
end Go.Proofs.YtamkjeipdjbemaaGreatDoor
