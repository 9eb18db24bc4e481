/- StabP -/
import Derived.RowKit
import Derived.Sort.AssemblyPlain
namespace Go.Proofs.YtblinekbpcdbfaaGreatDoor
open Go.RowKit Go.Sort
def fU (p:Nat→Bool) (i j:Nat):Nat:=if i<j then (if p ((i+j) / 2)then fU p ((i+j) / 2+1) j else fU p i ((i+j) / 2))else i
termination_by j - i
theorem xp {p:Nat→Bool} {i j:Nat} (h:¬ i<j):fU p i j=i:=by rw [fU,if_neg h]
theorem sO {p:Nat→Bool} {i j:Nat} (h:i<j) (hp:p ((i+j) / 2)=true):fU p i j=fU p ((i+j) / 2+1) j:=by rw [fU,if_pos h,if_pos hp]
theorem si {p:Nat→Bool} {i j:Nat} (h:i<j) (hp:p ((i+j) / 2)=false):fU p i j=fU p i ((i+j) / 2):=by rw [fU,if_pos h,hp];rfl
def KU:Nat→Nat→Array Int→Array Int
  | 0,_,d=>d
  | n+1,k,d=>KU n (k+1) (swp d k (k+1))
def nB:Nat→Nat→Array Int→Array Int
  | 0,_,d=>d
  | n+1,k,d=>nB n (k - 1) (swp d k (k - 1))
def iY (a b:Nat):Nat→Nat→Array Int→Array Int
  | 0,_,d=>d
  | n+1,i,d=>iY a b n (i+1) (swp d (a+i) (b+i))
def mO (m:Nat):Nat→Nat→Nat→Array Int→Array Int
  | 0,_,_,d=>d
  | f+1,i,j,d=>if i=j then iY (m - i) m i 0 d else if j<i then mO m f (i - j) j (iY (m - i) m j 0 d)else mO m f i (j - i) (iY (m - i) (m+j - i) i 0 d)
section
variable (lt : Int → Int → Bool)
def Mg (a m b:Nat) (d:Array Int):Nat:=fU (fun c=>!lt d[(a+b) / 2+m - 1 - c]! d[c]!) (if (a+b) / 2<m then (a+b) / 2+m - b else a) (if (a+b) / 2<m then (a+b) / 2 else m)
def jh:Nat→Nat→Nat→Nat→Array Int→Array Int
  | 0,_,_,_,d=>d
  | f+1,a,m,b,d=>
    if m - a=1 then KU (fU (fun h=>lt d[h]! d[a]!) m b - 1 - a) a d
    else if b - m=1 then nB (m - fU (fun h=>!lt d[m]! d[h]!) a m) m d
    else (fun(s e:Nat)=>(fun d1=>(fun d2=>if (a+b) / 2<e∧e<b then jh f ((a+b) / 2) e b d2 else d2) (if a<s∧s<(a+b) / 2 then jh f a s ((a+b) / 2) d1 else d1)) (if s<m∧m<e then mO m (e - s) (m - s) (e - m) d else d))
      (Mg lt a m b d) ((a+b) / 2+m - Mg lt a m b d)
def rL (n:Nat):Nat→Nat→Nat→Array Int→Array Int
  | 0,_,_,d=>d
  | f+1,a,b,d=>if b≤n then rL n f b (b+20) (insertionSort lt d a b)else insertionSort lt d a n
def iu (n z:Nat):Nat→Nat→Nat→Array Int→Array Int
  | 0,_,_,d=>d
  | f+1,a,b,d=>if b≤n then iu n z f b (b+2*z) (jh lt n a (a+z) b d)else if a+z<n then jh lt n a (a+z) n d else d
def Bk (n:Nat):Nat→Nat→Array Int→Array Int
  | 0,_,d=>d
  | f+1,z,d=>if z<n then Bk n f (2*z) (iu lt n z (n+1) 0 (2*z) d)else d
def iF (d:Array Int):Array Int:=Bk lt d.size (d.size+1) 20 (rL lt d.size (d.size+1) 0 20 d)
end
theorem LD:∀ (n k:Nat) (d:Array Int),(KU n k d).size=d.size:=by
 intro n;induction n with
 | zero=>intro k d;rfl
 | succ n ih=>intro k d;rw [KU,ih,swp_size]
theorem FV:∀ (n k:Nat) (d:Array Int),(nB n k d).size=d.size:=by
 intro n;induction n with
 | zero=>intro k d;rfl
 | succ n ih=>intro k d;rw [nB,ih,swp_size]
theorem kQ (a b:Nat):∀ (n i:Nat) (d:Array Int),(iY a b n i d).size=d.size:=by
 intro n;induction n with
 | zero=>intro i d;rfl
 | succ n ih=>intro i d;rw [iY,ih,swp_size]
theorem rX (m:Nat):∀ (f i j:Nat) (d:Array Int),(mO m f i j d).size=d.size:=by
 intro f;induction f with
 | zero=>intro i j d;rfl
 | succ f ih=>
  intro i j d;rw [mO];split;exact kQ ..;split <;> rw [ih,kQ]
section
variable {lt : Int → Int → Bool}
theorem ki:∀ (f a m b:Nat) (d:Array Int),(jh lt f a m b d).size=d.size:=by
 intro f;induction f with
 | zero=>intro a m b d;rfl
 | succ f ih=>
  intro a m b d;rw [jh];split;exact LD ..;split;exact FV ..;dsimp only;split <;> split <;> split <;> simp only [ih,rX]
theorem yU (a:Nat):∀ (j:Nat) (d:Array Int),(insInner lt a j d).size=d.size:=by
 intro j;induction j with
 | zero=>intro d;rfl
 | succ j ih=>
  intro d;rw [insInner];split
  ·rw [ih,swp_size]
  rfl
theorem yG (a b:Nat):∀ (n i:Nat) (d:Array Int),b - i≤n→(insOuter lt a b i d).size=d.size:=by
 intro n;induction n with
 | zero=>intro i d h;rw [insOuter,if_neg (by omega)]
 | succ n ih=>
  intro i d h;rw [insOuter];split
  ·rw [ih _ _ (by omega),yU]
  rfl
theorem gl (d:Array Int) (a b:Nat):(insertionSort lt d a b).size=d.size:=yG a b _ _ d (Nat.le_refl _)
theorem Io (n:Nat):∀ (f a b:Nat) (d:Array Int),(rL lt n f a b d).size=d.size:=by
 intro f;induction f with
 | zero=>intro a b d;rfl
 | succ f ih=>
  intro a b d;rw [rL];split
  ·rw [ih,gl]
  exact gl ..
theorem sX (n z:Nat):∀ (f a b:Nat) (d:Array Int),(iu lt n z f a b d).size=d.size:=by
 intro f;induction f with
 | zero=>intro a b d;rfl
 | succ f ih=>
  intro a b d;rw [iu];split
  ·rw [ih,ki]
  split;exact ki ..;rfl
theorem IP (n:Nat):∀ (f z:Nat) (d:Array Int),(Bk lt n f z d).size=d.size:=by
 intro f;induction f with
 | zero=>intro z d;rfl
 | succ f ih=>
  intro z d;rw [Bk];split
  ·rw [ih,sX]
  rfl
theorem Dv (d:Array Int):(iF lt d).size=d.size:=by rw [iF,IP,Io]
end
end Go.Proofs.YtblinekbpcdbfaaGreatDoor
