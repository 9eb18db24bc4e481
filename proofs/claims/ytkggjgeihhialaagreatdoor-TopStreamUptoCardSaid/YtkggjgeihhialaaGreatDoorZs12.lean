/- RuleFoot + SetNot + ConcatS + FileP + ItemOk + BareD + PartX + ResolveP + SameI + ShFree + StFree -/
import Derived.Test.YtkggjgeihhialaaGreatDoorZs4
import Derived.Test.YtkggjgeihhialaaGreatDoorZs9
import Derived.Test.YtkggjgeihhialaaGreatDoorZs6
import Derived.Test.YtkggjgeihhialaaGreatDoorZs3
import Derived.Deep.Strs
import Derived.Test.YtkggjgeihhialaaGreatDoorZs10
import Derived.BigRegion
import Derived.Lib.AppendZeros
import Derived.Lib.SliceRun
import Derived.Test.YtkggjgeihhialaaGreatDoorZs11
import Derived.Lib.Strings
import Derived.Deep.QuietTactic
import Derived.BigQuiet
set_option maxHeartbeats 1600000
set_option maxRecDepth 100000
namespace Go.Proofs.YtkggjgeihhialaaGreatDoor
open Go.RowKit
def cy (w:World) (X:Nat→Prop) (sz:Nat) (A:Option Addr) (n:Nat) (xs:List Value):Prop :=
  xs.length=n*sz∧(0<n→∃ b off,A=some ⟨b,off,none⟩∧X b∧b<w.heap.size∧∀ j u,xs[j]? = some u→w.cell? ⟨b,off+j,none⟩=some u)
def aa (w:World) (X:Nat→Prop) (w':World) (X':Nat→Prop):Prop:=∀ b,X b→b<w.heap.size→w'.heap[b]? = w.heap[b]?∧X' b∧b<w'.heap.size
section
variable {w w' w2 : World} {X X' X2 : Nat → Prop} {sz n : Nat} {A : Option Addr} {xs : List Value}
theorem aa.refl (h:∀ b,X b→X' b):aa w X w X':=fun b hb hl=>⟨rfl,h b hb,hl⟩
theorem aa.trans (h:aa w X w' X') (h2:aa w' X' w2 X2):aa w X w2 X2:=fun b hb hl=>
  let ⟨e,hx,hl'⟩:=h b hb hl
  let ⟨e2,hx2,jd⟩:=h2 b hx hl'
  ⟨e2.trans e,hx2,jd⟩
theorem aa.below (hb:Below w.heap.size w w') (h:∀ b,X b→b<w.heap.size→X' b):aa w X w' X':=fun b hx hl=>⟨hb.block b hl,h b hx hl,Nat.lt_of_lt_of_le hl hb.size⟩
theorem aa.alloc (o:Obj) (h:∀ b,X b→b<w.heap.size→X' b):aa w X (w.alloc o) X':=fun b hx hl=>⟨heap_alloc_old w o hl,h b hx hl,by simp;omega⟩
theorem aa.app {base n:Nat} {e:TypeId} {v v':Value} (ha:aV base e sz v w n xs v' w') (hX:∀ b,X b→v.ownBlock≠some b) (h:∀ b,X b→b<w.heap.size→X' b):aa w X w' X' :=
  fun b hx hl=>⟨ha.2.1.block b hl (fun e=>hX b hx e.symm),h b hx hl,Nat.lt_of_lt_of_le hl ha.2.1.size⟩
theorem aa.setCell {p:Addr} (u:Value) (hX:∀ b,X b→b≠p.block) (h:∀ b,X b→b<w.heap.size→X' b):aa w X (w.setCell p u) X' :=
  fun b hx hl=>⟨Below.heap_setCell _ _ _ _ (hX b hx),h b hx hl,by simpa using hl⟩
theorem cy.keep (hk:aa w X w' X') (h:cy w X sz A n xs):cy w' X' sz A n xs:=by
 refine⟨h.1,fun hn=>?_⟩;obtain⟨b,off,e,hx,hl,hc⟩:=h.2 hn;obtain⟨he,hx',hl'⟩:=hk b hx hl;exact⟨b,off,e,hx',hl',fun j u hu=>(World.cell?_of_block (w:=w) he).trans (hc j u hu)⟩
theorem cy.rd {B:Nat} (h:cy w X sz A n xs) (hB:∀ b,X b→b<w.heap.size→b<B):Rd w B sz A n xs :=
  ⟨h.1,fun hn=>let ⟨b,off,e,hx,hl,hc⟩:=h.2 hn;⟨b,off,e,hB b hx hl,hc⟩⟩
theorem cy.FF {B:Nat} (h:Rd w B sz A n xs) (hB:B≤w.heap.size) (hX:∀ b,b<B→X b):cy w X sz A n xs :=
  ⟨h.1,fun hn=>let ⟨b,off,e,hb,hc⟩:=h.2 hn;⟨b,off,e,hX b hb,Nat.lt_of_lt_of_le hb hB,hc⟩⟩
theorem cy.cj {base c:Nat} {e:TypeId} (h:w.ownsRow base e sz (.slice A n c) n xs) (hX:∀ b,(Value.slice A n c).ownBlock=some b→X b):cy w X sz A n xs:=by
 refine⟨h.1,fun hn=>?_⟩;rcases h.2 with ⟨hv,h0⟩ | ⟨g,cap,cur,hv,hg,hh,hr⟩;omega;injection hv with hA;subst hA;refine⟨g,0,rfl,hX g rfl,(Array.getElem?_eq_some_iff.1 hh).1,fun j u hu=>?_⟩;have:=World.ownsRow.cells h (g:=g) rfl j u hu;rwa [gX]at this
theorem cy.new (t:TypeId) (cs:List Value) (hl:cs.length=n*sz) (hX:X w.heap.size):cy (w.alloc (.cells cs.toArray t)) X sz (some ⟨w.heap.size,0,none⟩) n cs:=by
 refine⟨hl,fun _=>⟨_,_,rfl,hX,by simp,fun j u hu=>?_⟩⟩;rw [(aj.new w t cs.toArray).cell,Nat.zero_add];simpa using hu
end
def bh {α:Type} (R:α→List Value→Prop) (w:World) (X:Nat→Prop) (sz:Nat) (A:Option Addr) (n:Nat) (l:List α):Prop :=
  ∃ css:List (List Value),l.length=n∧css.length=n∧(∀ (i:Nat) (a:α) (cs:List Value),l[i]? = some a→css[i]? = some cs→R a cs)∧(∀ cs∈css,cs.length=sz)∧cy w X sz A n css.flatten
theorem bh.len {α:Type} {R:α→List Value→Prop} {w:World} {X:Nat→Prop} {sz n:Nat} {A:Option Addr} {l:List α} (h:bh R w X sz A n l):l.length=n:=by
 obtain⟨_,h1,_⟩:=h;exact h1
theorem bh.keep {α:Type} {R R':α→List Value→Prop} {w w':World} {X X':Nat→Prop} {sz n:Nat} {A:Option Addr} {l:List α} (hk:aa w X w' X') (hR:∀ a cs,R a cs→R' a cs) (h:bh R w X sz A n l):bh R' w' X' sz A n l:=by
 obtain⟨css,h1,h2,h3,h4,h5⟩:=h;exact⟨css,h1,h2,fun i a cs ha hc=>hR a cs (h3 i a cs ha hc),h4,h5.keep hk⟩
theorem bh.at {α:Type} {R:α→List Value→Prop} {w:World} {X:Nat→Prop} {sz n:Nat} {A:Option Addr} {l:List α} (h:bh R w X sz A n l) {k:Nat} {a:α} (hk:l[k]? = some a) :
    ∃ (b off:Nat) (cs:List Value),A=some ⟨b,off,none⟩∧X b∧b<w.heap.size∧R a cs∧cs.length=sz∧∀ j u,cs[j]? = some u→w.cell? ⟨b,off+k*sz+j,none⟩=some u:=by
 obtain⟨css,h1,h2,h3,h4,h5,h6⟩:=h;have hlt:k<l.length:=(List.getElem?_eq_some_iff.1 hk).1;obtain⟨b,off,e,hx,hb,hc⟩:=h6 (by omega);obtain⟨cs,hcs⟩:∃ cs,css[k]? = some cs:=⟨_,List.getElem?_eq_getElem (by omega)⟩;refine⟨b,off,cs,e,hx,hb,h3 k a cs hk hcs,h4 cs (List.mem_of_getElem? hcs),fun j u hu=>?_⟩;rw [Nat.add_assoc];exact hc _ _ (dF h4 k cs hcs j u hu)
def bX {α:Type} (R:α→List Value→Prop) (T:TypeId) (sz:Nat) (w:World) (base:Nat) (v:Value) (l:List α):Prop :=
  ∃ css:List (List Value),css.length=l.length∧(∀ (i:Nat) (a:α) (cs:List Value),l[i]? = some a→css[i]? = some cs→R a cs)∧(∀ cs∈css,cs.length=sz)∧w.ownsRow base T sz v l.length css.flatten
section
variable {α : Type} {R R' : α → List Value → Prop} {T : TypeId} {sz base : Nat} {w w' : World} {v v' : Value} {l : List α}
theorem bX.nil (w:World) (base:Nat):bX R T sz w base (.slice none 0 0) []:=⟨[],rfl,by simp,by simp,World.ownsRow_nil _ _ _ _⟩
theorem bX.form (h:bX R T sz w base v l):∃ A c,v=.slice A l.length c∧l.length≤c:=by
 obtain⟨_,_,_,_,h4⟩:=h;exact aJ h4
theorem bX.weak (hR:∀ a cs,R a cs→R' a cs) (h:bX R T sz w base v l):bX R' T sz w base v l:=by
 obtain⟨css,h1,h2,h3,h4⟩:=h;exact⟨css,h1,fun i a cs ha hc=>hR a cs (h2 i a cs ha hc),h3,h4⟩
theorem bX.kept (hw:∀ n xs,w.ownsRow base T sz v n xs→w'.ownsRow base T sz v n xs) (hR:∀ a cs,R a cs→R' a cs) (h:bX R T sz w base v l):bX R' T sz w' base v l:=by
 obtain⟨css,h1,h2,h3,h4⟩:=h;exact⟨css,h1,fun i a cs ha hc=>hR a cs (h2 i a cs ha hc),h3,hw _ _ h4⟩
theorem bX.done {A:Option Addr} {c:Nat} {X:Nat→Prop} (h:bX R T sz w base (.slice A l.length c) l) (hR:∀ a cs,R a cs→R' a cs) (hX:∀ b,(Value.slice A l.length c).ownBlock=some b→X b):bh R' w X sz A l.length l:=by
 obtain⟨css,h1,h2,h3,h4⟩:=h;exact⟨css,rfl,h1,fun i a cs ha hc=>hR a cs (h2 i a cs ha hc),h3,cy.cj h4 hX⟩
end
theorem bX.push {α:Type} {R R':α→List Value→Prop} {T:TypeId} {sz base:Nat} {w w':World} {v v':Value} {l:List α} {css:List (List Value)} {a:α} {cs:List Value}
    (h1:css.length=l.length) (h2:∀ (i:Nat) (a:α) (cs:List Value),l[i]? = some a→css[i]? = some cs→R a cs) (h3:∀ cs∈css,cs.length=sz)
    (hR:∀ a cs,R a cs→R' a cs) (ha:R' a cs) (hcs:cs.length=sz) (an:aV base T sz v w (l.length+1) (css.flatten++cs) v' w'):bX R' T sz w' base v' (l++[a]):=by
 refine⟨css++[cs],by simp [h1],?_,?_,?_⟩
 ·intro i x ds hx hd;rcases Nat.lt_or_ge i l.length with hi | hi
  ·rw [List.getElem?_append_left hi]at hx;rw [List.getElem?_append_left (by omega)]at hd;exact hR x ds (h2 i x ds hx hd)
  rw [List.getElem?_append_right hi]at hx;rw [List.getElem?_append_right (by omega),h1]at hd;have hi0:i - l.length=0:=by
   have:=(List.getElem?_eq_some_iff.1 hx).1;simp at this;omega
  rw [hi0]at hx hd;simp at hx hd;subst hx hd;exact ha
 ·intro ds hd;rcases List.mem_append.1 hd with hd | hd;exact h3 ds hd;simp at hd;subst hd;exact hcs
 have e:(css++[cs]).flatten=css.flatten++cs:=(by simp);have e2:(l++[a]).length=l.length+1:=(by simp);rw [e,e2];exact an.own
structure ax where
  start:Bool
  fin:Bool
  before:List ag
  source:List ag
  after:List ag
  target:List Int
  af:Int
structure bZ where
  name:ByteArray
  rules:List ax
structure bC where
  only? : Bool
  only:ag
  passes:List bZ
def iD (w:World) (X:Nat→Prop) (s:ag) (u:Value):Prop:=∃ A n c,u=.slice A n c∧cy w X 2 A n (ak s)∧n≤maxLen
def mc (w:World) (X:Nat→Prop) (s:ag) (cs:List Value):Prop:=∃ u,cs = [u]∧iD w X s u
def Qg (w:World) (X:Nat→Prop) (b:Nat):Prop:=X b∧∃ cs,aj w b 24 cs
theorem Qg.keeps {w w':World} {X X':Nat→Prop} (hk:aa w X w' X'):aa w (Qg w X) w' (Qg w' X'):=fun b hb hl=>by
 obtain⟨h1,h2,h3⟩:=hk b hb.1 hl;obtain⟨cs,hc⟩:=hb.2;exact⟨h1,⟨h2,cs,h1.trans hc⟩,h3⟩
def eU (w:World) (X:Nat→Prop) (l:List ag) (u:Value):Prop:=∃ A n c,u=.slice A n c∧bh (mc w X) w (Qg w X) 1 A n l∧n≤maxLen
theorem wg {w:World} {X:Nat→Prop} {A:Option Addr} {n:Nat} {l:List ag} (h:bh (mc w X) w (Qg w X) 1 A n l):bh (mc w X) w X 1 A n l:=h.keep (aa.refl (fun _ h=>h.1)) (fun _ _ h=>h)
theorem Gf {w:World} {base sz n:Nat} {e:TypeId} {v:Value} {xs:List Value} (h:w.ownsRow base e sz v n xs) {b:Nat} (hb:v.ownBlock=some b):∃ cs,aj w b e cs:=by
 rcases h.2 with ⟨rfl,_⟩ | ⟨g,cap,cur,rfl,_,hg,_⟩
 ·simp [Value.ownBlock]at hb
 simp only [Value.ownBlock,Option.some.injEq]at hb;subst hb;exact⟨cur,hg⟩
def aO (w:World) (X:Nat→Prop) (r:ax) (cs:List Value):Prop :=
  ∃ u1 u2 u3 A n c,cs = [.bool r.start,.bool r.fin,u1,u2,u3,.slice A n c,.int .i64 r.af]∧eU w X r.before u1∧eU w X r.source u2∧eU w X r.after u3∧cy w X 1 A n (runeCells r.target)∧n≤maxLen
def zG (w:World) (X:Nat→Prop) (l:List ax) (u:Value):Prop:=∃ A n c,u=.slice A n c∧bh (aO w X) w X 7 A n l∧n≤maxLen
def cR (w:World) (X:Nat→Prop) (p:bZ) (cs:List Value):Prop:=∃ u,cs = [.string p.name,u]∧zG w X p.rules u
def kF (w:World) (X:Nat→Prop) (l:List bZ) (u:Value):Prop:=∃ A n c,u=.slice A n c∧bh (cR w X) w X 2 A n l∧n≤maxLen
def ek (w:World) (X:Nat→Prop) (s:bC) (cs:List Value):Prop:=∃ u v,cs = [.bool s.only?,u,v]∧iD w X s.only u∧kF w X s.passes v
section
variable {w w' : World} {X X' : Nat → Prop} (hk : aa w X w' X')
include hk
theorem iD.keep {s:ag} {u:Value} (h:iD w X s u):iD w' X' s u:=by
 obtain⟨A,n,c,e,h1,h2⟩:=h;exact⟨A,n,c,e,h1.keep hk,h2⟩
theorem mc.keep {s:ag} {cs:List Value} (h:mc w X s cs):mc w' X' s cs:=by
 obtain⟨u,e,h⟩:=h;exact⟨u,e,h.keep hk⟩
theorem eU.keep {l:List ag} {u:Value} (h:eU w X l u):eU w' X' l u:=by
 obtain⟨A,n,c,e,h1,h2⟩:=h;exact⟨A,n,c,e,h1.keep (Qg.keeps hk) (fun _ _=>mc.keep hk),h2⟩
theorem aO.keep {r:ax} {cs:List Value} (h:aO w X r cs):aO w' X' r cs:=by
 obtain⟨u1,u2,u3,A,n,c,e,h1,h2,h3,h4,h5⟩:=h;exact⟨u1,u2,u3,A,n,c,e,h1.keep hk,h2.keep hk,h3.keep hk,h4.keep hk,h5⟩
theorem zG.keep {l:List ax} {u:Value} (h:zG w X l u):zG w' X' l u:=by
 obtain⟨A,n,c,e,h1,h2⟩:=h;exact⟨A,n,c,e,h1.keep hk (fun _ _=>aO.keep hk),h2⟩
theorem cR.keep {p:bZ} {cs:List Value} (h:cR w X p cs):cR w' X' p cs:=by
 obtain⟨u,e,h⟩:=h;exact⟨u,e,h.keep hk⟩
theorem kF.keep {l:List bZ} {u:Value} (h:kF w X l u):kF w' X' l u:=by
 obtain⟨A,n,c,e,h1,h2⟩:=h;exact⟨A,n,c,e,h1.keep hk (fun _ _=>cR.keep hk),h2⟩
theorem ek.keep {s:bC} {cs:List Value} (h:ek w X s cs):ek w' X' s cs:=by
 obtain⟨u,v,e,h1,h2⟩:=h;exact⟨u,v,e,h1.keep hk,h2.keep hk⟩
end
theorem aU {wx:World} {v:Value} {base sz n:Nat} {e:TypeId} {xs:List Value} (h:wx.ownsRow base e sz v n xs) {b:Nat} (hb:v.ownBlock=some b):base≤b∧b<wx.heap.size:=World.ownsRow.lt h b hb
theorem kN {w:World} {g base sz n:Nat} {t e:TypeId} {cs:Array Value} {fz:Nat × Nat} {v:Value} {xs:List Value} (ho:w.ownsRow base e sz v n xs) (h:w.heap[g]? = some (.cells cs t fz)) (hne:t≠e):v.ownBlock≠some g:=by
 rcases ho.2 with ⟨rfl,_⟩ | ⟨g2,cap,cur,rfl,_,hg,_⟩
 ·simp [Value.ownBlock]
 simp only [Value.ownBlock,ne_eq,Option.some.injEq];rintro rfl;rw [h]at hg;injection hg with hg;injection hg with _ ht;exact hne ht
section
variable {lo : Nat} {w2 : World}
theorem qw {e e2:TypeId} {sz ZD n m:Nat} {v u u':Value} {xs ys:List Value} {w0:World} (h:w0.ownsRow lo e sz v n xs) (ha:aV lo e2 ZD u w0 m ys u' w2) (hne:v.ownBlock≠u.ownBlock∨v.ownBlock=none):w2.ownsRow lo e sz v n xs:=by
 refine World.ownsRow.kept h ha.2.1 ?_;rcases hne with h | h;exact .inr h;exact .inl h
theorem rR {e e2:TypeId} {sz ZD n m:Nat} {v u:Value} {xs ys:List Value} {w0:World} (h:w0.ownsRow lo e sz v n xs) (h2:w0.ownsRow lo e2 ZD u m ys) (hne:e≠e2):v.ownBlock≠u.ownBlock∨v.ownBlock=none:=by
 rcases h.2 with ⟨hv,_⟩ | ⟨g,cap,cur,hv,_,hg,_⟩
 ·right;rw [hv];rfl
 left;rw [hv];intro e;exact kN h2 hg hne e.symm
theorem sy {u v:Value} (h:∀ b,u.ownBlock=some b→v.ownBlock≠some b):v.ownBlock≠u.ownBlock∨v.ownBlock=none:=by
 cases hv:v.ownBlock with
 | none=>exact .inr rfl
 | some b=>
  left;intro e;exact h b e.symm hv
end
theorem fY {w:World} {base sz n g i:Nat} {e t:TypeId} {v u:Value} {xs:List Value} {cs:Array Value} (h:w.ownsRow base e sz v n xs) (hb:aj w g t cs) (hne:t≠e):(w.setCell ⟨g,i,none⟩ u).ownsRow base e sz v n xs:=by
 rcases h.2 with ⟨hv,h0⟩ | ⟨k,cap,cur,hv,h1,h2,h3⟩;exact⟨h.1,.inl ⟨hv,h0⟩⟩;refine⟨h.1,.inr ⟨k,cap,cur,hv,h1,?_,h3⟩⟩;rw [Below.heap_setCell _ _ _ _ ?_];exact h2;intro e;simp only at e;subst e;unfold aj at hb;rw [hb]at h2;injection h2 with h2;injection h2 with _ ht;exact hne ht
theorem bV {w w':World} {g base sz n m:Nat} {t e:TypeId} {cs:Array Value} {v v':Value} {xs ys:List Value} (h:aj w g t cs) (ho:w.ownsRow base e sz v n xs) (hne:t≠e) (ha:aV base e sz v w m ys v' w'):aj w' g t cs:=by
 have hlt:=h.lt;unfold aj at h ⊢;rw [ha.2.1.block g hlt ?_];exact h;intro he;rcases ho.2 with ⟨rfl,_⟩ | ⟨g2,cap,cur,rfl,_,hg,_⟩
 ·simp [Value.ownBlock]at he
 simp only [Value.ownBlock,Option.some.injEq]at he;subst he;rw [h]at hg;injection hg with hg;injection hg with _ ht;exact hne ht
theorem oL {w:World} {g base sz n:Nat} {t e:TypeId} {cs:Array Value} {v:Value} {xs:List Value} (ho:w.ownsRow base e sz v n xs) (h:aj w g t cs) (hne:t≠e):v.ownBlock≠some g:=by
 rcases ho.2 with ⟨rfl,_⟩ | ⟨g2,cap,cur,rfl,_,hg,_⟩
 ·simp [Value.ownBlock]
 simp only [Value.ownBlock,ne_eq,Option.some.injEq];rintro rfl;unfold aj at h;rw [h]at hg;injection hg with hg;injection hg with _ ht;exact hne ht
theorem oU {w:World} {lo sz n g i:Nat} {e:TypeId} {v u:Value} {xs:List Value} (h:w.ownsRow lo e sz v n xs) (hg:g<lo):(w.setCell ⟨g,i,none⟩ u).ownsRow lo e sz v n xs:=by
 rcases h.2 with ⟨hv,h0⟩ | ⟨k,cap,cur,hv,h1,h2,h3⟩;exact⟨h.1,.inl ⟨hv,h0⟩⟩;refine⟨h.1,.inr ⟨k,cap,cur,hv,h1,?_,h3⟩⟩;rw [Below.heap_setCell _ _ _ _ (show k≠g by omega)];exact h2
theorem vO (l:List Int) (x:Int):runeCells (l++[x])=runeCells l++[.int .i32 x]:=by simp [runeCells]
theorem xk (l:List Int) (x:Int):intCells (l++[x])=intCells l++[.int .i64 x]:=by simp [intCells]
structure bF where
  low:Int
  high:Int
  rules:List Int
def lO (w:World) (X:Nat→Prop) (l:List Int) (u:Value):Prop:=∃ A n c,u=.slice A n c∧cy w X 1 A n (intCells l)∧n≤maxLen
def gK (w:World) (X:Nat→Prop) (h:bF) (cs:List Value):Prop:=∃ u,cs = [.int .i32 h.low,.int .i32 h.high,u]∧lO w X h.rules u
def oV (w:World) (X:Nat→Prop) (l:List bF) (u:Value):Prop:=∃ A n c,u=.slice A n c∧bh (gK w X) w X 3 A n l∧n≤maxLen
section
variable {w w' : World} {X X' : Nat → Prop} (hk : aa w X w' X')
include hk
theorem lO.keep {l:List Int} {u:Value} (h:lO w X l u):lO w' X' l u:=by
 obtain⟨A,n,c,e,h1,h2⟩:=h;exact⟨A,n,c,e,h1.keep hk,h2⟩
theorem gK.keep {h:bF} {cs:List Value} (hh:gK w X h cs):gK w' X' h cs:=by
 obtain⟨u,e,h1⟩:=hh;exact⟨u,e,h1.keep hk⟩
theorem oV.keep {l:List bF} {u:Value} (h:oV w X l u):oV w' X' l u:=by
 obtain⟨A,n,c,e,h1,h2⟩:=h;exact⟨A,n,c,e,h1.keep hk (fun _ _=>gK.keep hk),h2⟩
end
theorem lO.len {w:World} {X:Nat→Prop} {l:List Int} {A:Option Addr} {n c:Nat} (h:lO w X l (.slice A n c)):l.length=n∧n≤maxLen:=by
 obtain⟨A',n',c',e,h1,h2⟩:=h;cases e;have:=h1.1;simp [intCells]at this;exact⟨this,h2⟩
def CZ (_:Nat):Prop:=True
theorem aa.any {w w':World} {X:Nat→Prop} (hb:Below w.heap.size w w'):aa w X w' X:=aa.below hb (fun _ h _=>h)
theorem cy.of {w:World} {X:Nat→Prop} {sz n:Nat} {A:Option Addr} {xs:List Value} (h:cy w X sz A n xs):Rd w w.heap.size sz A n xs:=h.rd (fun _ _ h=>h)
theorem tE {w:World} {X:Nat→Prop} {A:Option Addr} {n:Nat} {l:List ag} (h:bh (mc w X) w X 1 A n l) {k:Nat} {s:ag} (hk:l[k]? = some s) :
    ∃ (b off:Nat) (A':Option Addr) (n' c':Nat),A=some ⟨b,off,none⟩∧X b∧b<w.heap.size∧w.cell? ⟨b,off+k,none⟩=some (.slice A' n' c')∧lR w w.heap.size A' n' s∧cy w X 2 A' n' (ak s)∧n'≤maxLen:=by
 obtain⟨b,off,cs,e,hx,hb,⟨u,rfl,A',n',c',rfl,h1,h2⟩,_,hc⟩:=h.at hk;have:=hc 0 _ rfl;rw [Nat.mul_one,Nat.add_zero]at this;exact⟨b,off,A',n',c',e,hx,hb,this,h1.of,h1,h2⟩
def VU (w:World) (n:Nat) (i:Value) (wr:World):Prop:=∃ j:Nat,j≤n∧i=.int .i64 j∧Below w.heap.size w wr
theorem vv (X:Nat→Prop) (L:List ag) (A:Option Addr) (n c:Nat) (w:World) (hn:n≤1000) (hS:∀ s∈L,aG s) (hL:bh (mc w X) w X 1 A n L) :
    Calls Tryz.prog 55 #[.slice A n c] w fun e w'=>e=.returned (.int .i64 0)∧Below w.heap.size w w':=by
 have aS:=qqh (show L.length=n from hL.len);have HL:=qqh hL;have HS:=qqh hS;clear hL hS;go_enter Tryz.func55,Tryz.ntmps55;go_wp2_with fail;go_loopw [8] (VU w n) (fun i _=>n - (intOf i).toNat);(case atStart=>exact⟨0,Nat.zero_le _,rfl,Below.refl _ _⟩);obtain⟨j,hj,rfl,hb⟩:=hrel;by_cases hlt:j<n
 ·obtain⟨s,hs⟩:∃ z,L[j]? = some z:=⟨_,List.getElem?_eq_getElem (by rw [aS.out];exact hlt)⟩;obtain⟨b,off,A',n',c',rfl,_,dL,Uy,hrd,_,hnn⟩:=tE HL.out hs;have qj:=(hb.cell (p:=⟨b,off+j,none⟩) dL).trans Uy;simp only [maxLen]at hnn;have HW:=qqh (show Calls Tryz.prog 45 #[.slice A' n' c'] wr fun e w'=>e=.returned (.int .i64 0)∧Below wr.heap.size wr w' by
   have:=iS A' n' c' s wr (by omega) ((Rd.below hrd hb).more hb.size);rwa [jb (HS.out s (List.mem_of_getElem? hs))]at this)
  have HB:=qqh hb;clear hs hrd hb Uy;go_wp2_with fail;refine HW.out.mono ?_;rintro e w1 ⟨rfl,aT⟩;have bR:=qqh (HB.out.trans (aT.mono HB.out.size));go_wp2_with fail;exact⟨⟨j+1,by omega,by go_num,bR.out⟩,by simp [intOf];omega⟩
 obtain rfl:j=n:=(by omega);go_wp2_with fail;go_ret;exact⟨rfl,hb⟩
theorem mT (A:Option Addr) (n c:Nat) (w:World) :
    Calls Tryz.prog 109 #[.slice A n c] w fun e w'=>e=.returned (if 200<n then .tuple #[.slice none 0 0,.int .i64 5]else .tuple #[.slice A n c,.int .i64 0])∧w'=w:=by
 by_cases h:200<n
 ·rw [if_pos h];go_enter Tryz.func109,Tryz.ntmps109;go_wp2_with fail;go_ret2;exact⟨rfl,rfl⟩
 rw [if_neg h];go_enter Tryz.func109,Tryz.ntmps109;go_wp2_with fail;go_ret2;exact⟨rfl,rfl⟩
def dw (w:World) (s:ag) (m:Nat) (e:Ending) (w':World):Prop:=∃ A' n' c',e=.returned (.slice A' n' c')∧cy w' (fun b=>w.heap.size≤b) 2 A' n' (ak s)∧n'≤m∧n'≤c'∧Below w.heap.size w w'
def Ua (w:World) (s:ag) (n:Nat) (out a i:Value) (wr:World):Prop :=
  ∃ (j k:Nat) (x:Int) (acc:ag),j≤n∧i=.int .i64 j∧a=.int .i32 x∧0≤x∧x≤1114112∧k≤j∧wr.ownsRow w.heap.size 82 2 out k (ak acc)∧acc.length=k∧uD s=acc++lA x (s.drop j)∧Below w.heap.size w wr
theorem AJ (A:Option Addr) (n c:Nat) (s:ag) (w:World) (hn:n≤200) (hs:aG s) (hl:lR w w.heap.size A n s) :
    Calls Tryz.prog 115 #[.slice A n c] w (dw w (uD s) 201):=by
 obtain⟨i0,hi,z0,z1,z2⟩:=info_parts ja;have aS:=qqh hl.len;have HL:=qqh hl;have HS:=qqh hs;clear hl hs;go_enter Tryz.func115,Tryz.ntmps115;go_wp2_with fail;go_loopw [3,4,9] (Ua w s n) (fun _ _ i _=>n - (intOf i).toNat);(case atStart=>exact⟨0,0,0,[],Nat.zero_le _,rfl,rfl,by omega,by omega,by omega,World.ownsRow_nil _ _ _ _,rfl,rfl,Below.refl _ _⟩);obtain⟨j,k,a,acc,hj,rfl,rfl,ha0,lP,hk,hown,hk2,aY,hb⟩:=hrel;have hz:=hb.size;have hb0:=hb;obtain⟨A3,c3,rfl,kR⟩:=aJ hown;by_cases hlt:j<n
 ·obtain⟨⟨x,y⟩,hx⟩:∃ z,s[j]? = some z:=⟨_,List.getElem?_eq_getElem (by rw [aS.out];exact hlt)⟩;obtain⟨b,off,rfl,dL,c0,c1⟩:=HL.out.at hx;have d0:=(hb.cell (p:=⟨b,off+j*2,none⟩) dL).trans c0;have d1:=(hb.cell (p:=⟨b,off+j*2+1,none⟩) dL).trans c1;have hxy:=HS.out.each (x,y) (List.mem_of_getElem? hx);simp only at hxy;rw [dH hx,lA]at aY;simp only at aY;have HX:=qqh hx;have bR:=qqh (hb.alloc hz (.cells #[.int .i32 x,.int .i32 y] 82));have yD:=qqh (World.ownsRow.alloc hown (.cells #[.int .i32 x,.int .i32 y] 82));have Sr:=qqh hown;have HY:=qqh (aj.new wr 82 #[.int .i32 x,.int .i32 y]);clear hx c0 c1 hown hb hb0;by_cases hgt:a<x
  ·rw [if_pos hgt]at aY;have HG:=qqh aY;have tA:=qqh (World.ownsRow.alloc yD.out (.cells #[.int .i32 a,.int .i32 (x - 1)] 82));have bt:=qqh (bR.out.alloc bR.out.size (.cells #[.int .i32 a,.int .i32 (x - 1)] 82));have HN:=qqh (show Rd ((wr.alloc (.cells #[.int .i32 x,.int .i32 y] 82)).alloc (.cells #[.int .i32 a,.int .i32 (x - 1)] 82)) (wr.heap.size+1+1) 2 (some ⟨wr.heap.size+1,0,none⟩) 1 [.int .i32 a,.int .i32 (x - 1)] by
    have:=Rd.new (wr.alloc (.cells #[.int .i32 x,.int .i32 y] 82)) 82 2 1 [.int .i32 a,.int .i32 (x - 1)] rfl;simpa using this)
   clear aY;go_wp2_with (at_builtin;refine ai _ rfl (.tmp 17) (.tmp 23) 24 rfl w.heap.size 82 i0 _ 2 8 Tryz.underlying24 hi z0 z1 z2 rfl (by decide) _ _ _ rfl tA.out (wr.heap.size+1+1) (some ⟨wr.heap.size+1,0,none⟩) 1 1 [.int .i32 a,.int .i32 (x - 1)] rfl HN.out (lI _ _) (by simp only [maxLen];omega) (by omega) bt.out.size ?_);intro v' w9 an;have eE:=qqh (bt.out.trans (an.below bt.out.size tA.out));have gV:=qqh (show w9.ownsRow w.heap.size 82 2 v' (k+1) (ak (acc++[(a,x - 1)])) by rw [gi];exact an.own);have sW:aj w9 wr.heap.size 82 #[.int .i32 x,.int .i32 y]:=by
    have h1:aj ((wr.alloc (.cells #[.int .i32 x,.int .i32 y] 82)).alloc (.cells #[.int .i32 a,.int .i32 (x - 1)] 82)) wr.heap.size 82 #[.int .i32 x,.int .i32 y]:=HY.out.alloc _;unfold aj at h1 ⊢;rw [an.2.1.block _ (by simp;omega) (fun e=>?_)];exact h1;have:=(aU Sr.out e.symm).2;omega
   have e1:=sW.cell 1;clear an sW;go_wp2_with fail;exact⟨⟨j+1,k+1,y+1,acc++[(a,x - 1)],by omega,by go_num,rfl,by omega,by omega,by omega,gV.out,by simp;omega,by rw [HG.out];simp,eE.out⟩,by simp [intOf];omega⟩
  rw [if_neg hgt,List.nil_append]at aY;have HG:=qqh aY;clear aY;go_wp2_with fail;exact⟨⟨j+1,k,y+1,acc,by omega,by go_num,rfl,by omega,by omega,by omega,yD.out,by omega,HG.out,bR.out⟩,by simp [intOf];omega⟩
 obtain rfl:j=n:=(by omega);rw [List.drop_of_length_le (by rw [aS.out];omega),lA]at aY;by_cases hle:a≤1114111
 ·rw [if_pos hle]at aY;have HG:=qqh aY;have tA:=qqh (World.ownsRow.alloc hown (.cells #[.int .i32 a,.int .i32 1114111] 82));have bt:=qqh (hb.alloc hb.size (.cells #[.int .i32 a,.int .i32 1114111] 82));have HN:=qqh (Rd.new wr 82 2 1 [.int .i32 a,.int .i32 1114111] rfl);clear aY hown hb hb0;go_wp2_with (at_builtin;refine ai _ rfl (.tmp 31) (.tmp 34) 24 rfl w.heap.size 82 i0 _ 2 8 Tryz.underlying24 hi z0 z1 z2 rfl (by decide) _ _ _ rfl tA.out (wr.heap.size+1) (some ⟨wr.heap.size,0,none⟩) 1 1 [.int .i32 a,.int .i32 1114111] rfl HN.out (lI _ _) (by simp only [maxLen];omega) (by omega) bt.out.size ?_);intro v' w9 an;have eE:=qqh (bt.out.trans (an.below bt.out.size tA.out));have gV:=qqh (show w9.ownsRow w.heap.size 82 2 v' (k+1) (ak (uD s)) by rw [HG.out,gi];exact an.own);clear an;obtain⟨A9,c9,rfl,BI⟩:=aJ gV.out;go_wp2_with fail;go_ret;exact⟨A9,k+1,c9,rfl,cy.cj gV.out (fun b hb=>(aU gV.out hb).1),by omega,BI,eE.out⟩
 rw [if_neg hle,List.append_nil]at aY;have gV:=qqh (show wr.ownsRow w.heap.size 82 2 (.slice A3 k c3) k (ak (uD s)) by rw [aY];exact hown);clear aY hown hb0;go_wp2_with fail;go_ret;exact⟨A3,k,c3,rfl,cy.cj gV.out (fun b hb=>(aU gV.out hb).1),by omega,kR,hb⟩
def MQ (w:World) (outs:List ag) (us:List Value):Prop:=∀ (i:Nat) (l:ag) (u:Value),outs[i]? = some l→us[i]? = some u→∃ A n c,u=.slice A n c∧Rd w w.heap.size 2 A n (ak l)
theorem MQ.below {w w':World} {outs:List ag} {us:List Value} (h:MQ w outs us) (hb:Below w.heap.size w w'):MQ w' outs us:=by
 intro i l u h1 h2;obtain⟨A,n,c,e,hr⟩:=h i l u h1 h2;exact⟨A,n,c,e,(Rd.below hr hb).more hb.size⟩
theorem Cq (A:Option Addr) (n c:Nat) (l:ag) (w:World) (hn:n≤100000) (hl:lR w w.heap.size A n l) :
    Calls Tryz.prog 78 #[.slice A n c] w fun e w'=>(∃ v,e=.returned v∧w'.ownsRow w.heap.size 82 2 v n (ak l))∧Below w.heap.size w w':=by
 obtain⟨i0,hi,z0,z1,z2⟩:=info_parts ja;have Ma:=qqh (fun W=>Lib.run_eql_slice_nil (P:=Tryz.prog) W 24 82 A n c 0 0 Tryz.underlying24);have HL:=qqh hl;cases A with
 | none=>
  have h0:n=0:=by
   rcases Nat.eq_zero_or_pos n with h | h;exact h;obtain⟨b,o,e,_⟩:=hl.2 h;cases e
  subst h0;have C':l = []:=List.eq_nil_of_length_eq_zero hl.len;subst C';have heq:=fun W=>Ma.out W;simp only [Option.isNone_none]at heq;clear hl;go_enter Tryz.func78,Tryz.ntmps78;go_wp2_with fail;go_ret;exact⟨⟨_,rfl,World.ownsRow_nil _ _ _ _⟩,Below.refl _ _⟩
 | some a=>
  have heq:=fun W=>Ma.out W;simp only [Option.isNone_some]at heq;have Pj:=qqh (nK w 82 2 w.heap.size w.heap.size rfl (Nat.le_refl _));have hba:=(Below.refl w.heap.size w).alloc (Nat.le_refl _) (.cells #[] 82);have AF:=qqh hba;have gI:=qqh ((Rd.below hl hba).more hba.size);clear hba hl;go_enter Tryz.func78,Tryz.ntmps78;go_wp2_with (at_builtin;refine ai _ rfl (.tmp 5) (.tmp 6) 24 rfl w.heap.size 82 i0 _ 2 8 Tryz.underlying24 hi z0 z1 z2 rfl (by decide) _ _ _ rfl Pj.out _ (some a) n c (ak l) rfl gI.out (kT _) (by simp only [maxLen];omega) (by omega) (by simp) ?_);intro v1 w3 an;have bN:=qqh (AF.out.trans (an.below (by simp) Pj.out));have nX:=qqh an.own;clear an heq;go_wp2_with fail;go_ret;exact⟨⟨_,rfl,by simpa using nX.out⟩,bN.out⟩
theorem Ef (n:Nat) (w:World) (hn:n≤100000) :
    Calls Tryz.prog 132 #[.slice none 0 0,.int .i64 n] w fun e w'=>(∃ v,e=.returned v∧w'.ownsRow w.heap.size 82 2 v 0 [])∧Below w.heap.size w w':=by
 obtain⟨i0,hi,z0,z1,z2⟩:=info_parts ja;by_cases h0:n=0
 ·subst h0;go_enter Tryz.func132,Tryz.ntmps132;go_wp2_with fail;go_ret;exact⟨⟨_,rfl,World.ownsRow_nil _ _ _ _⟩,Below.refl _ _⟩
 have hrun:=Lib.run_append_nil_zeros (P:=Tryz.prog) w 24 3 24 82 i0 (.agg #[.int .i32 0,.int .i32 0]) .i64 .i64 Tryz.underlying24 Tryz.underlying3 hi z0 n (by omega) (by omega) (by omega) (by rw [z2];omega);generalize hcap:grownCap w n 0 82 = cap at hrun;have aaE:n≤cap:=(by rw [← hcap];exact grownCap_ge w _ 0 82);have Rf:cap≤maxLen:=(by rw [← hcap];exact grownCap_le_maxLen w _ 0 82 (by simp only [maxLen];omega));generalize hZ:(Builtin.zeroCells (Value.agg #[.int .i32 0,.int .i32 0]).cells n++Builtin.zeroCells (Value.agg #[.int .i32 0,.int .i32 0]).cells (cap - n))=Z at hrun;have hZs:Z.size=cap*2:=(by rw [← hZ];simp [size_zeroCells,Value.cells];omega);have HR:=qqh hrun
 have HO:=qqh (show(w.drew.alloc (.cells Z 82)).ownsRow w.heap.size 82 2 (.slice (some ⟨w.heap.size,0,none⟩) 0 cap) 0 [] from
   ⟨rfl,.inr ⟨w.heap.size,cap,Z,rfl,Nat.le_refl _,heap_alloc_new w.drew _,Nat.zero_le _,Rf,by omega,by simp⟩⟩)
 have HB:=qqh (show Below w.heap.size w (w.drew.alloc (.cells Z 82)) from((Below.refl w.heap.size w).drew).alloc (Nat.le_refl _) _);clear hcap hZ hZs hrun;go_enter Tryz.func132,Tryz.ntmps132;go_wp2_with (at_builtin;refine Lib.wpList_append_run _ rfl (.tmp 20) (.tmp 21) _ _ rfl (.slice none 0 0) (.int .i64 n) rfl rfl _ _ HR.out ?_);go_wp2_with fail;go_ret;exact⟨⟨_,rfl,HO.out⟩,HB.out⟩
theorem oF {outs:List ag} {k:Nat} {x:ag} (h:outs[k]? = some x):(outs.take (k+1)).flatten=(outs.take k).flatten++x:=by
 rw [List.take_add_one,h];simp
theorem pO (outs:List ag) (k:Nat):(outs.take k).flatten.length≤outs.flatten.length:=by
 have h:=congrArg (fun z:List ag=>z.flatten.length) (List.take_append_drop k outs);simp only [List.flatten_append,List.length_append]at h;omega
def Tf (w:World) (outs:List ag) (m:Nat) (s3 i:Value) (wr:World):Prop :=
  ∃ k:Nat,k≤m∧i=.int .i64 k∧s3=.int .i64 (outs.take k).flatten.length∧w=wr
def Pw (w:World) (outs:List ag) (m:Nat) (s6 i:Value) (wr:World):Prop :=
  ∃ (k N:Nat),k≤m∧i=.int .i64 k∧(outs.take k).flatten.length=N∧wr.ownsRow w.heap.size 82 2 s6 N (ak (outs.take k).flatten)∧Below w.heap.size w wr
theorem zf (outs:List ag) (us:List Value) (A:Option Addr) (m c:Nat) (w:World) (hlen:outs.length=m) (hrd:Rd w w.heap.size 1 A m us) (hpc:MQ w outs us) (hsum:outs.flatten.length≤100000) (hm:m≤100000) :
    Calls Tryz.prog 112 #[.slice A m c] w fun e w'=>(∃ v,e=.returned v∧w'.ownsRow w.heap.size 82 2 v outs.flatten.length (ak outs.flatten))∧Below w.heap.size w w':=by
 obtain⟨i0,hi,z0,z1,z2⟩:=info_parts ja;have aS:=qqh hlen;have mw:=qqh hrd;have Fs:=qqh hpc;have S1:=qqh (show us.length=m by have:=hrd.1;omega);have zA:=qqh hsum;clear hlen hrd hpc hsum;go_enter Tryz.func112,Tryz.ntmps112;go_wp2_with fail;go_loopw [3,11] (Tf w outs m) (fun _ i _=>m - (intOf i).toNat);(case atStart=>exact⟨0,Nat.zero_le _,rfl,rfl,rfl⟩);obtain⟨k,hk,rfl,rfl,rfl⟩:=hrel;obtain⟨S,hS⟩:∃ S,(outs.take k).flatten.length=S:=⟨_,rfl⟩;have hS1:S≤100000:=(by have:=pO outs k;have:=zA.out;omega);by_cases hlt:k<m
 ·obtain⟨x,hx⟩:∃ x,outs[k]? = some x:=⟨_,List.getElem?_eq_getElem (by rw [aS.out];exact hlt)⟩;obtain⟨u,hu⟩:∃ u,us[k]? = some u:=⟨_,List.getElem?_eq_getElem (by rw [S1.out];exact hlt)⟩;obtain⟨P,n1,c1,rfl,hr⟩:=Fs.out k x u hx hu;obtain⟨b,o,rfl,_,hc⟩:=mw.out.2 (by omega);have u0:=hc _ _ hu;have kB:=hr.1;rw [bA]at kB;have I4:=qqh (show(outs.take (k+1)).flatten.length=S+n1 by rw [oF hx,List.length_append,hS];omega);have Lt:S+n1≤100000:=(by have:=I4.out;have:=pO outs (k+1);have:=zA.out;omega);have hk0:(0:Int)≤(k:Int):=(by omega);have Tc:decide ((S:Int)+(n1:Int)<0)=false:=decide_eq_false (by omega);rw [hS];clear hx hu hr hc kB hS;go_wp2_with fail;exact⟨⟨k+1,by omega,by go_num,by rw [I4.out];go_num,rfl⟩,by simp [intOf];omega⟩
 obtain rfl:k=m:=(by omega);rw [List.take_of_length_le (by rw [aS.out];exact Nat.le_refl _)]at hS ⊢;have HS:=qqh hS;rw [hS];clear hS;go_wp2_with fail;refine(Ef S _ hS1).mono ?_;rintro e w1 ⟨⟨v,rfl,ho⟩,aT⟩;have HO:=qqh ho;have HB:=qqh aT;obtain⟨A1,c1,rfl,_⟩:=aJ ho;clear ho aT;go_wp2_with fail;go_loopw [6,27] (Pw w outs k) (fun _ i _=>k - (intOf i).toNat);(case atStart=>exact⟨0,0,Nat.zero_le _,rfl,rfl,HO.out,HB.out⟩);obtain⟨j,N,hj,rfl,hN,ho,hb⟩:=hrel;have HO:=qqh ho;have HB:=qqh hb;have HN:=qqh hN;have hz:=hb.size;have X4:N≤100000:=(by have:=pO outs j;have:=zA.out;omega);obtain⟨A2,c2,rfl,_⟩:=aJ ho;clear ho hN;by_cases hlt:j<k
 ·obtain⟨x,hx⟩:∃ x,outs[j]? = some x:=⟨_,List.getElem?_eq_getElem (by rw [aS.out];exact hlt)⟩;obtain⟨u,hu⟩:∃ u,us[j]? = some u:=⟨_,List.getElem?_eq_getElem (by rw [S1.out];exact hlt)⟩;obtain⟨P,n1,Sg,rfl,hr⟩:=(Fs.out.below hb) j x u hx hu;obtain⟨b,o,rfl,dL,hc⟩:=(Rd.below mw.out hb).2 (by omega);have u0:=hc _ _ hu;have kB:=hr.1;rw [bA]at kB;have I4:=qqh (oF hx);have kZ:=qqh (show(outs.take (j+1)).flatten.length=N+n1 by rw [oF hx,List.length_append,HN.out];omega);have Lt:N+n1≤100000:=(by have:=kZ.out;have:=pO outs (j+1);have:=zA.out;omega);have HR:=qqh hr;clear hx hu hr hc kB hb;go_wp2_with (at_builtin;refine ai _ rfl (.tmp 31) (.tmp 32) 24 rfl w.heap.size 82 i0 _ 2 8 Tryz.underlying24 hi z0 z1 z2 rfl (by decide) _ N _ rfl HO.out _ P n1 Sg (ak x) rfl HR.out (kT _) (by simp only [maxLen];omega) (by omega) hz ?_);intro v' w9 an;have eE:=qqh (HB.out.trans (an.below hz HO.out));have gV:=qqh (show w9.ownsRow w.heap.size 82 2 v' (N+n1) (ak (outs.take (j+1)).flatten) by rw [I4.out,uB];exact an.own);clear an;go_wp2_with fail;exact⟨⟨j+1,N+n1,by omega,by go_num,kZ.out,gV.out,eE.out⟩,by simp [intOf];omega⟩
 obtain rfl:j=k:=(by omega);have HF:=qqh (show wr.ownsRow w.heap.size 82 2 (.slice A2 N c2) outs.flatten.length (ak outs.flatten) by
  have h1:=HO.out;have h2:=HN.out;rw [List.take_of_length_le (by rw [aS.out];exact Nat.le_refl _)]at h1 h2;rw [h2];exact h1)
 clear hb;go_wp2_with fail;go_ret;exact⟨⟨_,rfl,HF.out⟩,HB.out⟩
def kV:Nat→List aF→Int × Int
  | _,[]=>(0,0)
  | i,p::r=>if fG p=0 then kV (i+1) r else (fG p,i)
def fm (l:List aF):Int × Int:=if 200<l.length then (5,0)else kV 0 l
theorem FH {w:World} {B n:Nat} {A:Option Addr} {l:List aF} (h:Dt w B A n l) {k:Nat} {p:aF} (hk:l[k]? = some p) :
    ∃ (b off:Nat) (A':Option Addr) (n' c':Nat) (L1 L2 L3 R1 R2 R3:Option Addr) (a1 a2 a3 x1 x2 x3 b1 b2 b3 y1 y2 y3:Nat),A=some ⟨b,off,none⟩∧b<B∧(w.cell? ⟨b,off+k*16,none⟩=some (.int .i64 p.kind)∧w.cell? ⟨b,off+k*16+1,none⟩=some (.string p.name)∧w.cell? ⟨b,off+k*16+2,none⟩=some (.slice A' n' c')∧w.cell? ⟨b,off+k*16+3,none⟩=some (.int .i64 p.dir)∧w.cell? ⟨b,off+k*16+4,none⟩=some (.bool p.left.start)∧w.cell? ⟨b,off+k*16+5,none⟩=some (.bool p.left.fin)∧w.cell? ⟨b,off+k*16+6,none⟩=some (.slice L1 a1 x1)∧w.cell? ⟨b,off+k*16+7,none⟩=some (.slice L2 a2 x2)∧w.cell? ⟨b,off+k*16+8,none⟩=some (.slice L3 a3 x3)∧w.cell? ⟨b,off+k*16+9,none⟩=some (.int .i64 p.left.af)∧w.cell? ⟨b,off+k*16+10,none⟩=some (.bool p.right.start)∧w.cell? ⟨b,off+k*16+11,none⟩=some (.bool p.right.fin)∧w.cell? ⟨b,off+k*16+12,none⟩=some (.slice R1 b1 y1)∧w.cell? ⟨b,off+k*16+13,none⟩=some (.slice R2 b2 y2)∧w.cell? ⟨b,off+k*16+14,none⟩=some (.slice R3 b3 y3)∧w.cell? ⟨b,off+k*16+15,none⟩=some (.int .i64 p.right.af))∧lR w B A' n' p.set∧n'≤maxLen∧bM w B L1 a1 p.left.before∧bM w B L2 a2 p.left.source∧bM w B L3 a3 p.left.after∧a1≤maxLen∧a2≤maxLen∧a3≤maxLen∧bM w B R1 b1 p.right.before∧bM w B R2 b2 p.right.source∧bM w B R3 b3 p.right.after∧b1≤maxLen∧b2≤maxLen∧b3≤maxLen∧jU p.left.af∧jU p.right.af∧p.name.size≤maxLen:=by
 obtain⟨b,off,cs,e,hb,⟨A',n',c',ls,rs,hcs,h1,h2,⟨L1,a1,x1,L2,a2,x2,L3,a3,x3,hls,l1,l2,l3,l4,l5,l6,l7⟩,⟨R1,b1,y1,R2,b2,y2,R3,b3,y3,XD,r1,r2,r3,r4,r5,r6,r7⟩,_,_,h5⟩,hc⟩:=jR.at h hk;subst hls XD;subst hcs;exact⟨b,off,A',n',c',L1,L2,L3,R1,R2,R3,a1,a2,a3,x1,x2,x3,b1,b2,b3,y1,y2,y3,e,hb,⟨hc 0 _ rfl,hc 1 _ rfl,hc 2 _ rfl,hc 3 _ rfl,hc 4 _ rfl,hc 5 _ rfl,hc 6 _ rfl,hc 7 _ rfl,hc 8 _ rfl,hc 9 _ rfl,hc 10 _ rfl,hc 11 _ rfl,hc 12 _ rfl,hc 13 _ rfl,hc 14 _ rfl,hc 15 _ rfl⟩,h1,h2,l1,l2,l3,l4,l5,l6,r1,r2,r3,r4,r5,r6,l7,r7,h5⟩
def TN (w:World) (l:List aF) (n:Nat) (i:Value) (wr:World):Prop :=
  ∃ k:Nat,k≤n∧i=.int .i64 k∧kV 0 l=kV k (l.drop k)∧aj wr w.heap.size 38 #[.int .i64 0,.int .i64 0]∧Below w.heap.size w wr
theorem Be {l:List aE} (h:b8 l=0):l.length≤20∧∀ a∈l,ng a=0:=by
 have h20:=kP h;refine⟨h20,?_⟩;unfold b8 at h;rw [if_neg (by omega)]at h;clear h20;induction l with
 | nil=>simp
 | cons a l ih=>
  rw [kO]at h;by_cases h1:ng a=0
  ·rw [if_pos h1]at h;intro x hx;rcases List.mem_cons.1 hx with rfl | hx;exact h1;exact ih h x hx
  rw [if_neg h1]at h;exact absurd h h1
theorem Dn {a:aE} (h:ng a=0):(a.kind=1∧cV a.rune=true)∨(a.kind=2∧bL a.set=0)∨(a.kind=3∧dY a.name=true):=by
 unfold ng at h;by_cases h1:a.kind=1
 ·rw [if_pos h1]at h;cases hr:cV a.rune
  ·rw [hr]at h;simp at h
  exact .inl ⟨h1,rfl⟩
 rw [if_neg h1]at h;by_cases h2:a.kind=2
 ·rw [if_pos h2]at h;exact .inr (.inl ⟨h2,h⟩)
 rw [if_neg h2]at h;by_cases h3:a.kind=3
 ·rw [if_pos h3]at h;cases hr:dY a.name
  ·rw [hr]at h;simp at h
  exact .inr (.inr ⟨h3,rfl⟩)
 rw [if_neg h3]at h;cases h
theorem Gh {s:ByteArray} (h:dY s=true):s.size≤20:=by
 unfold dY at h;rw [decide_eq_true_iff]at h;exact h.2.1
theorem Fo {s:bO} {fE:Bool} (h:bK s fE=0):b8 s.before=0∧b8 s.source=0∧b8 s.after=0:=by
 unfold bK at h;by_cases h0:eW [s.before,s.source,s.after] = 0
 ·simp only [eW]at h0;by_cases h1:b8 s.before=0
  ·rw [if_pos h1]at h0;by_cases h2:b8 s.source=0
   ·rw [if_pos h2]at h0;by_cases h3:b8 s.after=0;exact⟨h1,h2,h3⟩;rw [if_neg h3]at h0;exact absurd h0 h3
   rw [if_neg h2]at h0;exact absurd h0 h2
  rw [if_neg h1]at h0;exact absurd h0 h1
 rw [if_neg h0]at h;exact absurd h h0
def QU (p:aF):Prop :=
  (p.dir=1∨p.dir=2∨p.dir=3)∧(b8 p.left.before=0∧b8 p.left.source=0∧b8 p.left.after=0)∧(b8 p.right.before=0∧b8 p.right.source=0∧b8 p.right.after=0)
theorem oW {p:aF} (h:fG p=0):(p.kind=1∧dY p.name=true∧bL p.set=0)∨(p.kind=3∧bL p.set=0)∨(p.kind=4∧jy p.name=true)∨(p.kind=2∧QU p):=by
 unfold fG at h;by_cases h1:p.kind=1
 ·rw [if_pos h1]at h;cases hn:dY p.name
  ·rw [hn]at h;simp at h
  rw [hn,if_pos rfl]at h;exact .inl ⟨h1,rfl,h⟩
 rw [if_neg h1]at h;by_cases h3:p.kind=3
 ·rw [if_pos h3]at h;exact .inr (.inl ⟨h3,h⟩)
 rw [if_neg h3]at h;by_cases h4:p.kind=4
 ·rw [if_pos h4]at h;cases hn:jy p.name
  ·rw [hn]at h;simp at h
  exact .inr (.inr (.inl ⟨h4,rfl⟩))
 rw [if_neg h4]at h;by_cases h2:p.kind=2
 ·rw [if_pos h2]at h;unfold cS at h;by_cases hd:p.dir<1∨3<p.dir
  ·rw [if_pos hd]at h;cases h
  rw [if_neg hd]at h;by_cases hl:bK p.left (p.dir != 2)=0
  ·rw [if_pos hl]at h;by_cases hr:bK p.right (p.dir != 1)=0;exact .inr (.inr (.inr ⟨h2,by omega,Fo hl,Fo hr⟩));rw [if_neg hr]at h;exact absurd h hr
  rw [if_neg hl]at h;exact absurd h hl
 rw [if_neg h2]at h;cases h
theorem Hy {l:List aF}:∀ i,(kV i l).1=0→kV i l=(0,0)∧∀ p∈l,fG p=0:=by
 induction l with
 | nil=>intro i _;exact⟨rfl,by simp⟩
 | cons p l ih=>
  intro i h;rw [kV]at h ⊢;by_cases h1:fG p=0
  ·rw [if_pos h1]at h ⊢;obtain⟨h2,h3⟩:=ih (i+1) h;refine⟨h2,fun q hq=>?_⟩;rcases List.mem_cons.1 hq with rfl | hq;exact h1;exact h3 q hq
  rw [if_neg h1]at h;exact absurd h h1
theorem MT {l:List aF} (h:(fm l).1=0):l.length≤200∧fm l=(0,0)∧∀ p∈l,fG p=0:=by
 unfold fm at h ⊢;by_cases h2:200<l.length
 ·rw [if_pos h2]at h;cases h
 rw [if_neg h2]at h ⊢;obtain⟨h3,h4⟩:=Hy 0 h;exact⟨by omega,h3,h4⟩
def Br (a:aE):aE:=⟨a.kind,if a.kind=1 then a.rune else 0,if a.kind=2 then a.set else [],if a.kind=3 then a.name else ⟨#[]⟩⟩
def FA (s:bO):bO:=⟨s.start,s.fin,s.before.map Br,s.source.map Br,s.after.map Br,s.af⟩
def Fe:bO:=⟨false,false,[],[],[],0⟩
def Oz (p:aF):aF:=⟨p.kind,if p.kind=1∨p.kind=4 then p.name else ⟨#[]⟩,if p.kind=1∨p.kind=3 then p.set else [],if p.kind=2 then p.dir else 0,if p.kind=2 then FA p.left else Fe,if p.kind=2 then FA p.right else Fe⟩
def rQ (w:World) (X:Nat→Prop) (a:aE) (cs:List Value):Prop :=
  ∃ A n c,cs = [.int .i64 a.kind,.int .i32 a.rune,.slice A n c,.string a.name]∧cy w X 2 A n (ak a.set)∧n≤maxLen∧jU a.kind∧a.name.size≤maxLen
def ig (w:World) (X:Nat→Prop) (A:Option Addr) (n:Nat) (l:List aE):Prop:=bh (rQ w X) w X 4 A n l
def qJ (w:World) (X:Nat→Prop) (s:bO) (cs:List Value):Prop :=
  ∃ A1 n1 c1 A2 n2 c2 A3 n3 c3,cs = [.bool s.start,.bool s.fin,.slice A1 n1 c1,.slice A2 n2 c2,.slice A3 n3 c3,.int .i64 s.af] ∧
    ig w X A1 n1 s.before∧ig w X A2 n2 s.source∧ig w X A3 n3 s.after∧n1≤maxLen∧n2≤maxLen∧n3≤maxLen∧jU s.af
def ew (w:World) (X:Nat→Prop) (p:aF) (cs:List Value):Prop :=
  ∃ A n c ls rs,cs = [.int .i64 p.kind,.string p.name,.slice A n c,.int .i64 p.dir]++ls++rs∧cy w X 2 A n (ak p.set)∧n≤maxLen∧qJ w X p.left ls∧qJ w X p.right rs∧jU p.kind∧jU p.dir∧p.name.size≤maxLen
def gE (w:World) (X:Nat→Prop) (A:Option Addr) (n:Nat) (l:List aF):Prop:=bh (ew w X) w X 16 A n l
section
variable {w w' : World} {X X' : Nat → Prop} (hk : aa w X w' X')
include hk
theorem rQ.keep {a:aE} {cs:List Value} (h:rQ w X a cs):rQ w' X' a cs:=by
 obtain⟨A,n,c,e,h1,h2⟩:=h;exact⟨A,n,c,e,h1.keep hk,h2⟩
theorem ig.keep {A:Option Addr} {n:Nat} {l:List aE} (h:ig w X A n l):ig w' X' A n l:=bh.keep hk (fun _ _=>rQ.keep hk) h
theorem qJ.keep {s:bO} {cs:List Value} (h:qJ w X s cs):qJ w' X' s cs:=by
 obtain⟨A1,n1,c1,A2,n2,c2,A3,n3,c3,e,h1,h2,h3,h4⟩:=h;exact⟨A1,n1,c1,A2,n2,c2,A3,n3,c3,e,h1.keep hk,h2.keep hk,h3.keep hk,h4⟩
theorem ew.keep {p:aF} {cs:List Value} (h:ew w X p cs):ew w' X' p cs:=by
 obtain⟨A,n,c,ls,rs,e,h1,h2,h3,h4,h5⟩:=h;exact⟨A,n,c,ls,rs,e,h1.keep hk,h2,h3.keep hk,h4.keep hk,h5⟩
theorem gE.keep {A:Option Addr} {n:Nat} {l:List aF} (h:gE w X A n l):gE w' X' A n l:=bh.keep hk (fun _ _=>ew.keep hk) h
end
section
variable {α : Type} {w : World} {B sz n : Nat} {A : Option Addr}
variable {X : Nat → Prop}
theorem bh.rd {R R':α→List Value→Prop} {l:List α} (hR:∀ a cs,R a cs→R' a cs) (h:bh R w X sz A n l):jR R' w w.heap.size sz A n l:=by
 obtain⟨css,h1,h2,h3,h4,h5⟩:=h;exact⟨css,h1,h2,fun i a cs ha hc=>hR a cs (h3 i a cs ha hc),h4,h5.rd (fun _ _ h=>h)⟩
theorem rQ.rd {a:aE} {cs:List Value} (h:rQ w X a cs):yA w w.heap.size a cs:=by
 obtain⟨A,n,c,e,h1,h2⟩:=h;exact⟨A,n,c,e,h1.rd (fun _ _ h=>h),h2⟩
theorem ig.rd {l:List aE} (h:ig w X A n l):bM w w.heap.size A n l:=bh.rd (fun _ _=>rQ.rd) h
theorem qJ.rd {s:bO} {cs:List Value} (h:qJ w X s cs):sC w w.heap.size s cs:=by
 obtain⟨A1,n1,c1,A2,n2,c2,A3,n3,c3,e,h1,h2,h3,h4⟩:=h;exact⟨A1,n1,c1,A2,n2,c2,A3,n3,c3,e,h1.rd,h2.rd,h3.rd,h4⟩
theorem ew.rd {p:aF} {cs:List Value} (h:ew w X p cs):yo w w.heap.size p cs:=by
 obtain⟨A,n,c,ls,rs,e,h1,h2,h3,h4,h5⟩:=h;exact⟨A,n,c,ls,rs,e,h1.rd (fun _ _ h=>h),h2,h3.rd,h4.rd,h5⟩
theorem gE.rd {l:List aF} (h:gE w X A n l):Dt w w.heap.size A n l:=bh.rd (fun _ _=>ew.rd) h
theorem ew.one {p:aF} {cs:List Value} (h:ew w X p cs):cs.length=16∧∀ u∈cs,u.oneCell'=true:=by
 obtain⟨A,n,c,ls,rs,rfl,_,_,⟨A1,n1,c1,A2,n2,c2,A3,n3,c3,rfl,_⟩,⟨B1,m1,d1,B2,m2,d2,B3,m3,d3,rfl,_⟩,_⟩:=h;refine⟨rfl,fun u hu=>?_⟩;simp at hu;rcases hu with rfl | rfl | rfl | rfl | rfl | rfl | rfl | rfl | rfl | rfl | rfl | rfl | rfl | rfl | rfl | rfl <;> rfl
theorem ew.form {q:aF} {cs:List Value} (h:ew w X q cs):∃ A' n' c' L1 a1 x1 L2 a2 x2 L3 a3 x3 R1 b1 y1 R2 b2 y2 R3 b3 y3,cs = [.int .i64 q.kind,.string q.name,.slice A' n' c',.int .i64 q.dir,.bool q.left.start,.bool q.left.fin,.slice L1 a1 x1,.slice L2 a2 x2,.slice L3 a3 x3,.int .i64 q.left.af,.bool q.right.start,.bool q.right.fin,.slice R1 b1 y1,.slice R2 b2 y2,.slice R3 b3 y3,.int .i64 q.right.af]:=by
 obtain⟨A,n,c,ls,rs,rfl,_,_,⟨A1,n1,c1,A2,n2,c2,A3,n3,c3,rfl,_⟩,⟨B1,m1,d1,B2,m2,d2,B3,m3,d3,rfl,_⟩,_⟩:=h;exact⟨A,n,c,A1,n1,c1,A2,n2,c2,A3,n3,c3,B1,m1,d1,B2,m2,d2,B3,m3,d3,rfl⟩
theorem cy.nil (sz:Nat):cy w X sz none 0 []:=⟨by simp,fun h=>absurd h (Nat.lt_irrefl 0)⟩
theorem ig.nil:ig w X none 0 []:=⟨[],rfl,rfl,by simp,by simp,cy.nil 4⟩
theorem jS:qJ w X Fe [.bool false,.bool false,.slice none 0 0,.slice none 0 0,.slice none 0 0,.int .i64 0] :=
  ⟨none,0,0,none,0,0,none,0,0,rfl,ig.nil,ig.nil,ig.nil,Nat.zero_le _,Nat.zero_le _,Nat.zero_le _,by unfold jU Fe;dsimp only;omega⟩
end
theorem Iz:(Tryz.prog.info? 103).map (fun i=>(i.zero,i.size,i.bytes))=some (some (.agg #[.int .i64 0,.string ⟨#[]⟩,.slice none 0 0,.int .i64 0,.bool false,.bool false,.slice none 0 0,.slice none 0 0,.slice none 0 0,.int .i64 0,.bool false,.bool false,.slice none 0 0,.slice none 0 0,.slice none 0 0,.int .i64 0]),16,232):=by kernel_rfl
def fF:List aF→ByteArray→Option ag
  | [],_=>none
  | p::r,s=>if p.kind=1∧p.name=s then some p.set else fF r s
def sL (l:List aF) (a:aE):Option ag:=if a.kind=1 then some [(a.rune,a.rune)]else if a.kind=2 then some a.set else fF l a.name
def bY (l:List aF):List aE→Option (List ag)
  | []=>some []
  | a::r=>match sL l a with
    | none=>none
    | some s=>(bY l r).map (s :: ·)
def eO (l:List aF) (from_ to:bO):Option ax :=
  match bY l from_.before,bY l from_.source,bY l from_.after with
  | some a,some b,some c=>some ⟨from_.start,from_.fin,a,b,c,to.source.map (·.rune),if to.af<0 then (to.source.length:Int)else to.af⟩
  | _,_,_=>none
theorem qh (l:List aF) (a b:List aE):bY l (a++b)=match bY l a,bY l b with
    | some x,some y=>some (x++y)
    | _,_=>none:=by
 induction a with
 | nil=>simp [bY];cases bY l b <;> rfl
 | cons x a ih=>
  rw [List.cons_append,bY,bY,ih];cases sL l x with
  | none=>rfl
  | some s=>cases bY l a <;> cases bY l b <;> simp
theorem Ip {l:List aF} {x:aE} {s:ag} (h:sL l x=some s):bY l [x] = some [s]:=by
 rw [bY,h,bY];rfl
theorem pI {l:List aF} {L:List aE} {k:Nat} {x:aE} {ll:List ag} {s:ag} (hx:L[k]? = some x) (h1:bY l (L.take k)=some ll) (h2:sL l x=some s):bY l (L.take (k+1))=some (ll++[s]):=by
 rw [List.take_add_one,hx];simp only [Option.toList];rw [qh,h1,Ip h2]
theorem ED {l:List aF} {L:List aE} {k:Nat} {x:aE} (hx:L[k]? = some x) (h2:sL l x=none):bY l L=none:=by
 have e:L=L.take k++x::L.drop (k+1):=by
  rw [← dH hx,List.take_append_drop]
 rw [e,qh,bY,h2];cases bY l (L.take k) <;> rfl
theorem Iv {l:List aF} {L:List aE} {ll:List ag} (h:bY l L=some ll):ll.length=L.length:=by
 induction L generalizing ll with
 | nil=>rw [bY]at h;cases h;rfl
 | cons x L ih=>
  rw [bY]at h;cases hs:sL l x with
  | none=>rw [hs]at h;cases h
  | some s=>
   rw [hs]at h;cases h2:bY l L with
   | none=>rw [h2]at h;cases h
   | some m=>
    rw [h2]at h;cases h;simp [ih h2]
theorem La (a b:ByteArray):(a.toList == b.toList)=decide (a=b):=by
 rw [Bool.eq_iff_iff,beq_iff_eq,decide_eq_true_iff,Lib.toList_data,Lib.toList_data];constructor
 ·intro h;exact ByteArray.ext (Array.ext' h)
 intro h;rw [h]
theorem K4 {xs ys:List Int} {k:Nat} {x y:Int} (hx:xs[k]? = some x) (hy:ys[k]? = some y) (h:x≠y):false=(xs == ys):=by
 symm;rw [beq_eq_false_iff_ne];rintro rfl;rw [hx]at hy;cases hy;exact h rfl
theorem Eu {xs ys:List Int} {k:Nat} {x:Int} (hx:xs[k]? = some x) (hy:ys[k]? = some x) (he:xs.take k=ys.take k):xs.take (k+1)=ys.take (k+1):=by
 rw [List.take_add_one,List.take_add_one,he,hx,hy]
theorem Ge {xs ys:List Int} {n:Nat} (hx:xs.length=n) (hy:ys.length=n) (he:xs.take n=ys.take n):true=(xs == ys):=by
 rw [List.take_of_length_le (by omega),List.take_of_length_le (by omega)]at he;simp [he]
theorem zb (A C:Option Addr) (n m c d:Nat) (xs ys:List Int) (w:World) (hn:n≤9223372036854775807) (hx:Me w w.heap.size A n xs) (hy:Me w w.heap.size C m ys) :
    Calls Tryz.prog 139 #[.slice A n c,.slice C m d] w fun e w'=>e=.returned (.bool (xs == ys))∧∃ k,w'=w.drewN k:=by
 have LX:=qqh hx.len;have LY:=qqh hy.len;have HX:=qqh hx;have HY:=qqh hy;clear hx hy;by_cases hnm:n=m
 ·subst hnm;go_enter Tryz.func139,Tryz.ntmps139;go_wp2_with fail;go_loopw [13] (fun i wr=>∃ k q:Nat,k≤n∧i=.int .i64 k∧wr=w.drewN q∧xs.take k=ys.take k) (fun i _=>n - (intOf i).toNat);(case atStart=>exact⟨0,0,Nat.zero_le _,rfl,rfl,rfl⟩);obtain⟨k,q,hk,rfl,rfl,heq⟩:=hrel;have HE:=qqh heq;clear heq;by_cases hlt:k<n
  ·obtain⟨x,hx⟩:∃ z,xs[k]? = some z:=⟨_,List.getElem?_eq_getElem (by rw [LX.out];exact hlt)⟩;obtain⟨y,hy⟩:∃ z,ys[k]? = some z:=⟨_,List.getElem?_eq_getElem (by rw [LY.out];exact hlt)⟩;obtain⟨b1,o1,rfl,aT,hc1⟩:=HX.out.at hx;obtain⟨b2,o2,rfl,aQ,hc2⟩:=HY.out.at hy;have sv:=qqh hx;have KH:=qqh hy;clear hx hy;by_cases he:x=y
   ·subst he;go_wp2_with fail;go_quiet (fail);go_wp2_with fail;exact⟨⟨k+1,_,by omega,by go_num,rfl,Eu sv.out KH.out HE.out⟩,by simp [intOf];omega⟩
   have hd:(x != y)=true:=(by rw [bne_iff_ne];exact he);go_wp2_with fail;go_quiet (fail);go_wp2_with fail;go_ret;exact⟨bD (K4 sv.out KH.out he),_,World.drewN_drewN _ _ _⟩
  obtain rfl:k=n:=(by omega);go_wp2_with fail;go_ret;exact⟨bD (Ge LX.out LY.out HE.out),_,rfl⟩
 have hne:((n:Int) !=(m:Int))=true:=(by rw [bne_iff_ne];omega);go_enter Tryz.func139,Tryz.ntmps139;go_wp2_with fail;go_ret;refine⟨bD ?_,0,rfl⟩;symm;rw [beq_eq_false_iff_ne];intro e;have h1:=LX.out;have h2:=LY.out;rw [e]at h1;omega
theorem qu {w:World} {g i:Nat} {t:TypeId} {cs:Array Value} {v:Value} (h:aj w g t cs) (hv:cs[i]? = some v):w.setCell ⟨g,i,none⟩ v=w:=by
 have e0:cs.setIfInBounds i v=cs:=by
  apply Array.ext_getElem?;intro k;rw [Array.getElem?_setIfInBounds];by_cases hk:i=k
  ·subst hk;rw [if_pos rfl,hv,if_pos (Array.getElem?_eq_some_iff.1 hv).1]
  rw [if_neg hk]
 have e:(w.setCell ⟨g,i,none⟩ v).heap=w.heap:=by
  unfold World.setCell;apply Array.ext_getElem?;intro k;simp only [Array.getElem?_modify];by_cases hk:g=k
  ·subst hk;unfold aj at h;rw [if_pos rfl,h];simp [e0]
  rw [if_neg hk]
 have e2:w.setCell ⟨g,i,none⟩ v = { w with heap:=(w.setCell ⟨g,i,none⟩ v).heap }:=rfl;rw [e2,e]
def O5:Value→Bool
  | .int _ _=>true
  | .string _=>true
  | .slice _ n _=>n != 0
  | _=>false
def zP (X:Nat→Prop) (g b:Nat):Prop:=X b∧b≠g
def qz (cs:List Value):Prop:=∃ (j:Nat) (u:Value),cs[j]? = some u∧O5 u=true
def LG (w:World) (g:Nat):Prop:=∀ (j:Nat) (u:Value),w.cell? ⟨g,j,none⟩=some u→O5 u=false
section
variable {w : World} {X : Nat → Prop} {g : Nat} (hG : LG w g)
include hG
theorem cy.free {sz n:Nat} {A:Option Addr} {xs:List Value} (ht:0<n→qz xs) (h:cy w X sz A n xs):cy w (zP X g) sz A n xs:=by
 refine⟨h.1,fun hn=>?_⟩;obtain⟨b,off,e,hx,hl,hc⟩:=h.2 hn;refine⟨b,off,e,⟨hx,fun hb=>?_⟩,hl,hc⟩;obtain⟨j,u,h1,h2⟩:=ht hn;subst hb;rw [hG _ u (hc j u h1)]at h2;cases h2
theorem bh.free {α:Type} {R R':α→List Value→Prop} {sz n:Nat} {A:Option Addr} {l:List α} (hR:∀ a∈l,∀ cs,R a cs→qz cs∧R' a cs) (h:bh R w X sz A n l):bh R' w (zP X g) sz A n l:=by
 obtain⟨css,h1,h2,h3,h4,h5⟩:=h;refine⟨css,h1,h2,fun i a cs ha hc=>(hR a (List.mem_of_getElem? ha) cs (h3 i a cs ha hc)).2,h4,h5.free hG fun hn=>?_⟩;obtain⟨a,ha⟩:∃ a,l[0]? = some a:=⟨_,List.getElem?_eq_getElem (by omega)⟩;obtain⟨cs,hc⟩:∃ cs,css[0]? = some cs:=⟨_,List.getElem?_eq_getElem (by omega)⟩;obtain⟨j,u,q1,q2⟩:=(hR a (List.mem_of_getElem? ha) cs (h3 0 a cs ha hc)).1;exact⟨_,u,dF h4 0 cs hc j u q1,q2⟩
theorem iD.free {s:ag} {u:Value} (h:iD w X s u):iD w (zP X g) s u:=by
 obtain⟨A,n,c,e,h1,h2⟩:=h;refine⟨A,n,c,e,h1.free hG fun hn=>?_,h2⟩;have hl:=h1.1;cases s with
 | nil=>simp [ak]at hl;omega
 | cons a s=>exact⟨0,.int .i32 a.1,by simp [ak],rfl⟩
end
section
variable {w : World} {X : Nat → Prop} {g : Nat} (hG : LG w g) (hT : ∀ cs, ¬ aj w g 24 cs)
include hG hT
theorem eU.ql {l:List ag} {u:Value} (h:eU w X l u):eU w (zP X g) l u:=by
 obtain⟨A,n,c,e,h1,h2⟩:=h;refine⟨A,n,c,e,h1.keep (aa.refl (X':=Qg w (zP X g)) (fun b h=>⟨⟨h.1,fun e=>?_⟩,h.2⟩)) (fun s cs hc=>?_),h2⟩
 ·obtain⟨cs,hc⟩:=h.2;rw [e]at hc;exact hT cs hc
 obtain⟨u,e,h⟩:=hc;exact⟨u,e,h.free hG⟩
theorem aO.ql {r:ax} {cs:List Value} (h:aO w X r cs):qz cs∧aO w (zP X g) r cs:=by
 obtain⟨u1,u2,u3,A,n,c,e,h1,h2,h3,h4,h5⟩:=h;refine⟨⟨6,.int .i64 r.af,by rw [e];rfl,rfl⟩,u1,u2,u3,A,n,c,e,h1.ql hG hT,h2.ql hG hT,h3.ql hG hT,h4.free hG fun hn=>?_,h5⟩;have hl:=h4.1;cases ht:r.target with
 | nil=>rw [ht]at hl;simp [runeCells]at hl;omega
 | cons a s=>exact⟨0,.int .i32 a,by simp [runeCells],rfl⟩
theorem cR.ql {p:bZ} {cs:List Value} (h:cR w X p cs):qz cs∧cR w (zP X g) p cs:=by
 obtain⟨u,e,A,n,c,e2,h1,h2⟩:=h;exact⟨⟨0,.string p.name,by rw [e];rfl,rfl⟩,u,e,A,n,c,e2,h1.free hG fun r _ cs hc=>hc.ql hG hT,h2⟩
theorem ek.ql {s:bC} {cs:List Value} (h:ek w X s cs):ek w (zP X g) s cs:=by
 obtain⟨u,v,e,h1,A,n,c,e2,h2,h3⟩:=h;exact⟨u,v,e,h1.free hG,A,n,c,e2,h2.free hG fun p _ cs hc=>hc.ql hG hT,h3⟩
end
end Go.Proofs.YtkggjgeihhialaaGreatDoor
