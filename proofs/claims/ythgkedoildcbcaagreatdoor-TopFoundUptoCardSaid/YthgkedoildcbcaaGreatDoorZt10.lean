/- RuleFoot + ShFree + Parts + Item + Items + Side + SideMore + Told + SideWalk + PartP -/
import Derived.Test.YthgkedoildcbcaaGreatDoorZt4
import Derived.Test.YthgkedoildcbcaaGreatDoorZt8
import Derived.Test.YthgkedoildcbcaaGreatDoorZt6
import Derived.Test.YthgkedoildcbcaaGreatDoorZt3
import Derived.Deep.Strs
set_option maxHeartbeats 3200000
set_option maxRecDepth 100000
namespace Go.Proofs.YthgkedoildcbcaaGreatDoor
open Go.RowKit
def bW (w:World) (X:Nat→Prop) (sz:Nat) (A:Option Addr) (n:Nat) (xs:List Value):Prop :=
  xs.length=n*sz∧(0<n→∃ b off,A=some ⟨b,off,none⟩∧X b∧b<w.heap.size∧∀ j u,xs[j]? = some u→w.cell? ⟨b,off+j,none⟩=some u)
def af (w:World) (X:Nat→Prop) (w':World) (X':Nat→Prop):Prop:=∀ b,X b→b<w.heap.size→w'.heap[b]? = w.heap[b]?∧X' b∧b<w'.heap.size
section
variable {w w' w2 : World} {X X' X2 : Nat → Prop} {sz n : Nat} {A : Option Addr} {xs : List Value}
theorem af.refl (h:∀ b,X b→X' b):af w X w X':=fun b hb hl=>⟨rfl,h b hb,hl⟩
theorem af.trans (h:af w X w' X') (h2:af w' X' w2 X2):af w X w2 X2:=fun b hb hl=>
  let ⟨e,hx,hl'⟩:=h b hb hl
  let ⟨e2,hx2,jo⟩:=h2 b hx hl'
  ⟨e2.trans e,hx2,jo⟩
theorem af.below (hb:Below w.heap.size w w') (h:∀ b,X b→b<w.heap.size→X' b):af w X w' X':=fun b hx hl=>⟨hb.block b hl,h b hx hl,Nat.lt_of_lt_of_le hl hb.size⟩
theorem af.alloc (o:Obj) (h:∀ b,X b→b<w.heap.size→X' b):af w X (w.alloc o) X':=fun b hx hl=>⟨heap_alloc_old w o hl,h b hx hl,by simp;omega⟩
theorem af.app {base n:Nat} {e:TypeId} {v v':Value} (ha:aR base e sz v w n xs v' w') (hX:∀ b,X b→v.ownBlock≠some b) (h:∀ b,X b→b<w.heap.size→X' b):af w X w' X' :=
  fun b hx hl=>⟨ha.2.1.block b hl (fun e=>hX b hx e.symm),h b hx hl,Nat.lt_of_lt_of_le hl ha.2.1.size⟩
theorem af.setCell {p:Addr} (u:Value) (hX:∀ b,X b→b≠p.block) (h:∀ b,X b→b<w.heap.size→X' b):af w X (w.setCell p u) X' :=
  fun b hx hl=>⟨Below.heap_setCell _ _ _ _ (hX b hx),h b hx hl,by simpa using hl⟩
theorem bW.keep (hk:af w X w' X') (h:bW w X sz A n xs):bW w' X' sz A n xs:=by
 refine⟨h.1,fun hn=>?_⟩;obtain⟨b,off,e,hx,hl,hc⟩:=h.2 hn;obtain⟨he,hx',hl'⟩:=hk b hx hl;exact⟨b,off,e,hx',hl',fun j u hu=>(World.cell?_of_block (w:=w) he).trans (hc j u hu)⟩
theorem bW.rd {B:Nat} (h:bW w X sz A n xs) (hB:∀ b,X b→b<w.heap.size→b<B):Rd w B sz A n xs :=
  ⟨h.1,fun hn=>let ⟨b,off,e,hx,hl,hc⟩:=h.2 hn;⟨b,off,e,hB b hx hl,hc⟩⟩
theorem bW.It {B:Nat} (h:Rd w B sz A n xs) (hB:B≤w.heap.size) (hX:∀ b,b<B→X b):bW w X sz A n xs :=
  ⟨h.1,fun hn=>let ⟨b,off,e,hb,hc⟩:=h.2 hn;⟨b,off,e,hX b hb,Nat.lt_of_lt_of_le hb hB,hc⟩⟩
theorem bW.cy {base c:Nat} {e:TypeId} (h:w.ownsRow base e sz (.slice A n c) n xs) (hX:∀ b,(Value.slice A n c).ownBlock=some b→X b):bW w X sz A n xs:=by
 refine⟨h.1,fun hn=>?_⟩;rcases h.2 with ⟨hv,h0⟩ | ⟨g,cap,cur,hv,hg,hh,hr⟩;omega;injection hv with hA;subst hA;refine⟨g,0,rfl,hX g rfl,(Array.getElem?_eq_some_iff.1 hh).1,fun j u hu=>?_⟩;have:=World.ownsRow.cells h (g:=g) rfl j u hu;rwa [j9]at this
theorem bW.new (t:TypeId) (cs:List Value) (hl:cs.length=n*sz) (hX:X w.heap.size):bW (w.alloc (.cells cs.toArray t)) X sz (some ⟨w.heap.size,0,none⟩) n cs:=by
 refine⟨hl,fun _=>⟨_,_,rfl,hX,by simp,fun j u hu=>?_⟩⟩;rw [(ai.new w t cs.toArray).cell,Nat.zero_add];simpa using hu
end
def aZ {α:Type} (R:α→List Value→Prop) (w:World) (X:Nat→Prop) (sz:Nat) (A:Option Addr) (n:Nat) (l:List α):Prop :=
  ∃ css:List (List Value),l.length=n∧css.length=n∧(∀ (i:Nat) (a:α) (cs:List Value),l[i]? = some a→css[i]? = some cs→R a cs)∧(∀ cs∈css,cs.length=sz)∧bW w X sz A n css.flatten
theorem aZ.len {α:Type} {R:α→List Value→Prop} {w:World} {X:Nat→Prop} {sz n:Nat} {A:Option Addr} {l:List α} (h:aZ R w X sz A n l):l.length=n:=by
 obtain⟨_,h1,_⟩:=h;exact h1
theorem aZ.keep {α:Type} {R R':α→List Value→Prop} {w w':World} {X X':Nat→Prop} {sz n:Nat} {A:Option Addr} {l:List α} (hk:af w X w' X') (hR:∀ a cs,R a cs→R' a cs) (h:aZ R w X sz A n l):aZ R' w' X' sz A n l:=by
 obtain⟨css,h1,h2,h3,h4,h5⟩:=h;exact⟨css,h1,h2,fun i a cs ha hc=>hR a cs (h3 i a cs ha hc),h4,h5.keep hk⟩
theorem aZ.at {α:Type} {R:α→List Value→Prop} {w:World} {X:Nat→Prop} {sz n:Nat} {A:Option Addr} {l:List α} (h:aZ R w X sz A n l) {k:Nat} {a:α} (hk:l[k]? = some a) :
    ∃ (b off:Nat) (cs:List Value),A=some ⟨b,off,none⟩∧X b∧b<w.heap.size∧R a cs∧cs.length=sz∧∀ j u,cs[j]? = some u→w.cell? ⟨b,off+k*sz+j,none⟩=some u:=by
 obtain⟨css,h1,h2,h3,h4,h5,h6⟩:=h;have hlt:k<l.length:=(List.getElem?_eq_some_iff.1 hk).1;obtain⟨b,off,e,hx,hb,hc⟩:=h6 (by omega);obtain⟨cs,hcs⟩:∃ cs,css[k]? = some cs:=⟨_,List.getElem?_eq_getElem (by omega)⟩;refine⟨b,off,cs,e,hx,hb,h3 k a cs hk hcs,h4 cs (List.mem_of_getElem? hcs),fun j u hu=>?_⟩;rw [Nat.add_assoc];exact hc _ _ (dX h4 k cs hcs j u hu)
def dH {α:Type} (R:α→List Value→Prop) (T:TypeId) (sz:Nat) (w:World) (base:Nat) (v:Value) (l:List α):Prop :=
  ∃ css:List (List Value),css.length=l.length∧(∀ (i:Nat) (a:α) (cs:List Value),l[i]? = some a→css[i]? = some cs→R a cs)∧(∀ cs∈css,cs.length=sz)∧w.ownsRow base T sz v l.length css.flatten
section
variable {α : Type} {R R' : α → List Value → Prop} {T : TypeId} {sz base : Nat} {w w' : World} {v v' : Value} {l : List α}
theorem dH.nil (w:World) (base:Nat):dH R T sz w base (.slice none 0 0) []:=⟨[],rfl,by simp,by simp,World.ownsRow_nil _ _ _ _⟩
theorem dH.form (h:dH R T sz w base v l):∃ A c,v=.slice A l.length c∧l.length≤c:=by
 obtain⟨_,_,_,_,h4⟩:=h;exact aI h4
theorem dH.weak (hR:∀ a cs,R a cs→R' a cs) (h:dH R T sz w base v l):dH R' T sz w base v l:=by
 obtain⟨css,h1,h2,h3,h4⟩:=h;exact⟨css,h1,fun i a cs ha hc=>hR a cs (h2 i a cs ha hc),h3,h4⟩
theorem dH.kept (hw:∀ n xs,w.ownsRow base T sz v n xs→w'.ownsRow base T sz v n xs) (hR:∀ a cs,R a cs→R' a cs) (h:dH R T sz w base v l):dH R' T sz w' base v l:=by
 obtain⟨css,h1,h2,h3,h4⟩:=h;exact⟨css,h1,fun i a cs ha hc=>hR a cs (h2 i a cs ha hc),h3,hw _ _ h4⟩
theorem dH.done {A:Option Addr} {c:Nat} {X:Nat→Prop} (h:dH R T sz w base (.slice A l.length c) l) (hR:∀ a cs,R a cs→R' a cs) (hX:∀ b,(Value.slice A l.length c).ownBlock=some b→X b):aZ R' w X sz A l.length l:=by
 obtain⟨css,h1,h2,h3,h4⟩:=h;exact⟨css,rfl,h1,fun i a cs ha hc=>hR a cs (h2 i a cs ha hc),h3,bW.cy h4 hX⟩
end
theorem dH.push {α:Type} {R R':α→List Value→Prop} {T:TypeId} {sz base:Nat} {w w':World} {v v':Value} {l:List α} {css:List (List Value)} {a:α} {cs:List Value}
    (h1:css.length=l.length) (h2:∀ (i:Nat) (a:α) (cs:List Value),l[i]? = some a→css[i]? = some cs→R a cs) (h3:∀ cs∈css,cs.length=sz)
    (hR:∀ a cs,R a cs→R' a cs) (ha:R' a cs) (hcs:cs.length=sz) (au:aR base T sz v w (l.length+1) (css.flatten++cs) v' w'):dH R' T sz w' base v' (l++[a]):=by
 refine⟨css++[cs],by simp [h1],?_,?_,?_⟩
 ·intro i x ds hx hd;rcases Nat.lt_or_ge i l.length with hi | hi
  ·rw [List.getElem?_append_left hi]at hx;rw [List.getElem?_append_left (by omega)]at hd;exact hR x ds (h2 i x ds hx hd)
  rw [List.getElem?_append_right hi]at hx;rw [List.getElem?_append_right (by omega),h1]at hd;have hi0:i - l.length=0:=by
   have:=(List.getElem?_eq_some_iff.1 hx).1;simp at this;omega
  rw [hi0]at hx hd;simp at hx hd;subst hx hd;exact ha
 ·intro ds hd;rcases List.mem_append.1 hd with hd | hd;exact h3 ds hd;simp at hd;subst hd;exact hcs
 have e:(css++[cs]).flatten=css.flatten++cs:=(by simp);have e2:(l++[a]).length=l.length+1:=(by simp);rw [e,e2];exact au.own
structure aj where
  start:Bool
  fin:Bool
  before:List ag
  source:List ag
  after:List ag
  target:List Int
  aa:Int
structure cn where
  name:ByteArray
  rules:List aj
structure b8 where
  only? : Bool
  only:ag
  passes:List cn
def iN (w:World) (X:Nat→Prop) (s:ag) (u:Value):Prop:=∃ A n c,u=.slice A n c∧bW w X 2 A n (an s)∧n≤maxLen
def mF (w:World) (X:Nat→Prop) (s:ag) (cs:List Value):Prop:=∃ u,cs = [u]∧iN w X s u
def fq (w:World) (X:Nat→Prop) (l:List ag) (u:Value):Prop:=∃ A n c,u=.slice A n c∧aZ (mF w X) w X 1 A n l∧n≤maxLen
def aO (w:World) (X:Nat→Prop) (r:aj) (cs:List Value):Prop :=
  ∃ u1 u2 u3 A n c,cs = [.bool r.start,.bool r.fin,u1,u2,u3,.slice A n c,.int .i64 r.aa]∧fq w X r.before u1∧fq w X r.source u2∧fq w X r.after u3∧bW w X 1 A n (runeCells r.target)∧n≤maxLen
def BX (w:World) (X:Nat→Prop) (l:List aj) (u:Value):Prop:=∃ A n c,u=.slice A n c∧aZ (aO w X) w X 7 A n l∧n≤maxLen
def cM (w:World) (X:Nat→Prop) (p:cn) (cs:List Value):Prop:=∃ u,cs = [.string p.name,u]∧BX w X p.rules u
def mC (w:World) (X:Nat→Prop) (l:List cn) (u:Value):Prop:=∃ A n c,u=.slice A n c∧aZ (cM w X) w X 2 A n l∧n≤maxLen
def ij (w:World) (X:Nat→Prop) (s:b8) (cs:List Value):Prop:=∃ u v,cs = [.bool s.only?,u,v]∧iN w X s.only u∧mC w X s.passes v
section
variable {w w' : World} {X X' : Nat → Prop} (hk : af w X w' X')
include hk
theorem iN.keep {s:ag} {u:Value} (h:iN w X s u):iN w' X' s u:=by
 obtain⟨A,n,c,e,h1,h2⟩:=h;exact⟨A,n,c,e,h1.keep hk,h2⟩
theorem mF.keep {s:ag} {cs:List Value} (h:mF w X s cs):mF w' X' s cs:=by
 obtain⟨u,e,h⟩:=h;exact⟨u,e,h.keep hk⟩
theorem fq.keep {l:List ag} {u:Value} (h:fq w X l u):fq w' X' l u:=by
 obtain⟨A,n,c,e,h1,h2⟩:=h;exact⟨A,n,c,e,h1.keep hk (fun _ _=>mF.keep hk),h2⟩
theorem aO.keep {r:aj} {cs:List Value} (h:aO w X r cs):aO w' X' r cs:=by
 obtain⟨u1,u2,u3,A,n,c,e,h1,h2,h3,h4,h5⟩:=h;exact⟨u1,u2,u3,A,n,c,e,h1.keep hk,h2.keep hk,h3.keep hk,h4.keep hk,h5⟩
theorem BX.keep {l:List aj} {u:Value} (h:BX w X l u):BX w' X' l u:=by
 obtain⟨A,n,c,e,h1,h2⟩:=h;exact⟨A,n,c,e,h1.keep hk (fun _ _=>aO.keep hk),h2⟩
theorem cM.keep {p:cn} {cs:List Value} (h:cM w X p cs):cM w' X' p cs:=by
 obtain⟨u,e,h⟩:=h;exact⟨u,e,h.keep hk⟩
theorem mC.keep {l:List cn} {u:Value} (h:mC w X l u):mC w' X' l u:=by
 obtain⟨A,n,c,e,h1,h2⟩:=h;exact⟨A,n,c,e,h1.keep hk (fun _ _=>cM.keep hk),h2⟩
theorem ij.keep {s:b8} {cs:List Value} (h:ij w X s cs):ij w' X' s cs:=by
 obtain⟨u,v,e,h1,h2⟩:=h;exact⟨u,v,e,h1.keep hk,h2.keep hk⟩
end
theorem aQ {wx:World} {v:Value} {base sz n:Nat} {e:TypeId} {xs:List Value} (h:wx.ownsRow base e sz v n xs) {b:Nat} (hb:v.ownBlock=some b):base≤b∧b<wx.heap.size:=World.ownsRow.lt h b hb
theorem mA {w:World} {g base sz n:Nat} {t e:TypeId} {cs:Array Value} {fz:Nat × Nat} {v:Value} {xs:List Value} (ho:w.ownsRow base e sz v n xs) (h:w.heap[g]? = some (.cells cs t fz)) (hne:t≠e):v.ownBlock≠some g:=by
 rcases ho.2 with ⟨rfl,_⟩ | ⟨g2,cap,cur,rfl,_,hg,_⟩
 ·simp [Value.ownBlock]
 simp only [Value.ownBlock,ne_eq,Option.some.injEq];rintro rfl;rw [h]at hg;injection hg with hg;injection hg with _ ht;exact hne ht
section
variable {lo : Nat} {w2 : World}
theorem sM {e e2:TypeId} {sz ZJ n m:Nat} {v u u':Value} {xs ys:List Value} {w0:World} (h:w0.ownsRow lo e sz v n xs) (ha:aR lo e2 ZJ u w0 m ys u' w2) (hne:v.ownBlock≠u.ownBlock∨v.ownBlock=none):w2.ownsRow lo e sz v n xs:=by
 refine World.ownsRow.kept h ha.2.1 ?_;rcases hne with h | h;exact .inr h;exact .inl h
theorem uW {e e2:TypeId} {sz ZJ n m:Nat} {v u:Value} {xs ys:List Value} {w0:World} (h:w0.ownsRow lo e sz v n xs) (h2:w0.ownsRow lo e2 ZJ u m ys) (hne:e≠e2):v.ownBlock≠u.ownBlock∨v.ownBlock=none:=by
 rcases h.2 with ⟨hv,_⟩ | ⟨g,cap,cur,hv,_,hg,_⟩
 ·right;rw [hv];rfl
 left;rw [hv];intro e;exact mA h2 hg hne e.symm
theorem uU {u v:Value} (h:∀ b,u.ownBlock=some b→v.ownBlock≠some b):v.ownBlock≠u.ownBlock∨v.ownBlock=none:=by
 cases hv:v.ownBlock with
 | none=>exact .inr rfl
 | some b=>
  left;intro e;exact h b e.symm hv
end
theorem eM {w:World} {base sz n g i:Nat} {e t:TypeId} {v u:Value} {xs:List Value} {cs:Array Value} (h:w.ownsRow base e sz v n xs) (hb:ai w g t cs) (hne:t≠e):(w.setCell ⟨g,i,none⟩ u).ownsRow base e sz v n xs:=by
 rcases h.2 with ⟨hv,h0⟩ | ⟨k,cap,cur,hv,h1,h2,h3⟩;exact⟨h.1,.inl ⟨hv,h0⟩⟩;refine⟨h.1,.inr ⟨k,cap,cur,hv,h1,?_,h3⟩⟩;rw [Below.heap_setCell _ _ _ _ ?_];exact h2;intro e;simp only at e;subst e;unfold ai at hb;rw [hb]at h2;injection h2 with h2;injection h2 with _ ht;exact hne ht
theorem bM {w w':World} {g base sz n m:Nat} {t e:TypeId} {cs:Array Value} {v v':Value} {xs ys:List Value} (h:ai w g t cs) (ho:w.ownsRow base e sz v n xs) (hne:t≠e) (ha:aR base e sz v w m ys v' w'):ai w' g t cs:=by
 have hlt:=h.lt;unfold ai at h ⊢;rw [ha.2.1.block g hlt ?_];exact h;intro he;rcases ho.2 with ⟨rfl,_⟩ | ⟨g2,cap,cur,rfl,_,hg,_⟩
 ·simp [Value.ownBlock]at he
 simp only [Value.ownBlock,Option.some.injEq]at he;subst he;rw [h]at hg;injection hg with hg;injection hg with _ ht;exact hne ht
theorem qN {w:World} {g base sz n:Nat} {t e:TypeId} {cs:Array Value} {v:Value} {xs:List Value} (ho:w.ownsRow base e sz v n xs) (h:ai w g t cs) (hne:t≠e):v.ownBlock≠some g:=by
 rcases ho.2 with ⟨rfl,_⟩ | ⟨g2,cap,cur,rfl,_,hg,_⟩
 ·simp [Value.ownBlock]
 simp only [Value.ownBlock,ne_eq,Option.some.injEq];rintro rfl;unfold ai at h;rw [h]at hg;injection hg with hg;injection hg with _ ht;exact hne ht
theorem rD {w:World} {lo sz n g i:Nat} {e:TypeId} {v u:Value} {xs:List Value} (h:w.ownsRow lo e sz v n xs) (hg:g<lo):(w.setCell ⟨g,i,none⟩ u).ownsRow lo e sz v n xs:=by
 rcases h.2 with ⟨hv,h0⟩ | ⟨k,cap,cur,hv,h1,h2,h3⟩;exact⟨h.1,.inl ⟨hv,h0⟩⟩;refine⟨h.1,.inr ⟨k,cap,cur,hv,h1,?_,h3⟩⟩;rw [Below.heap_setCell _ _ _ _ (show k≠g by omega)];exact h2
theorem xe (l:List Int) (x:Int):runeCells (l++[x])=runeCells l++[.int .i32 x]:=by simp [runeCells]
theorem zn (l:List Int) (x:Int):intCells (l++[x])=intCells l++[.int .i64 x]:=by simp [intCells]
structure bt where
  low:Int
  high:Int
  rules:List Int
def mU (w:World) (X:Nat→Prop) (l:List Int) (u:Value):Prop:=∃ A n c,u=.slice A n c∧bW w X 1 A n (intCells l)∧n≤maxLen
def fS (w:World) (X:Nat→Prop) (h:bt) (cs:List Value):Prop:=∃ u,cs = [.int .i32 h.low,.int .i32 h.high,u]∧mU w X h.rules u
def rj (w:World) (X:Nat→Prop) (l:List bt) (u:Value):Prop:=∃ A n c,u=.slice A n c∧aZ (fS w X) w X 3 A n l∧n≤maxLen
section
variable {w w' : World} {X X' : Nat → Prop} (hk : af w X w' X')
include hk
theorem mU.keep {l:List Int} {u:Value} (h:mU w X l u):mU w' X' l u:=by
 obtain⟨A,n,c,e,h1,h2⟩:=h;exact⟨A,n,c,e,h1.keep hk,h2⟩
theorem fS.keep {h:bt} {cs:List Value} (hh:fS w X h cs):fS w' X' h cs:=by
 obtain⟨u,e,h1⟩:=hh;exact⟨u,e,h1.keep hk⟩
theorem rj.keep {l:List bt} {u:Value} (h:rj w X l u):rj w' X' l u:=by
 obtain⟨A,n,c,e,h1,h2⟩:=h;exact⟨A,n,c,e,h1.keep hk (fun _ _=>fS.keep hk),h2⟩
end
theorem mU.len {w:World} {X:Nat→Prop} {l:List Int} {A:Option Addr} {n c:Nat} (h:mU w X l (.slice A n c)):l.length=n∧n≤maxLen:=by
 obtain⟨A',n',c',e,h1,h2⟩:=h;cases e;have:=h1.1;simp [intCells]at this;exact⟨this,h2⟩
def CH (_:Nat):Prop:=True
theorem af.any {w w':World} {X:Nat→Prop} (hb:Below w.heap.size w w'):af w X w' X:=af.below hb (fun _ h _=>h)
theorem bW.of {w:World} {X:Nat→Prop} {sz n:Nat} {A:Option Addr} {xs:List Value} (h:bW w X sz A n xs):Rd w w.heap.size sz A n xs:=h.rd (fun _ _ h=>h)
theorem vY {w:World} {X:Nat→Prop} {A:Option Addr} {n:Nat} {l:List ag} (h:aZ (mF w X) w X 1 A n l) {k:Nat} {s:ag} (hk:l[k]? = some s) :
    ∃ (b off:Nat) (A':Option Addr) (n' c':Nat),A=some ⟨b,off,none⟩∧X b∧b<w.heap.size∧w.cell? ⟨b,off+k,none⟩=some (.slice A' n' c')∧nD w w.heap.size A' n' s∧bW w X 2 A' n' (an s)∧n'≤maxLen:=by
 obtain⟨b,off,cs,e,hx,hb,⟨u,rfl,A',n',c',rfl,h1,h2⟩,_,hc⟩:=h.at hk;have:=hc 0 _ rfl;rw [Nat.mul_one,Nat.add_zero]at this;exact⟨b,off,A',n',c',e,hx,hb,this,h1.of,h1,h2⟩
end Go.Proofs.YthgkedoildcbcaaGreatDoor
namespace Go.Proofs.YthgkedoildcbcaaGreatDoor
open Go.RowKit
theorem Dc {w:World} {g i:Nat} {t:TypeId} {cs:Array Value} {v:Value} (h:ai w g t cs) (hv:cs[i]? = some v):w.setCell ⟨g,i,none⟩ v=w:=by
 have e0:cs.setIfInBounds i v=cs:=by
  apply Array.ext_getElem?;intro k;rw [Array.getElem?_setIfInBounds];by_cases hk:i=k
  ·subst hk;rw [if_pos rfl,hv,if_pos (Array.getElem?_eq_some_iff.1 hv).1]
  rw [if_neg hk]
 have e:(w.setCell ⟨g,i,none⟩ v).heap=w.heap:=by
  unfold World.setCell;apply Array.ext_getElem?;intro k;simp only [Array.getElem?_modify];by_cases hk:g=k
  ·subst hk;unfold ai at h;rw [if_pos rfl,h];simp [e0]
  rw [if_neg hk]
 have e2:w.setCell ⟨g,i,none⟩ v = { w with heap:=(w.setCell ⟨g,i,none⟩ v).heap }:=rfl;rw [e2,e]
def KS:Value→Bool
  | .int _ _=>true
  | .string _=>true
  | .slice _ n _=>n != 0
  | _=>false
def Ex (X:Nat→Prop) (g b:Nat):Prop:=X b∧b≠g
def oD (cs:List Value):Prop:=∃ (j:Nat) (u:Value),cs[j]? = some u∧KS u=true
def U7 (w:World) (g:Nat):Prop:=∀ (j:Nat) (u:Value),w.cell? ⟨g,j,none⟩=some u→KS u=false
section
variable {w : World} {X : Nat → Prop} {g : Nat} (hG : U7 w g)
include hG
theorem bW.free {sz n:Nat} {A:Option Addr} {xs:List Value} (ht:0<n→oD xs) (h:bW w X sz A n xs):bW w (Ex X g) sz A n xs:=by
 refine⟨h.1,fun hn=>?_⟩;obtain⟨b,off,e,hx,hl,hc⟩:=h.2 hn;refine⟨b,off,e,⟨hx,fun hb=>?_⟩,hl,hc⟩;obtain⟨j,u,h1,h2⟩:=ht hn;subst hb;rw [hG _ u (hc j u h1)]at h2;cases h2
theorem aZ.free {α:Type} {R R':α→List Value→Prop} {sz n:Nat} {A:Option Addr} {l:List α} (hR:∀ a∈l,∀ cs,R a cs→oD cs∧R' a cs) (h:aZ R w X sz A n l):aZ R' w (Ex X g) sz A n l:=by
 obtain⟨css,h1,h2,h3,h4,h5⟩:=h;refine⟨css,h1,h2,fun i a cs ha hc=>(hR a (List.mem_of_getElem? ha) cs (h3 i a cs ha hc)).2,h4,h5.free hG fun hn=>?_⟩;obtain⟨a,ha⟩:∃ a,l[0]? = some a:=⟨_,List.getElem?_eq_getElem (by omega)⟩;obtain⟨cs,hc⟩:∃ cs,css[0]? = some cs:=⟨_,List.getElem?_eq_getElem (by omega)⟩;obtain⟨j,u,q1,q2⟩:=(hR a (List.mem_of_getElem? ha) cs (h3 0 a cs ha hc)).1;exact⟨_,u,dX h4 0 cs hc j u q1,q2⟩
theorem iN.free {s:ag} {u:Value} (h:iN w X s u):iN w (Ex X g) s u:=by
 obtain⟨A,n,c,e,h1,h2⟩:=h;refine⟨A,n,c,e,h1.free hG fun hn=>?_,h2⟩;have hl:=h1.1;cases s with
 | nil=>simp [an]at hl;omega
 | cons a s=>exact⟨0,.int .i32 a.1,by simp [an],rfl⟩
theorem mF.free {s:ag} (hs:s ≠ []) {cs:List Value} (h:mF w X s cs):oD cs∧mF w (Ex X g) s cs:=by
 obtain⟨u,e,h⟩:=h;refine⟨?_,u,e,h.free hG⟩;obtain⟨A,n,c,rfl,h1,_⟩:=h;have hl:=h1.1;refine⟨0,_,by rw [e];rfl,?_⟩;cases s with
 | nil=>exact absurd rfl hs
 | cons a s=>simp [an]at hl;simp [KS];omega
theorem fq.free {l:List ag} (hl:l.all (fun s=>!s.isEmpty)=true) {u:Value} (h:fq w X l u):fq w (Ex X g) l u:=by
 obtain⟨A,n,c,e,h1,h2⟩:=h;refine⟨A,n,c,e,h1.free hG fun s hs cs hc=>hc.free hG ?_,h2⟩;rintro rfl;have:=List.all_eq_true.1 hl _ hs;simp at this
def B5 (r:aj):Bool:=r.before.all (fun s=>!s.isEmpty) && r.source.all (fun s=>!s.isEmpty) && r.after.all (fun s=>!s.isEmpty)
theorem aO.free {r:aj} (hr:B5 r=true) {cs:List Value} (h:aO w X r cs):oD cs∧aO w (Ex X g) r cs:=by
 obtain⟨u1,u2,u3,A,n,c,e,h1,h2,h3,h4,h5⟩:=h;simp only [B5,Bool.and_eq_true]at hr;refine⟨⟨6,.int .i64 r.aa,by rw [e];rfl,rfl⟩,u1,u2,u3,A,n,c,e,h1.free hG hr.1.1,h2.free hG hr.1.2,h3.free hG hr.2,h4.free hG fun hn=>?_,h5⟩;have hl:=h4.1;cases ht:r.target with
 | nil=>rw [ht]at hl;simp [runeCells]at hl;omega
 | cons a s=>exact⟨0,.int .i32 a,by simp [runeCells],rfl⟩
theorem cM.free {p:cn} (hp:p.rules.all B5=true) {cs:List Value} (h:cM w X p cs):oD cs∧cM w (Ex X g) p cs:=by
 obtain⟨u,e,A,n,c,e2,h1,h2⟩:=h;exact⟨⟨0,.string p.name,by rw [e];rfl,rfl⟩,u,e,A,n,c,e2,h1.free hG fun r hr cs hc=>hc.free hG (List.all_eq_true.1 hp r hr),h2⟩
def LV (s:b8):Bool:=s.passes.all fun p=>p.rules.all B5
theorem ij.free {s:b8} (hs:LV s=true) {cs:List Value} (h:ij w X s cs):ij w (Ex X g) s cs:=by
 obtain⟨u,v,e,h1,A,n,c,e2,h2,h3⟩:=h;exact⟨u,v,e,h1.free hG,A,n,c,e2,h2.free hG fun p hp cs hc=>hc.free hG (List.all_eq_true.1 hs p hp),h3⟩
end
end Go.Proofs.YthgkedoildcbcaaGreatDoor
namespace Go.Proofs.YthgkedoildcbcaaGreatDoor
open Go.RowKit Go.ChangeShapes Go.WideShapes Go.ChangeAt
def kW {α:Type} (R:α→List Value→Prop) (w:World) (B sz:Nat) (A:Option Addr) (n:Nat) (l:List α):Prop :=
  ∃ css:List (List Value),l.length=n∧css.length=n∧(∀ (i:Nat) (a:α) (cs:List Value),l[i]? = some a→css[i]? = some cs→R a cs)∧(∀ cs∈css,cs.length=sz)∧Rd w B sz A n css.flatten
theorem kW.len {α:Type} {R:α→List Value→Prop} {w:World} {B sz n:Nat} {A:Option Addr} {l:List α} (h:kW R w B sz A n l):l.length=n:=by
 obtain⟨_,h1,_⟩:=h;exact h1
theorem kW.at {α:Type} {R:α→List Value→Prop} {w:World} {B sz n:Nat} {A:Option Addr} {l:List α} (h:kW R w B sz A n l) {k:Nat} {a:α} (hk:l[k]? = some a) :
    ∃ (b off:Nat) (cs:List Value),A=some ⟨b,off,none⟩∧b<B∧R a cs∧∀ j u,cs[j]? = some u→w.cell? ⟨b,off+k*sz+j,none⟩=some u:=by
 obtain⟨css,h1,h2,h3,h4,h5,h6⟩:=h;have hlt:k<l.length:=(List.getElem?_eq_some_iff.1 hk).1;obtain⟨b,off,e,hb,hc⟩:=h6 (by omega);obtain⟨cs,hcs⟩:∃ cs,css[k]? = some cs:=⟨_,List.getElem?_eq_getElem (by omega)⟩;refine⟨b,off,cs,e,hb,h3 k a cs hk hcs,fun j u hu=>?_⟩;rw [Nat.add_assoc];exact hc _ _ (dX h4 k cs hcs j u hu)
theorem kW.weak {α:Type} {R R':α→List Value→Prop} {w w':World} {B B' sz n:Nat} {A:Option Addr} {l:List α} (h:kW R w B sz A n l) (hR:∀ a cs,R a cs→R' a cs) (hw:∀ xs,Rd w B sz A n xs→Rd w' B' sz A n xs):kW R' w' B' sz A n l:=by
 obtain⟨css,h1,h2,h3,h4,h5⟩:=h;exact⟨css,h1,h2,fun i a cs ha hc=>hR a cs (h3 i a cs ha hc),h4,hw _ h5⟩
structure aE where
  kind:Int
  rune:Int
  set:ag
  name:ByteArray
structure bY where
  start:Bool
  fin:Bool
  before:List aE
  source:List aE
  after:List aE
  aa:Int
structure aF where
  kind:Int
  name:ByteArray
  set:ag
  dir:Int
  left:bY
  right:bY
def lI (n:Int):Prop:=-9223372036854775808≤n∧n≤9223372036854775807
def AF (w:World) (B:Nat) (a:aE) (cs:List Value):Prop :=
  ∃ A n c,cs = [.int .i64 a.kind,.int .i32 a.rune,.slice A n c,.string a.name]∧nD w B A n a.set∧n≤maxLen∧lI a.kind∧a.name.size≤maxLen
def bU (w:World) (B:Nat) (A:Option Addr) (n:Nat) (l:List aE):Prop:=kW (AF w B) w B 4 A n l
def uC (w:World) (B:Nat) (s:bY) (cs:List Value):Prop :=
  ∃ A1 n1 c1 A2 n2 c2 A3 n3 c3,cs = [.bool s.start,.bool s.fin,.slice A1 n1 c1,.slice A2 n2 c2,.slice A3 n3 c3,.int .i64 s.aa] ∧
    bU w B A1 n1 s.before∧bU w B A2 n2 s.source∧bU w B A3 n3 s.after∧n1≤maxLen∧n2≤maxLen∧n3≤maxLen∧lI s.aa
def AM (w:World) (B:Nat) (p:aF) (cs:List Value):Prop :=
  ∃ A n c ls rs,cs = [.int .i64 p.kind,.string p.name,.slice A n c,.int .i64 p.dir]++ls++rs∧nD w B A n p.set∧n≤maxLen∧uC w B p.left ls∧uC w B p.right rs∧lI p.kind∧lI p.dir∧p.name.size≤maxLen
def Ee (w:World) (B:Nat) (A:Option Addr) (n:Nat) (l:List aF):Prop:=kW (AM w B) w B 16 A n l
section
variable {w w' : World} {B B' : Nat}
theorem AF.weak {a:aE} {cs:List Value} (hw:∀ A sz n xs,Rd w B sz A n xs→Rd w' B' sz A n xs) (h:AF w B a cs):AF w' B' a cs:=by
 obtain⟨A,n,c,e,h1,h2⟩:=h;exact⟨A,n,c,e,hw _ _ _ _ h1,h2⟩
theorem bU.weak {A:Option Addr} {n:Nat} {l:List aE} (hw:∀ A sz n xs,Rd w B sz A n xs→Rd w' B' sz A n xs) (h:bU w B A n l):bU w' B' A n l :=
  kW.weak h (fun _ _=>AF.weak hw) (hw _ _ _)
theorem uC.weak {s:bY} {cs:List Value} (hw:∀ A sz n xs,Rd w B sz A n xs→Rd w' B' sz A n xs) (h:uC w B s cs):uC w' B' s cs:=by
 obtain⟨A1,n1,c1,A2,n2,c2,A3,n3,c3,e,h1,h2,h3,h4⟩:=h;exact⟨A1,n1,c1,A2,n2,c2,A3,n3,c3,e,bU.weak hw h1,bU.weak hw h2,bU.weak hw h3,h4⟩
theorem AM.weak {p:aF} {cs:List Value} (hw:∀ A sz n xs,Rd w B sz A n xs→Rd w' B' sz A n xs) (h:AM w B p cs):AM w' B' p cs:=by
 obtain⟨A,n,c,ls,rs,e,h1,h2,h3,h4,h5⟩:=h;exact⟨A,n,c,ls,rs,e,hw _ _ _ _ h1,h2,uC.weak hw h3,uC.weak hw h4,h5⟩
theorem Ee.weak {A:Option Addr} {n:Nat} {l:List aF} (hw:∀ A sz n xs,Rd w B sz A n xs→Rd w' B' sz A n xs) (h:Ee w B A n l):Ee w' B' A n l :=
  kW.weak h (fun _ _=>AM.weak hw) (hw _ _ _)
theorem gn (hb:Below B w w') (hB:B≤B'):∀ A sz n xs,Rd w B sz A n xs→Rd w' B' sz A n xs:=fun _ _ _ _ h=>Rd.more (Rd.below h hb) hB
end
end Go.Proofs.YthgkedoildcbcaaGreatDoor
namespace Go.Proofs.YthgkedoildcbcaaGreatDoor
open Go.RowKit
def o8 (a:aE):Int :=
  if a.kind=1 then (if bg a.rune=true then 0 else 3)else if a.kind=2 then bS a.set else if a.kind=3 then (if eI a.name=true then 0 else 7)else 1
def Mp (a:aE) (A:Option Addr) (n c:Nat):Value:=.agg #[.int .i64 a.kind,.int .i32 a.rune,.slice A n c,.string a.name]
theorem uo {w:World} {A:Option Addr} {n:Nat} {l:ag} (h:nD w w.heap.size A n l) (o:Obj):nD (w.alloc o) (w.alloc o).heap.size A n l :=
  gn ((Below.refl _ _).alloc (Nat.le_refl _) o) (by simp) _ _ _ _ h
theorem BD (a:aE) (A:Option Addr) (n c:Nat) (w:World) (hn:n≤9223372036854775807) (hs:nD w w.heap.size A n a.set) :
    Calls Tryz.prog 114 #[Mp a A n c] w fun e w'=>e=.returned (.int .i64 (o8 a))∧Below w.heap.size w w':=by
 obtain⟨kind,rune,set,name⟩:=a;have hbA:∀ o,Below w.heap.size w (w.alloc o):=fun o=>(Below.refl _ _).alloc (Nat.le_refl _) o;have HS:=qqh (uo hs);have HB:=qqh hbA;clear hs hbA;unfold Mp o8;dsimp only;by_cases h1:kind=1
 ·subst h1;rw [if_pos rfl];cases hr:bg rune
  all_goals
    go_enter Tryz.func114,Tryz.ntmps114
    go_wp2_with (go_at_call 29;refine(gY _ _).mono ?_;rintro e w' ⟨rfl,rfl⟩;rw [hr])
    go_ret
    exact⟨rfl,HB.out _⟩
 by_cases h2:kind=2
 ·subst h2;rw [if_neg h1,if_pos rfl];go_enter Tryz.func114,Tryz.ntmps114;go_wp2_with fail;refine(jA A n c set _ hn (HS.out _)).mono ?_;rintro e w' ⟨rfl,hb⟩;go_wp2_with fail;go_ret;exact⟨rfl,(HB.out _).trans (hb.mono (by simp))⟩
 have e1:(kind == 1)=false:=(by simpa using h1);have e2:(kind == 2)=false:=(by simpa using h2);by_cases h3:kind=3
 ·subst h3;rw [if_neg h1,if_neg h2,if_pos rfl];cases hr:eI name
  all_goals
    go_enter Tryz.func114,Tryz.ntmps114
    go_wp2_with (go_at_call 88;refine(jE _ _).mono ?_;rintro e w' ⟨rfl,rfl⟩;rw [hr])
    go_ret
    exact⟨rfl,HB.out _⟩
 have e3:(kind == 3)=false:=(by simpa using h3);rw [if_neg h1,if_neg h2,if_neg h3];clear h1 h2 h3;go_enter Tryz.func114,Tryz.ntmps114;go_wp2_with fail;go_ret;exact⟨rfl,HB.out _⟩
end Go.Proofs.YthgkedoildcbcaaGreatDoor
namespace Go.Proofs.YthgkedoildcbcaaGreatDoor
open Go.RowKit
def mj:List aE→Int
  | []=>0
  | a::r=>if o8 a=0 then mj r else o8 a
def cG (l:List aE):Int:=if 20<l.length then 5 else mj l
theorem wK {w:World} {B n:Nat} {A:Option Addr} {l:List aE} (h:bU w B A n l) {k:Nat} {a:aE} (hk:l[k]? = some a) :
    ∃ (b off:Nat) (A':Option Addr) (n' c':Nat),A=some ⟨b,off,none⟩∧b<B∧w.cell? ⟨b,off+k*4,none⟩=some (.int .i64 a.kind)∧w.cell? ⟨b,off+k*4+1,none⟩=some (.int .i32 a.rune) ∧
      w.cell? ⟨b,off+k*4+2,none⟩=some (.slice A' n' c')∧w.cell? ⟨b,off+k*4+3,none⟩=some (.string a.name)∧nD w B A' n' a.set∧n'≤maxLen∧lI a.kind∧a.name.size≤maxLen:=by
 obtain⟨b,off,cs,e,hb,⟨A',n',c',hcs,h1,h2,h3,h4⟩,hc⟩:=kW.at h hk;subst hcs;exact⟨b,off,A',n',c',e,hb,hc 0 _ rfl,hc 1 _ rfl,hc 2 _ rfl,hc 3 _ rfl,h1,h2,h3,h4⟩
def WE (W:World) (l:List aE) (n:Nat) (i:Value) (wr:World):Prop :=
  ∃ k:Nat,k≤n∧i=.int .i64 k∧mj l=mj (l.drop k)∧Below W.heap.size W wr
end Go.Proofs.YthgkedoildcbcaaGreatDoor
namespace Go.Proofs.YthgkedoildcbcaaGreatDoor
open Go.RowKit
def fE:List (List aE)→Int
  | []=>0
  | l::r=>if cG l=0 then fE r else cG l
def bT (s:bY) (gz:Bool):Int :=
  if fE [s.before,s.source,s.after] = 0 then
    (if s.aa < -1∨(s.source.length:Int)<s.aa then 3 else if gz=true∧s.source.length=0 then 6 else 0)
  else fE [s.before,s.source,s.after]
def gS (l:List aE):Bool:=l.all fun a=>a.kind == 1
def nE (s:bY):Bool:=s.start || s.fin || decide (0<s.before.length) || decide (0<s.after.length)
theorem mw {l:List aE} (h:cG l=0):l.length≤20:=by
 unfold cG at h;by_cases h1:20<l.length
 ·rw [if_pos h1]at h;cases h
 omega
theorem FM {w:World} {A:Option Addr} {n:Nat} {l:List aE} (h:bU w w.heap.size A n l) (o:Obj):bU (w.alloc o) (w.alloc o).heap.size A n l :=
  bU.weak (gn ((Below.refl _ _).alloc (Nat.le_refl _) o) (by simp)) h
theorem aM {w w':World} {A:Option Addr} {n:Nat} {l:List aE} (h:bU w w.heap.size A n l) (hb:Below w.heap.size w w'):bU w' w'.heap.size A n l :=
  bU.weak (gn hb hb.size) h
end Go.Proofs.YthgkedoildcbcaaGreatDoor
namespace Go.Proofs.YthgkedoildcbcaaGreatDoor
open Go.RowKit
theorem Ga (a:aE) (l:List aE):gS (a::l)=((a.kind == 1) && gS l):=rfl
def Vk (W:World) (l:List aE) (n:Nat) (i:Value) (wr:World):Prop :=
  ∃ k:Nat,k≤n∧i=.int .i64 k∧gS l=gS (l.drop k)∧Below W.heap.size W wr
theorem ic (s:bY) (A1 A2 A3:Option Addr) (n1 n2 n3 c1 c2 c3:Nat) (w:World) (h1:s.before.length=n1) (h3:s.after.length=n3) (m1:n1≤20) (m3:n3≤20) :
    Calls Tryz.prog 92 #[.agg #[.bool s.start,.bool s.fin,.slice A1 n1 c1,.slice A2 n2 c2,.slice A3 n3 c3,.int .i64 s.aa]] w fun e w'=>e=.returned (.bool (!nE s))∧Below w.heap.size w w':=by
 have hv:nE s=(s.start || s.fin || decide (0<n1) || decide (0<n3)):=(by unfold nE;rw [h1,h3]);rw [hv];clear hv h1 h3;obtain⟨start,fin,before,l,after,aa⟩:=s;dsimp only;cases start <;> cases fin
 ·go_enter Tryz.func92,Tryz.ntmps92;go_wp2_with fail;go_ret;exact⟨bB (by rw [Bool.eq_iff_iff];simp;omega),(Below.refl _ _).alloc (Nat.le_refl _) _⟩
 all_goals
   go_enter Tryz.func92,Tryz.ntmps92
   go_wp2_with fail
   go_ret
   exact⟨bB (by simp),(Below.refl _ _).alloc (Nat.le_refl _) _⟩
theorem Mr (a:aE) (A:Option Addr) (n c:Nat) (w:World) :
    Calls Tryz.prog 116 #[.agg #[.int .i64 a.kind,.int .i32 a.rune,.slice A n c,.string a.name]] w fun e w'=>e=.returned (.bool (a.kind != 1))∧Below w.heap.size w w':=by
 go_enter Tryz.func116,Tryz.ntmps116;go_wp2_with fail;go_ret;exact⟨rfl,(Below.refl _ _).alloc (Nat.le_refl _) _⟩
end Go.Proofs.YthgkedoildcbcaaGreatDoor
namespace Go.Proofs.YthgkedoildcbcaaGreatDoor
open Go.RowKit
theorem Gh (A:Option Addr) (n c:Nat) (l:List aE) (fv:Value) (Yd:fv=.func (.func 116) #[] #[]) (w:World) (hl:bU w w.heap.size A n l) (m:n≤maxLen) :
    Calls Tryz.prog 134 #[.slice A n c,fv] w fun e w'=>(∃ z:Int,e=.returned (.int .i64 z)∧(decide (0≤z) = !gS l))∧Below w.heap.size w w':=by
 subst Yd;have aV:=qqh (kW.len hl);have HL:=qqh hl;have hn2:n≤9223372036854775807:=(by unfold maxLen at m;omega);clear hl m;go_enter Tryz.func134,Tryz.ntmps134;go_wp2_with fail;go_loopw [8] (Vk w l n) (fun i _=>n - (intOf i).toNat);(case atStart=>exact⟨0,Nat.zero_le _,rfl,rfl,Below.refl _ _⟩);obtain⟨k,hk,rfl,aX,hb⟩:=hrel;have hz:=hb.size;by_cases hlt:k<n
 ·obtain⟨a,ha⟩:∃ z,l[k]? = some z:=⟨_,List.getElem?_eq_getElem (by rw [aV.out];exact hlt)⟩;rw [cB ha,Ga]at aX;obtain⟨b,off,A',n',c',rfl,dL,c0,TO,QF,c3',_,_,_,_⟩:=wK HL.out ha;have d0:=(hb.cell (p:=⟨b,off+k*4,none⟩) dL).trans c0;have d1:=(hb.cell (p:=⟨b,off+k*4+1,none⟩) dL).trans TO;have d2:=(hb.cell (p:=⟨b,off+k*4+2,none⟩) dL).trans QF;have d3:=(hb.cell (p:=⟨b,off+k*4+3,none⟩) dL).trans c3';have HT:=qqh (Mr a A' n' c' wr);clear c0 TO QF c3';by_cases hk1:a.kind=1
  ·have HG:=qqh (aX.trans (show(a.kind == 1 && gS (l.drop (k+1)))=gS (l.drop (k+1)) by simp [hk1]));have hk2:(a.kind != 1)=false:=(by simpa using hk1);clear aX hk1;go_wp2_with fail;refine HT.out.mono ?_;rintro e w2 ⟨rfl,bu⟩;have bN:=hb.trans (bu.mono hz);rw [hk2];clear bu;go_wp2_with fail;exact⟨⟨k+1,by omega,by go_num,HG.out,bN⟩,by simp [intOf];omega⟩
  have HG:=qqh (aX.trans (show(a.kind == 1 && gS (l.drop (k+1)))=false by simp [hk1]));have hk2:(a.kind != 1)=true:=(by simpa using hk1);clear aX hk1;go_wp2_with fail;refine HT.out.mono ?_;rintro e w2 ⟨rfl,bu⟩;have bN:=hb.trans (bu.mono hz);rw [hk2];clear bu;go_wp2_with fail;go_ret;exact⟨⟨_,rfl,by rw [HG.out];simp⟩,bN⟩
 obtain rfl:k=n:=(by omega);rw [List.drop_of_length_le (by rw [aV.out];omega)]at aX;have HG:=qqh (aX.trans (show gS [] = true from rfl));clear aX;go_wp2_with fail;go_ret;exact⟨⟨_,rfl,by rw [HG.out];simp⟩,hb⟩
theorem MI (A:Option Addr) (n c:Nat) (l:List aE) (fv:Value) (Yd:fv=.func (.func 116) #[] #[]) (w:World) (hl:bU w w.heap.size A n l) (m:n≤maxLen) :
    Calls Tryz.prog 115 #[.slice A n c,fv] w fun e w'=>e=.returned (.bool (!gS l))∧Below w.heap.size w w':=by
 have H:=qqh (Gh A n c l fv Yd w hl m);clear hl m Yd;go_enter Tryz.func115,Tryz.ntmps115;go_wp2_with fail;refine H.out.mono ?_;rintro e w2 ⟨⟨z,rfl,hz⟩,hb⟩;have HZ:=qqh hz;clear hz;go_wp2_with fail;go_ret;exact⟨bB HZ.out,hb⟩
theorem iq (s:bY) (A1 A2 A3:Option Addr) (n1 n2 n3 c1 c2 c3:Nat) (w:World) (h2:bU w w.heap.size A2 n2 s.source) (m2:n2≤maxLen) :
    Calls Tryz.prog 91 #[.agg #[.bool s.start,.bool s.fin,.slice A1 n1 c1,.slice A2 n2 c2,.slice A3 n3 c3,.int .i64 s.aa]] w fun e w'=>e=.returned (.bool (gS s.source))∧Below w.heap.size w w':=by
 obtain⟨start,fin,before,l,after,aa⟩:=s;dsimp only at h2 ⊢;have H:=qqh (fun o=>MI A2 n2 c2 l _ rfl (w.alloc o) (FM h2 o) m2);have HB:=qqh (fun o=>(Below.refl w.heap.size w).alloc (Nat.le_refl _) o);clear h2 m2;go_enter Tryz.func91,Tryz.ntmps91;go_wp2_with fail;refine(H.out _).mono ?_;rintro e w2 ⟨rfl,hb⟩;have bu:=(HB.out _).trans (hb.mono (by simp));clear hb;go_wp2_with fail;go_ret;exact⟨bB (by simp),bu⟩
end Go.Proofs.YthgkedoildcbcaaGreatDoor
namespace Go.Proofs.YthgkedoildcbcaaGreatDoor
open Go.RowKit
def Vj (W:World) (s:bY) (i:Value) (wr:World):Prop :=
  ∃ j:Nat,j≤3∧i=.int .i64 j∧fE [s.before,s.source,s.after] = fE ([s.before,s.source,s.after].drop j)∧Below W.heap.size W wr
theorem all_cons (l:List aE) (r:List (List aE)):fE (l::r)=if cG l=0 then fE r else cG l:=rfl
theorem IL (s:bY) (W:World) (A1 A2 A3:Option Addr) (n1 n2 n3 c1 c2 c3:Nat) (h1:bU W W.heap.size A1 n1 s.before) (h2:bU W W.heap.size A2 n2 s.source) (h3:bU W W.heap.size A3 n3 s.after) (m1:n1≤maxLen) (m2:n2≤maxLen) (m3:n3≤maxLen) (j:Nat) (hj:j<3) :
    ∃ (A:Option Addr) (n c:Nat) (l:List aE),(#[.slice A1 n1 c1,.slice A2 n2 c2,.slice A3 n3 c3]:Array Value)[j]? = some (.slice A n c)∧bU W W.heap.size A n l∧n≤maxLen ∧ [s.before,s.source,s.after].drop j=l::[s.before,s.source,s.after].drop (j+1):=by
 match j,hj with
 | 0,_=>exact⟨A1,n1,c1,s.before,rfl,h1,m1,rfl⟩
 | 1,_=>exact⟨A2,n2,c2,s.source,rfl,h2,m2,rfl⟩
 | 2,_=>exact⟨A3,n3,c3,s.after,rfl,h3,m3,rfl⟩
theorem iu (s:bY) (gz:Bool) (A1 A2 A3:Option Addr) (n1 n2 n3 c1 c2 c3:Nat) (w:World) (h1:bU w w.heap.size A1 n1 s.before) (h2:bU w w.heap.size A2 n2 s.source) (h3:bU w w.heap.size A3 n3 s.after) (m1:n1≤maxLen) (m2:n2≤maxLen) (m3:n3≤maxLen) :
    Calls Tryz.prog 90 #[.agg #[.bool s.start,.bool s.fin,.slice A1 n1 c1,.slice A2 n2 c2,.slice A3 n3 c3,.int .i64 s.aa],.bool gz] w fun e w'=>e=.returned (.int .i64 (bT s gz))∧Below w.heap.size w w':=by
 have jo:=kW.len h2;generalize hcs:(#[.bool s.start,.bool s.fin,.slice A1 n1 c1,.slice A2 n2 c2,.slice A3 n3 c3,.int .i64 s.aa]:Array Value)=cs;have aW:Below w.heap.size w (w.alloc (.cells cs 95)):=(Below.refl _ _).alloc (Nat.le_refl _) _;have bu:Below w.heap.size w ((w.alloc (.cells cs 95)).alloc (.cells #[.slice A1 n1 c1,.slice A2 n2 c2,.slice A3 n3 c3] 93)):=aW.alloc aW.size _;have hk1:ai ((w.alloc (.cells cs 95)).alloc (.cells #[.slice A1 n1 c1,.slice A2 n2 c2,.slice A3 n3 c3] 93)) w.heap.size 95 cs:=(ai.new _ _ _).alloc _;have hk2:ai ((w.alloc (.cells cs 95)).alloc (.cells #[.slice A1 n1 c1,.slice A2 n2 c2,.slice A3 n3 c3] 93)) (w.heap.size+1) 93 #[.slice A1 n1 c1,.slice A2 n2 c2,.slice A3 n3 c3]:=by
  have:=ai.new (w.alloc (.cells cs 95)) 93 #[.slice A1 n1 c1,.slice A2 n2 c2,.slice A3 n3 c3];simpa using this
 have iI:=qqh (IL s _ A1 A2 A3 n1 n2 n3 c1 c2 c3 (aM h1 bu) (aM h2 bu) (aM h3 bu) m1 m2 m3);have hm2:n2≤9223372036854775807:=(by unfold maxLen at m2;omega);have HB:=qqh bu;have Oe:=qqh hk1;have Ra:=qqh hk2;clear h1 h2 h3 m1 m2 m3 aW bu hk1 hk2;subst hcs;go_enter Tryz.func90,Tryz.ntmps90;go_wp2_with fail;generalize hW:((w.alloc (.cells #[.bool s.start,.bool s.fin,.slice A1 n1 c1,.slice A2 n2 c2,.slice A3 n3 c3,.int .i64 s.aa] 95)).alloc (.cells #[.slice A1 n1 c1,.slice A2 n2 c2,.slice A3 n3 c3] 93))=W at *;clear hW;go_loopw [18] (Vj W s) (fun i _=>3 - (intOf i).toNat);(case atStart=>exact⟨0,by omega,rfl,rfl,Below.refl _ _⟩);obtain⟨j,hj,rfl,hall,hb⟩:=hrel;have hz:=hb.size;by_cases hj3:j<3
 ·obtain⟨A,n,c,l,hc,hl,hm,hd⟩:=iI.out j hj3;rw [hd,all_cons l]at hall;have dj:wr.cell? ⟨w.heap.size+1,j,none⟩=some (.slice A n c):=by
   rw [(ai.below Ra.out hb Ra.out.lt).cell j];exact hc
  have ht:decide ((j:Int)<3)=true:=decide_eq_true (by omega);have aV:=qqh (kW.len hl);have HL:=qqh hl;have hn:n≤9223372036854775807:=(by unfold maxLen at hm;omega);clear hl hc hd hm;by_cases h20:20<n
  ·have YW:cG l=5:=(by unfold cG;rw [if_pos (by rw [aV.out];exact h20)]);rw [if_neg (by rw [YW];decide),YW]at hall;have HV:=qqh (show bT s gz=5 by unfold bT;rw [hall];rfl);clear hall YW;go_wp2_with fail;go_ret;rw [HV.out];exact⟨rfl,HB.out.trans (hb.mono HB.out.size)⟩
  have hlg:cG l=mj l:=(by unfold cG;rw [if_neg (by rw [aV.out];exact h20)]);rw [hlg]at hall;have HA:=qqh hall;clear hall hlg;go_wp2_with fail;go_loopw [27] (WE W l n) (fun i _=>n - (intOf i).toNat);(case atStart=>exact⟨0,Nat.zero_le _,rfl,rfl,hb⟩);clear hb hz;obtain⟨k,hk,rfl,aX,hb⟩:=hrel;have hz:=hb.size;by_cases hlt:k<n
  ·obtain⟨a,ha⟩:∃ z,l[k]? = some z:=⟨_,List.getElem?_eq_getElem (by rw [aV.out];exact hlt)⟩;rw [cB ha,mj]at aX;obtain⟨b,off,A',n',c',rfl,dL,d0,d1,d2,d3,zJ,hn',_,hnm⟩:=wK HL.out ha;have d0:=(hb.cell (p:=⟨b,off+k*4,none⟩) dL).trans d0;have d1:=(hb.cell (p:=⟨b,off+k*4+1,none⟩) dL).trans d1;have d2:=(hb.cell (p:=⟨b,off+k*4+2,none⟩) dL).trans d2;have d3:=(hb.cell (p:=⟨b,off+k*4+3,none⟩) dL).trans d3;have aW:=fun o=>hb.alloc hz o;have HI:=qqh (fun o=>BD a A' n' c' (World.alloc _ o) (by unfold maxLen at hn';omega) (Rd.more (Rd.below zJ (aW o)) (by simp;omega)));have b7:=qqh aW;clear zJ aW hnm hn';unfold Mp at HI;by_cases hi:o8 a=0
   ·rw [if_pos hi]at aX;have HG:=qqh aX;clear aX;go_wp2_with fail;refine(HI.out _).mono ?_;rintro e w2 ⟨rfl,bu⟩;rw [hi];have bN:=(b7.out _).trans (bu.mono (by simp;omega));have bL:=qqh bN;clear bu bN;go_wp2_with fail;exact⟨⟨k+1,by omega,by go_num,HG.out,bL.out⟩,by simp [intOf];omega⟩
   rw [if_neg hi]at aX;have hi2:(o8 a != 0)=true:=(by simpa using hi);have Qh:=HA.out;rw [aX,if_neg hi]at Qh;have HV:=qqh (show bT s gz=o8 a by unfold bT;rw [Qh,if_neg hi]);clear aX hi Qh;go_wp2_with fail;refine(HI.out _).mono ?_;rintro e w2 ⟨rfl,bu⟩;have bN:=(b7.out _).trans (bu.mono (by simp;omega));have bL:=qqh bN;clear bu bN;go_wp2_with fail;go_ret;rw [HV.out];exact⟨rfl,HB.out.trans (bL.out.mono HB.out.size)⟩
  obtain rfl:k=n:=(by omega);rw [List.drop_of_length_le (by rw [aV.out];omega)]at aX;have Qh:=HA.out;rw [aX,if_pos (show mj [] = 0 from rfl)]at Qh;have HG:=qqh Qh;clear aX Qh;go_wp2_with fail;exact⟨⟨j+1,by omega,by go_num,HG.out,hb⟩,by simp [intOf];omega⟩
 obtain rfl:j=3:=(by omega);have ha0:fE [s.before,s.source,s.after] = 0:=hall;have iS:=ai.below Oe.out hb Oe.out.lt;have d3:wr.cell? ⟨w.heap.size,3,none⟩=some (.slice A2 n2 c2):=iS.cell 3;have d5:wr.cell? ⟨w.heap.size,5,none⟩=some (.int .i64 s.aa):=iS.cell 5;have hb0:=HB.out.trans (hb.mono HB.out.size);have HS:=qqh (show bT s gz=if s.aa < -1∨(n2:Int)<s.aa then 3 else if gz=true∧n2=0 then 6 else 0 by unfold bT;rw [if_pos ha0,jo]);clear hall ha0 iS jo;have dO:=qqh hb0;clear hb0;by_cases hc:s.aa < -1∨(n2:Int)<s.aa
 ·have HV:=qqh (show bT s gz=3 by rw [HS.out,if_pos hc]);rcases (show s.aa < -1∨(-1≤s.aa∧(n2:Int)<s.aa) by omega)with h | ⟨h,h'⟩
  all_goals
    clear hc
    go_wp2_with fail
    go_ret
    rw [HV.out]
    exact⟨rfl,dO.out⟩
 have hc1 : -1≤s.aa:=(by omega);have hc2:s.aa≤n2:=(by omega);cases hmust:gz
 ·have HV:=qqh (show bT s false=0 by rw [← hmust,HS.out,if_neg hc,hmust];simp);subst hmust;clear hc;go_wp2_with fail;go_ret;rw [HV.out];exact⟨rfl,dO.out⟩
 subst hmust;by_cases h0:n2=0
 ·have HV:=qqh (show bT s true=6 by rw [HS.out,if_neg hc,h0];simp);have yW:((n2:Int) == 0)=true:=(by simp;omega);clear hc;go_wp2_with fail;go_ret;rw [HV.out];exact⟨rfl,dO.out⟩
 have HV:=qqh (show bT s true=0 by rw [HS.out,if_neg hc];simp [h0]);have yW:((n2:Int) == 0)=false:=(by simp;omega);clear hc;go_wp2_with fail;go_ret;rw [HV.out];exact⟨rfl,dO.out⟩
end Go.Proofs.YthgkedoildcbcaaGreatDoor
namespace Go.Proofs.YthgkedoildcbcaaGreatDoor
open Go.RowKit
def vO (dir:Int) (left right:bY):Bool :=
  (dir == 2 || gS right.source) && (dir == 1 || gS left.source) && (dir != 1 || (!nE right && decide (left.aa<0))) && (dir != 2 || (!nE left && decide (right.aa<0)))
def de (dir:Int) (left right:bY):Int :=
  if dir<1∨3<dir then 1
  else if bT left (dir != 2)=0 then (if bT right (dir != 1)=0 then (if vO dir left right=true then 0 else 8)else bT right (dir != 1))
  else bT left (dir != 2)
def gy (p:aF):Int :=
  if p.kind=1 then (if eI p.name=true then bS p.set else 7)
  else if p.kind=3 then bS p.set
  else if p.kind=4 then (if kE p.name=true then 0 else 7)
  else if p.kind=2 then de p.dir p.left p.right
  else 1
theorem Jv {s:bY} (h:fE [s.before,s.source,s.after] = 0):s.before.length≤20∧s.source.length≤20∧s.after.length≤20:=by
 simp only [fE]at h;by_cases h1:cG s.before=0
 ·rw [if_pos h1]at h;by_cases h2:cG s.source=0
  ·rw [if_pos h2]at h;by_cases h3:cG s.after=0;exact⟨mw h1,mw h2,mw h3⟩;rw [if_neg h3]at h;exact absurd h h3
  rw [if_neg h2]at h;exact absurd h h2
 rw [if_neg h1]at h;exact absurd h h1
theorem eo {s:bY} {gz:Bool} (h:bT s gz=0):s.before.length≤20∧s.source.length≤20∧s.after.length≤20:=by
 unfold bT at h;by_cases h1:fE [s.before,s.source,s.after] = 0;exact Jv h1;rw [if_neg h1]at h;exact absurd h h1
end Go.Proofs.YthgkedoildcbcaaGreatDoor
