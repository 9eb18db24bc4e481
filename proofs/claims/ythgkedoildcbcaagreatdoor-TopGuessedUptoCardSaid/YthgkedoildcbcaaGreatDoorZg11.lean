/- RuleFoot + SetNot + ConcatS + FileP + ItemOk + BareD + PartX + ResolveP + SameI + ShFree -/
import Derived.Test.YthgkedoildcbcaaGreatDoorZg10
import Derived.Test.YthgkedoildcbcaaGreatDoorZg6
import Derived.Test.YthgkedoildcbcaaGreatDoorZg3
import Derived.Deep.Strs
import Derived.Test.YthgkedoildcbcaaGreatDoorZg9
import Derived.BigRegion
import Derived.Lib.AppendZeros
import Derived.Lib.SliceRun
import Derived.Lib.Strings
import Derived.Deep.QuietTactic
import Derived.BigQuiet
set_option maxHeartbeats 1600000
set_option maxRecDepth 100000
namespace Go.Proofs.YthgkedoildcbcaaGreatDoor
open Go.RowKit
def cE (w:World) (X:Nat→Prop) (sz:Nat) (A:Option Addr) (n:Nat) (xs:List Value):Prop :=
  xs.length=n*sz∧(0<n→∃ b off,A=some ⟨b,off,none⟩∧X b∧b<w.heap.size∧∀ j u,xs[j]? = some u→w.cell? ⟨b,off+j,none⟩=some u)
def aa (w:World) (X:Nat→Prop) (w':World) (X':Nat→Prop):Prop:=∀ b,X b→b<w.heap.size→w'.heap[b]? = w.heap[b]?∧X' b∧b<w'.heap.size
section
variable {w w' w2 : World} {X X' X2 : Nat → Prop} {sz n : Nat} {A : Option Addr} {xs : List Value}
theorem aa.refl (h:∀ b,X b→X' b):aa w X w X':=fun b hb hl=>⟨rfl,h b hb,hl⟩
theorem aa.trans (h:aa w X w' X') (h2:aa w' X' w2 X2):aa w X w2 X2:=fun b hb hl=>
  let ⟨e,hx,hl'⟩:=h b hb hl
  let ⟨e2,hx2,ia⟩:=h2 b hx hl'
  ⟨e2.trans e,hx2,ia⟩
theorem aa.below (hb:Below w.heap.size w w') (h:∀ b,X b→b<w.heap.size→X' b):aa w X w' X':=fun b hx hl=>⟨hb.block b hl,h b hx hl,Nat.lt_of_lt_of_le hl hb.size⟩
theorem aa.alloc (o:Obj) (h:∀ b,X b→b<w.heap.size→X' b):aa w X (w.alloc o) X':=fun b hx hl=>⟨heap_alloc_old w o hl,h b hx hl,by simp;omega⟩
theorem aa.app {base n:Nat} {e:TypeId} {v v':Value} (ha:aY base e sz v w n xs v' w') (hX:∀ b,X b→v.ownBlock≠some b) (h:∀ b,X b→b<w.heap.size→X' b):aa w X w' X' :=
  fun b hx hl=>⟨ha.2.1.block b hl (fun e=>hX b hx e.symm),h b hx hl,Nat.lt_of_lt_of_le hl ha.2.1.size⟩
theorem aa.setCell {p:Addr} (u:Value) (hX:∀ b,X b→b≠p.block) (h:∀ b,X b→b<w.heap.size→X' b):aa w X (w.setCell p u) X' :=
  fun b hx hl=>⟨Below.heap_setCell _ _ _ _ (hX b hx),h b hx hl,by simpa using hl⟩
theorem cE.keep (hk:aa w X w' X') (h:cE w X sz A n xs):cE w' X' sz A n xs:=by
 refine⟨h.1,fun hn=>?_⟩;obtain⟨b,off,e,hx,hl,hc⟩:=h.2 hn;obtain⟨he,hx',hl'⟩:=hk b hx hl;exact⟨b,off,e,hx',hl',fun j u hu=>(World.cell?_of_block (w:=w) he).trans (hc j u hu)⟩
theorem cE.rd {B:Nat} (h:cE w X sz A n xs) (hB:∀ b,X b→b<w.heap.size→b<B):Rd w B sz A n xs :=
  ⟨h.1,fun hn=>let ⟨b,off,e,hx,hl,hc⟩:=h.2 hn;⟨b,off,e,hB b hx hl,hc⟩⟩
theorem cE.FP {B:Nat} (h:Rd w B sz A n xs) (hB:B≤w.heap.size) (hX:∀ b,b<B→X b):cE w X sz A n xs :=
  ⟨h.1,fun hn=>let ⟨b,off,e,hb,hc⟩:=h.2 hn;⟨b,off,e,hX b hb,Nat.lt_of_lt_of_le hb hB,hc⟩⟩
theorem cE.ck {base c:Nat} {e:TypeId} (h:w.ownsRow base e sz (.slice A n c) n xs) (hX:∀ b,(Value.slice A n c).ownBlock=some b→X b):cE w X sz A n xs:=by
 refine⟨h.1,fun hn=>?_⟩;rcases h.2 with ⟨hv,h0⟩ | ⟨g,cap,cur,hv,hg,hh,hr⟩;omega;injection hv with hA;subst hA;refine⟨g,0,rfl,hX g rfl,(Array.getElem?_eq_some_iff.1 hh).1,fun j u hu=>?_⟩;have:=World.ownsRow.cells h (g:=g) rfl j u hu;rwa [gT]at this
theorem cE.new (t:TypeId) (cs:List Value) (hl:cs.length=n*sz) (hX:X w.heap.size):cE (w.alloc (.cells cs.toArray t)) X sz (some ⟨w.heap.size,0,none⟩) n cs:=by
 refine⟨hl,fun _=>⟨_,_,rfl,hX,by simp,fun j u hu=>?_⟩⟩;rw [(ai.new w t cs.toArray).cell,Nat.zero_add];simpa using hu
end
def bH {α:Type} (R:α→List Value→Prop) (w:World) (X:Nat→Prop) (sz:Nat) (A:Option Addr) (n:Nat) (l:List α):Prop :=
  ∃ css:List (List Value),l.length=n∧css.length=n∧(∀ (i:Nat) (a:α) (cs:List Value),l[i]? = some a→css[i]? = some cs→R a cs)∧(∀ cs∈css,cs.length=sz)∧cE w X sz A n css.flatten
theorem bH.len {α:Type} {R:α→List Value→Prop} {w:World} {X:Nat→Prop} {sz n:Nat} {A:Option Addr} {l:List α} (h:bH R w X sz A n l):l.length=n:=by
 obtain⟨_,h1,_⟩:=h;exact h1
theorem bH.keep {α:Type} {R R':α→List Value→Prop} {w w':World} {X X':Nat→Prop} {sz n:Nat} {A:Option Addr} {l:List α} (hk:aa w X w' X') (hR:∀ a cs,R a cs→R' a cs) (h:bH R w X sz A n l):bH R' w' X' sz A n l:=by
 obtain⟨css,h1,h2,h3,h4,h5⟩:=h;exact⟨css,h1,h2,fun i a cs ha hc=>hR a cs (h3 i a cs ha hc),h4,h5.keep hk⟩
theorem bH.at {α:Type} {R:α→List Value→Prop} {w:World} {X:Nat→Prop} {sz n:Nat} {A:Option Addr} {l:List α} (h:bH R w X sz A n l) {k:Nat} {a:α} (hk:l[k]? = some a) :
    ∃ (b off:Nat) (cs:List Value),A=some ⟨b,off,none⟩∧X b∧b<w.heap.size∧R a cs∧cs.length=sz∧∀ j u,cs[j]? = some u→w.cell? ⟨b,off+k*sz+j,none⟩=some u:=by
 obtain⟨css,h1,h2,h3,h4,h5,h6⟩:=h;have hlt:k<l.length:=(List.getElem?_eq_some_iff.1 hk).1;obtain⟨b,off,e,hx,hb,hc⟩:=h6 (by omega);obtain⟨cs,hcs⟩:∃ cs,css[k]? = some cs:=⟨_,List.getElem?_eq_getElem (by omega)⟩;refine⟨b,off,cs,e,hx,hb,h3 k a cs hk hcs,h4 cs (List.mem_of_getElem? hcs),fun j u hu=>?_⟩;rw [Nat.add_assoc];exact hc _ _ (dR h4 k cs hcs j u hu)
def cL {α:Type} (R:α→List Value→Prop) (T:TypeId) (sz:Nat) (w:World) (base:Nat) (v:Value) (l:List α):Prop :=
  ∃ css:List (List Value),css.length=l.length∧(∀ (i:Nat) (a:α) (cs:List Value),l[i]? = some a→css[i]? = some cs→R a cs)∧(∀ cs∈css,cs.length=sz)∧w.ownsRow base T sz v l.length css.flatten
section
variable {α : Type} {R R' : α → List Value → Prop} {T : TypeId} {sz base : Nat} {w w' : World} {v v' : Value} {l : List α}
theorem cL.nil (w:World) (base:Nat):cL R T sz w base (.slice none 0 0) []:=⟨[],rfl,by simp,by simp,World.ownsRow_nil _ _ _ _⟩
theorem cL.form (h:cL R T sz w base v l):∃ A c,v=.slice A l.length c∧l.length≤c:=by
 obtain⟨_,_,_,_,h4⟩:=h;exact aI h4
theorem cL.weak (hR:∀ a cs,R a cs→R' a cs) (h:cL R T sz w base v l):cL R' T sz w base v l:=by
 obtain⟨css,h1,h2,h3,h4⟩:=h;exact⟨css,h1,fun i a cs ha hc=>hR a cs (h2 i a cs ha hc),h3,h4⟩
theorem cL.kept (hw:∀ n xs,w.ownsRow base T sz v n xs→w'.ownsRow base T sz v n xs) (hR:∀ a cs,R a cs→R' a cs) (h:cL R T sz w base v l):cL R' T sz w' base v l:=by
 obtain⟨css,h1,h2,h3,h4⟩:=h;exact⟨css,h1,fun i a cs ha hc=>hR a cs (h2 i a cs ha hc),h3,hw _ _ h4⟩
theorem cL.done {A:Option Addr} {c:Nat} {X:Nat→Prop} (h:cL R T sz w base (.slice A l.length c) l) (hR:∀ a cs,R a cs→R' a cs) (hX:∀ b,(Value.slice A l.length c).ownBlock=some b→X b):bH R' w X sz A l.length l:=by
 obtain⟨css,h1,h2,h3,h4⟩:=h;exact⟨css,rfl,h1,fun i a cs ha hc=>hR a cs (h2 i a cs ha hc),h3,cE.ck h4 hX⟩
end
theorem cL.push {α:Type} {R R':α→List Value→Prop} {T:TypeId} {sz base:Nat} {w w':World} {v v':Value} {l:List α} {css:List (List Value)} {a:α} {cs:List Value}
    (h1:css.length=l.length) (h2:∀ (i:Nat) (a:α) (cs:List Value),l[i]? = some a→css[i]? = some cs→R a cs) (h3:∀ cs∈css,cs.length=sz)
    (hR:∀ a cs,R a cs→R' a cs) (ha:R' a cs) (hcs:cs.length=sz) (an:aY base T sz v w (l.length+1) (css.flatten++cs) v' w'):cL R' T sz w' base v' (l++[a]):=by
 refine⟨css++[cs],by simp [h1],?_,?_,?_⟩
 ·intro i x ds hx hd;rcases Nat.lt_or_ge i l.length with hi | hi
  ·rw [List.getElem?_append_left hi]at hx;rw [List.getElem?_append_left (by omega)]at hd;exact hR x ds (h2 i x ds hx hd)
  rw [List.getElem?_append_right hi]at hx;rw [List.getElem?_append_right (by omega),h1]at hd;have hi0:i - l.length=0:=by
   have:=(List.getElem?_eq_some_iff.1 hx).1;simp at this;omega
  rw [hi0]at hx hd;simp at hx hd;subst hx hd;exact ha
 ·intro ds hd;rcases List.mem_append.1 hd with hd | hd;exact h3 ds hd;simp at hd;subst hd;exact hcs
 have e:(css++[cs]).flatten=css.flatten++cs:=(by simp);have e2:(l++[a]).length=l.length+1:=(by simp);rw [e,e2];exact an.own
structure ax where
  start:Bool
  fin:Bool
  before:List af
  source:List af
  after:List af
  target:List Int
  ag:Int
structure cB where
  name:ByteArray
  rules:List ax
structure bS where
  only? : Bool
  only:af
  passes:List cB
def ja (w:World) (X:Nat→Prop) (s:af) (u:Value):Prop:=∃ A n c,u=.slice A n c∧cE w X 2 A n (ak s)∧n≤maxLen
def mU (w:World) (X:Nat→Prop) (s:af) (cs:List Value):Prop:=∃ u,cs = [u]∧ja w X s u
def fE (w:World) (X:Nat→Prop) (l:List af) (u:Value):Prop:=∃ A n c,u=.slice A n c∧bH (mU w X) w X 1 A n l∧n≤maxLen
def aW (w:World) (X:Nat→Prop) (r:ax) (cs:List Value):Prop :=
  ∃ u1 u2 u3 A n c,cs = [.bool r.start,.bool r.fin,u1,u2,u3,.slice A n c,.int .i64 r.ag]∧fE w X r.before u1∧fE w X r.source u2∧fE w X r.after u3∧cE w X 1 A n (runeCells r.target)∧n≤maxLen
def zx (w:World) (X:Nat→Prop) (l:List ax) (u:Value):Prop:=∃ A n c,u=.slice A n c∧bH (aW w X) w X 7 A n l∧n≤maxLen
def cX (w:World) (X:Nat→Prop) (p:cB) (cs:List Value):Prop:=∃ u,cs = [.string p.name,u]∧zx w X p.rules u
def kL (w:World) (X:Nat→Prop) (l:List cB) (u:Value):Prop:=∃ A n c,u=.slice A n c∧bH (cX w X) w X 2 A n l∧n≤maxLen
def gv (w:World) (X:Nat→Prop) (s:bS) (cs:List Value):Prop:=∃ u v,cs = [.bool s.only?,u,v]∧ja w X s.only u∧kL w X s.passes v
section
variable {w w' : World} {X X' : Nat → Prop} (hk : aa w X w' X')
include hk
theorem ja.keep {s:af} {u:Value} (h:ja w X s u):ja w' X' s u:=by
 obtain⟨A,n,c,e,h1,h2⟩:=h;exact⟨A,n,c,e,h1.keep hk,h2⟩
theorem mU.keep {s:af} {cs:List Value} (h:mU w X s cs):mU w' X' s cs:=by
 obtain⟨u,e,h⟩:=h;exact⟨u,e,h.keep hk⟩
theorem fE.keep {l:List af} {u:Value} (h:fE w X l u):fE w' X' l u:=by
 obtain⟨A,n,c,e,h1,h2⟩:=h;exact⟨A,n,c,e,h1.keep hk (fun _ _=>mU.keep hk),h2⟩
theorem aW.keep {r:ax} {cs:List Value} (h:aW w X r cs):aW w' X' r cs:=by
 obtain⟨u1,u2,u3,A,n,c,e,h1,h2,h3,h4,h5⟩:=h;exact⟨u1,u2,u3,A,n,c,e,h1.keep hk,h2.keep hk,h3.keep hk,h4.keep hk,h5⟩
theorem zx.keep {l:List ax} {u:Value} (h:zx w X l u):zx w' X' l u:=by
 obtain⟨A,n,c,e,h1,h2⟩:=h;exact⟨A,n,c,e,h1.keep hk (fun _ _=>aW.keep hk),h2⟩
theorem cX.keep {p:cB} {cs:List Value} (h:cX w X p cs):cX w' X' p cs:=by
 obtain⟨u,e,h⟩:=h;exact⟨u,e,h.keep hk⟩
theorem kL.keep {l:List cB} {u:Value} (h:kL w X l u):kL w' X' l u:=by
 obtain⟨A,n,c,e,h1,h2⟩:=h;exact⟨A,n,c,e,h1.keep hk (fun _ _=>cX.keep hk),h2⟩
theorem gv.keep {s:bS} {cs:List Value} (h:gv w X s cs):gv w' X' s cs:=by
 obtain⟨u,v,e,h1,h2⟩:=h;exact⟨u,v,e,h1.keep hk,h2.keep hk⟩
end
theorem aU {wx:World} {v:Value} {base sz n:Nat} {e:TypeId} {xs:List Value} (h:wx.ownsRow base e sz v n xs) {b:Nat} (hb:v.ownBlock=some b):base≤b∧b<wx.heap.size:=World.ownsRow.lt h b hb
theorem kM {w:World} {g base sz n:Nat} {t e:TypeId} {cs:Array Value} {fz:Nat × Nat} {v:Value} {xs:List Value} (ho:w.ownsRow base e sz v n xs) (h:w.heap[g]? = some (.cells cs t fz)) (hne:t≠e):v.ownBlock≠some g:=by
 rcases ho.2 with ⟨rfl,_⟩ | ⟨g2,cap,cur,rfl,_,hg,_⟩
 ·simp [Value.ownBlock]
 simp only [Value.ownBlock,ne_eq,Option.some.injEq];rintro rfl;rw [h]at hg;injection hg with hg;injection hg with _ ht;exact hne ht
section
variable {lo : Nat} {w2 : World}
theorem qG {e e2:TypeId} {sz sz2 n m:Nat} {v u u':Value} {xs ys:List Value} {w0:World} (h:w0.ownsRow lo e sz v n xs) (ha:aY lo e2 sz2 u w0 m ys u' w2) (hne:v.ownBlock≠u.ownBlock∨v.ownBlock=none):w2.ownsRow lo e sz v n xs:=by
 refine World.ownsRow.kept h ha.2.1 ?_;rcases hne with h | h;exact .inr h;exact .inl h
theorem sP {e e2:TypeId} {sz sz2 n m:Nat} {v u:Value} {xs ys:List Value} {w0:World} (h:w0.ownsRow lo e sz v n xs) (h2:w0.ownsRow lo e2 sz2 u m ys) (hne:e≠e2):v.ownBlock≠u.ownBlock∨v.ownBlock=none:=by
 rcases h.2 with ⟨hv,_⟩ | ⟨g,cap,cur,hv,_,hg,_⟩
 ·right;rw [hv];rfl
 left;rw [hv];intro e;exact kM h2 hg hne e.symm
theorem sI {u v:Value} (h:∀ b,u.ownBlock=some b→v.ownBlock≠some b):v.ownBlock≠u.ownBlock∨v.ownBlock=none:=by
 cases hv:v.ownBlock with
 | none=>exact .inr rfl
 | some b=>
  left;intro e;exact h b e.symm hv
end
theorem gl {w:World} {base sz n g i:Nat} {e t:TypeId} {v u:Value} {xs:List Value} {cs:Array Value} (h:w.ownsRow base e sz v n xs) (hb:ai w g t cs) (hne:t≠e):(w.setCell ⟨g,i,none⟩ u).ownsRow base e sz v n xs:=by
 rcases h.2 with ⟨hv,h0⟩ | ⟨k,cap,cur,hv,h1,h2,h3⟩;exact⟨h.1,.inl ⟨hv,h0⟩⟩;refine⟨h.1,.inr ⟨k,cap,cur,hv,h1,?_,h3⟩⟩;rw [Below.heap_setCell _ _ _ _ ?_];exact h2;intro e;simp only at e;subst e;unfold ai at hb;rw [hb]at h2;injection h2 with h2;injection h2 with _ ht;exact hne ht
theorem bX {w w':World} {g base sz n m:Nat} {t e:TypeId} {cs:Array Value} {v v':Value} {xs ys:List Value} (h:ai w g t cs) (ho:w.ownsRow base e sz v n xs) (hne:t≠e) (ha:aY base e sz v w m ys v' w'):ai w' g t cs:=by
 have hlt:=h.lt;unfold ai at h ⊢;rw [ha.2.1.block g hlt ?_];exact h;intro he;rcases ho.2 with ⟨rfl,_⟩ | ⟨g2,cap,cur,rfl,_,hg,_⟩
 ·simp [Value.ownBlock]at he
 simp only [Value.ownBlock,Option.some.injEq]at he;subst he;rw [h]at hg;injection hg with hg;injection hg with _ ht;exact hne ht
theorem oP {w:World} {g base sz n:Nat} {t e:TypeId} {cs:Array Value} {v:Value} {xs:List Value} (ho:w.ownsRow base e sz v n xs) (h:ai w g t cs) (hne:t≠e):v.ownBlock≠some g:=by
 rcases ho.2 with ⟨rfl,_⟩ | ⟨g2,cap,cur,rfl,_,hg,_⟩
 ·simp [Value.ownBlock]
 simp only [Value.ownBlock,ne_eq,Option.some.injEq];rintro rfl;unfold ai at h;rw [h]at hg;injection hg with hg;injection hg with _ ht;exact hne ht
theorem oQ {w:World} {lo sz n g i:Nat} {e:TypeId} {v u:Value} {xs:List Value} (h:w.ownsRow lo e sz v n xs) (hg:g<lo):(w.setCell ⟨g,i,none⟩ u).ownsRow lo e sz v n xs:=by
 rcases h.2 with ⟨hv,h0⟩ | ⟨k,cap,cur,hv,h1,h2,h3⟩;exact⟨h.1,.inl ⟨hv,h0⟩⟩;refine⟨h.1,.inr ⟨k,cap,cur,hv,h1,?_,h3⟩⟩;rw [Below.heap_setCell _ _ _ _ (show k≠g by omega)];exact h2
theorem vu (l:List Int) (x:Int):runeCells (l++[x])=runeCells l++[.int .i32 x]:=by simp [runeCells]
theorem xx (l:List Int) (x:Int):intCells (l++[x])=intCells l++[.int .i64 x]:=by simp [intCells]
structure bG where
  low:Int
  high:Int
  rules:List Int
def lP (w:World) (X:Nat→Prop) (l:List Int) (u:Value):Prop:=∃ A n c,u=.slice A n c∧cE w X 1 A n (intCells l)∧n≤maxLen
def gK (w:World) (X:Nat→Prop) (h:bG) (cs:List Value):Prop:=∃ u,cs = [.int .i32 h.low,.int .i32 h.high,u]∧lP w X h.rules u
def pK (w:World) (X:Nat→Prop) (l:List bG) (u:Value):Prop:=∃ A n c,u=.slice A n c∧bH (gK w X) w X 3 A n l∧n≤maxLen
section
variable {w w' : World} {X X' : Nat → Prop} (hk : aa w X w' X')
include hk
theorem lP.keep {l:List Int} {u:Value} (h:lP w X l u):lP w' X' l u:=by
 obtain⟨A,n,c,e,h1,h2⟩:=h;exact⟨A,n,c,e,h1.keep hk,h2⟩
theorem gK.keep {h:bG} {cs:List Value} (hh:gK w X h cs):gK w' X' h cs:=by
 obtain⟨u,e,h1⟩:=hh;exact⟨u,e,h1.keep hk⟩
theorem pK.keep {l:List bG} {u:Value} (h:pK w X l u):pK w' X' l u:=by
 obtain⟨A,n,c,e,h1,h2⟩:=h;exact⟨A,n,c,e,h1.keep hk (fun _ _=>gK.keep hk),h2⟩
end
theorem lP.len {w:World} {X:Nat→Prop} {l:List Int} {A:Option Addr} {n c:Nat} (h:lP w X l (.slice A n c)):l.length=n∧n≤maxLen:=by
 obtain⟨A',n',c',e,h1,h2⟩:=h;cases e;have:=h1.1;simp [intCells]at this;exact⟨this,h2⟩
def Cv (_:Nat):Prop:=True
theorem aa.any {w w':World} {X:Nat→Prop} (hb:Below w.heap.size w w'):aa w X w' X:=aa.below hb (fun _ h _=>h)
theorem cE.of {w:World} {X:Nat→Prop} {sz n:Nat} {A:Option Addr} {xs:List Value} (h:cE w X sz A n xs):Rd w w.heap.size sz A n xs:=h.rd (fun _ _ h=>h)
theorem uw {w:World} {X:Nat→Prop} {A:Option Addr} {n:Nat} {l:List af} (h:bH (mU w X) w X 1 A n l) {k:Nat} {s:af} (hk:l[k]? = some s) :
    ∃ (b off:Nat) (A':Option Addr) (n' c':Nat),A=some ⟨b,off,none⟩∧X b∧b<w.heap.size∧w.cell? ⟨b,off+k,none⟩=some (.slice A' n' c')∧jz w w.heap.size A' n' s∧cE w X 2 A' n' (ak s)∧n'≤maxLen:=by
 obtain⟨b,off,cs,e,hx,hb,⟨u,rfl,A',n',c',rfl,h1,h2⟩,_,hc⟩:=h.at hk;have:=hc 0 _ rfl;rw [Nat.mul_one,Nat.add_zero]at this;exact⟨b,off,A',n',c',e,hx,hb,this,h1.of,h1,h2⟩
def TP (w:World) (n:Nat) (i:Value) (wr:World):Prop:=∃ j:Nat,j≤n∧i=.int .i64 j∧Below w.heap.size w wr
theorem uH (X:Nat→Prop) (L:List af) (A:Option Addr) (n c:Nat) (w:World) (hn:n≤1000) (hS:∀ s∈L,aE s) (hL:bH (mU w X) w X 1 A n L) :
    Calls Tryz.prog 50 #[.slice A n c] w fun e w'=>e=.returned (.int .i64 0)∧Below w.heap.size w w':=by
 have aO:=qqh (show L.length=n from hL.len);have HL:=qqh hL;have HS:=qqh hS;clear hL hS;go_enter Tryz.func50,Tryz.ntmps50;go_wp2_with fail;go_loopw [8] (TP w n) (fun i _=>n - (intOf i).toNat);(case atStart=>exact⟨0,Nat.zero_le _,rfl,Below.refl _ _⟩);obtain⟨j,hj,rfl,hb⟩:=hrel;by_cases hlt:j<n
 ·obtain⟨s,hs⟩:∃ z,L[j]? = some z:=⟨_,List.getElem?_eq_getElem (by rw [aO.out];exact hlt)⟩;obtain⟨b,off,A',n',c',rfl,_,cC,SK,hrd,_,hnn⟩:=uw HL.out hs;have qB:=(hb.cell (p:=⟨b,off+j,none⟩) cC).trans SK;simp only [maxLen]at hnn;have HW:=qqh (show Calls Tryz.prog 70 #[.slice A' n' c'] wr fun e w'=>e=.returned (.int .i64 0)∧Below wr.heap.size wr w' by
   have:=gR A' n' c' s wr (by omega) ((Rd.below hrd hb).more hb.size);rwa [gH (HS.out s (List.mem_of_getElem? hs))]at this)
  have HB:=qqh hb;clear hs hrd hb SK;go_wp2_with fail;refine HW.out.mono ?_;rintro e w1 ⟨rfl,aP⟩;have bI:=qqh (HB.out.trans (aP.mono HB.out.size));go_wp2_with fail;exact⟨⟨j+1,by omega,by go_num,bI.out⟩,by simp [intOf];omega⟩
 obtain rfl:j=n:=(by omega);go_wp2_with fail;go_ret;exact⟨rfl,hb⟩
theorem mW (A:Option Addr) (n c:Nat) (w:World) :
    Calls Tryz.prog 108 #[.slice A n c] w fun e w'=>e=.returned (if 200<n then .tuple #[.slice none 0 0,.int .i64 5]else .tuple #[.slice A n c,.int .i64 0])∧w'=w:=by
 by_cases h:200<n
 ·rw [if_pos h];go_enter Tryz.func108,Tryz.ntmps108;go_wp2_with fail;go_ret2;exact⟨rfl,rfl⟩
 rw [if_neg h];go_enter Tryz.func108,Tryz.ntmps108;go_wp2_with fail;go_ret2;exact⟨rfl,rfl⟩
def dn (w:World) (s:af) (m:Nat) (e:Ending) (w':World):Prop:=∃ A' n' c',e=.returned (.slice A' n' c')∧cE w' (fun b=>w.heap.size≤b) 2 A' n' (ak s)∧n'≤m∧n'≤c'∧Below w.heap.size w w'
def TQ (w:World) (s:af) (n:Nat) (out a i:Value) (wr:World):Prop :=
  ∃ (j k:Nat) (x:Int) (acc:af),j≤n∧i=.int .i64 j∧a=.int .i32 x∧0≤x∧x≤1114112∧k≤j∧wr.ownsRow w.heap.size 77 2 out k (ak acc)∧acc.length=k∧wI s=acc++lO x (s.drop j)∧Below w.heap.size w wr
theorem Bu (A:Option Addr) (n c:Nat) (s:af) (w:World) (hn:n≤200) (hs:aE s) (hl:jz w w.heap.size A n s) :
    Calls Tryz.prog 110 #[.slice A n c] w (dn w (wI s) 201):=by
 obtain⟨i0,hi,z0,z1,z2⟩:=info_parts jj;have aO:=qqh hl.len;have HL:=qqh hl;have HS:=qqh hs;clear hl hs;go_enter Tryz.func110,Tryz.ntmps110;go_wp2_with fail;go_loopw [3,4,9] (TQ w s n) (fun _ _ i _=>n - (intOf i).toNat);(case atStart=>exact⟨0,0,0,[],Nat.zero_le _,rfl,rfl,by omega,by omega,by omega,World.ownsRow_nil _ _ _ _,rfl,rfl,Below.refl _ _⟩);obtain⟨j,k,a,acc,hj,rfl,rfl,ha0,lK,hk,hown,hk2,aV,hb⟩:=hrel;have hz:=hb.size;have hb0:=hb;obtain⟨A3,c3,rfl,kN⟩:=aI hown;by_cases hlt:j<n
 ·obtain⟨⟨x,y⟩,hx⟩:∃ z,s[j]? = some z:=⟨_,List.getElem?_eq_getElem (by rw [aO.out];exact hlt)⟩;obtain⟨b,off,rfl,cC,c0,c1⟩:=HL.out.at hx;have d0:=(hb.cell (p:=⟨b,off+j*2,none⟩) cC).trans c0;have d1:=(hb.cell (p:=⟨b,off+j*2+1,none⟩) cC).trans c1;have hxy:=HS.out.each (x,y) (List.mem_of_getElem? hx);simp only at hxy;rw [cW hx,lO]at aV;simp only at aV;have HX:=qqh hx;have bI:=qqh (hb.alloc hz (.cells #[.int .i32 x,.int .i32 y] 77));have yH:=qqh (World.ownsRow.alloc hown (.cells #[.int .i32 x,.int .i32 y] 77));have WH:=qqh hown;have HY:=qqh (ai.new wr 77 #[.int .i32 x,.int .i32 y]);clear hx c0 c1 hown hb hb0;by_cases hgt:a<x
  ·rw [if_pos hgt]at aV;have HG:=qqh aV;have sj:=qqh (World.ownsRow.alloc yH.out (.cells #[.int .i32 a,.int .i32 (x - 1)] 77));have bw:=qqh (bI.out.alloc bI.out.size (.cells #[.int .i32 a,.int .i32 (x - 1)] 77));have HN:=qqh (show Rd ((wr.alloc (.cells #[.int .i32 x,.int .i32 y] 77)).alloc (.cells #[.int .i32 a,.int .i32 (x - 1)] 77)) (wr.heap.size+1+1) 2 (some ⟨wr.heap.size+1,0,none⟩) 1 [.int .i32 a,.int .i32 (x - 1)] by
    have:=Rd.new (wr.alloc (.cells #[.int .i32 x,.int .i32 y] 77)) 77 2 1 [.int .i32 a,.int .i32 (x - 1)] rfl;simpa using this)
   clear aV;go_wp2_with (at_builtin;refine aj _ rfl (.tmp 17) (.tmp 23) 41 rfl w.heap.size 77 i0 _ 2 8 Tryz.underlying41 hi z0 z1 z2 rfl (by decide) _ _ _ rfl sj.out (wr.heap.size+1+1) (some ⟨wr.heap.size+1,0,none⟩) 1 1 [.int .i32 a,.int .i32 (x - 1)] rfl HN.out (lG _ _) (by simp only [maxLen];omega) (by omega) bw.out.size ?_);intro v' w9 an;have fe:=qqh (bw.out.trans (an.below bw.out.size sj.out));have gS:=qqh (show w9.ownsRow w.heap.size 77 2 v' (k+1) (ak (acc++[(a,x - 1)])) by rw [fZ];exact an.own);have tL:ai w9 wr.heap.size 77 #[.int .i32 x,.int .i32 y]:=by
    have h1:ai ((wr.alloc (.cells #[.int .i32 x,.int .i32 y] 77)).alloc (.cells #[.int .i32 a,.int .i32 (x - 1)] 77)) wr.heap.size 77 #[.int .i32 x,.int .i32 y]:=HY.out.alloc _;unfold ai at h1 ⊢;rw [an.2.1.block _ (by simp;omega) (fun e=>?_)];exact h1;have:=(aU WH.out e.symm).2;omega
   have e1:=tL.cell 1;clear an tL;go_wp2_with fail;exact⟨⟨j+1,k+1,y+1,acc++[(a,x - 1)],by omega,by go_num,rfl,by omega,by omega,by omega,gS.out,by simp;omega,by rw [HG.out];simp,fe.out⟩,by simp [intOf];omega⟩
  rw [if_neg hgt,List.nil_append]at aV;have HG:=qqh aV;clear aV;go_wp2_with fail;exact⟨⟨j+1,k,y+1,acc,by omega,by go_num,rfl,by omega,by omega,by omega,yH.out,by omega,HG.out,bI.out⟩,by simp [intOf];omega⟩
 obtain rfl:j=n:=(by omega);rw [List.drop_of_length_le (by rw [aO.out];omega),lO]at aV;by_cases hle:a≤1114111
 ·rw [if_pos hle]at aV;have HG:=qqh aV;have sj:=qqh (World.ownsRow.alloc hown (.cells #[.int .i32 a,.int .i32 1114111] 77));have bw:=qqh (hb.alloc hb.size (.cells #[.int .i32 a,.int .i32 1114111] 77));have HN:=qqh (Rd.new wr 77 2 1 [.int .i32 a,.int .i32 1114111] rfl);clear aV hown hb hb0;go_wp2_with (at_builtin;refine aj _ rfl (.tmp 31) (.tmp 34) 41 rfl w.heap.size 77 i0 _ 2 8 Tryz.underlying41 hi z0 z1 z2 rfl (by decide) _ _ _ rfl sj.out (wr.heap.size+1) (some ⟨wr.heap.size,0,none⟩) 1 1 [.int .i32 a,.int .i32 1114111] rfl HN.out (lG _ _) (by simp only [maxLen];omega) (by omega) bw.out.size ?_);intro v' w9 an;have fe:=qqh (bw.out.trans (an.below bw.out.size sj.out));have gS:=qqh (show w9.ownsRow w.heap.size 77 2 v' (k+1) (ak (wI s)) by rw [HG.out,fZ];exact an.own);clear an;obtain⟨A9,c9,rfl,Fs⟩:=aI gS.out;go_wp2_with fail;go_ret;exact⟨A9,k+1,c9,rfl,cE.ck gS.out (fun b hb=>(aU gS.out hb).1),by omega,Fs,fe.out⟩
 rw [if_neg hle,List.append_nil]at aV;have gS:=qqh (show wr.ownsRow w.heap.size 77 2 (.slice A3 k c3) k (ak (wI s)) by rw [aV];exact hown);clear aV hown hb0;go_wp2_with fail;go_ret;exact⟨A3,k,c3,rfl,cE.ck gS.out (fun b hb=>(aU gS.out hb).1),by omega,kN,hb⟩
def N6 (w:World) (outs:List af) (us:List Value):Prop:=∀ (i:Nat) (l:af) (u:Value),outs[i]? = some l→us[i]? = some u→∃ A n c,u=.slice A n c∧Rd w w.heap.size 2 A n (ak l)
theorem N6.below {w w':World} {outs:List af} {us:List Value} (h:N6 w outs us) (hb:Below w.heap.size w w'):N6 w' outs us:=by
 intro i l u h1 h2;obtain⟨A,n,c,e,hr⟩:=h i l u h1 h2;exact⟨A,n,c,e,(Rd.below hr hb).more hb.size⟩
theorem Cr (A:Option Addr) (n c:Nat) (l:af) (w:World) (hn:n≤100000) (hl:jz w w.heap.size A n l) :
    Calls Tryz.prog 66 #[.slice A n c] w fun e w'=>(∃ v,e=.returned v∧w'.ownsRow w.heap.size 77 2 v n (ak l))∧Below w.heap.size w w':=by
 obtain⟨i0,hi,z0,z1,z2⟩:=info_parts jj;have Ed:=qqh (fun W=>Lib.run_eql_slice_nil (P:=Tryz.prog) W 41 77 A n c 0 0 Tryz.underlying41);have HL:=qqh hl;cases A with
 | none=>
  have h0:n=0:=by
   rcases Nat.eq_zero_or_pos n with h | h;exact h;obtain⟨b,o,e,_⟩:=hl.2 h;cases e
  subst h0;have Cm:l = []:=List.eq_nil_of_length_eq_zero hl.len;subst Cm;have heq:=fun W=>Ed.out W;simp only [Option.isNone_none]at heq;clear hl;go_enter Tryz.func66,Tryz.ntmps66;go_wp2_with fail;go_ret;exact⟨⟨_,rfl,World.ownsRow_nil _ _ _ _⟩,Below.refl _ _⟩
 | some a=>
  have heq:=fun W=>Ed.out W;simp only [Option.isNone_some]at heq;have OT:=qqh (nR w 77 2 w.heap.size w.heap.size rfl (Nat.le_refl _));have hba:=(Below.refl w.heap.size w).alloc (Nat.le_refl _) (.cells #[] 77);have yz:=qqh hba;have iR:=qqh ((Rd.below hl hba).more hba.size);clear hba hl;go_enter Tryz.func66,Tryz.ntmps66;go_wp2_with (at_builtin;refine aj _ rfl (.tmp 5) (.tmp 6) 41 rfl w.heap.size 77 i0 _ 2 8 Tryz.underlying41 hi z0 z1 z2 rfl (by decide) _ _ _ rfl OT.out _ (some a) n c (ak l) rfl iR.out (lu _) (by simp only [maxLen];omega) (by omega) (by simp) ?_);intro v1 w3 an;have bF:=qqh (yz.out.trans (an.below (by simp) OT.out));have nc:=qqh an.own;clear an heq;go_wp2_with fail;go_ret;exact⟨⟨_,rfl,by simpa using nc.out⟩,bF.out⟩
theorem Fl (n:Nat) (w:World) (hn:n≤100000) :
    Calls Tryz.prog 130 #[.slice none 0 0,.int .i64 n] w fun e w'=>(∃ v,e=.returned v∧w'.ownsRow w.heap.size 77 2 v 0 [])∧Below w.heap.size w w':=by
 obtain⟨i0,hi,z0,z1,z2⟩:=info_parts jj;by_cases h0:n=0
 ·subst h0;go_enter Tryz.func130,Tryz.ntmps130;go_wp2_with fail;go_ret;exact⟨⟨_,rfl,World.ownsRow_nil _ _ _ _⟩,Below.refl _ _⟩
 have hrun:=Lib.run_append_nil_zeros (P:=Tryz.prog) w 41 3 41 77 i0 (.agg #[.int .i32 0,.int .i32 0]) .i64 .i64 Tryz.underlying41 Tryz.underlying3 hi z0 n (by omega) (by omega) (by omega) (by rw [z2];omega);generalize hcap:grownCap w n 0 77 = cap at hrun;have Yx:n≤cap:=(by rw [← hcap];exact grownCap_ge w _ 0 77);have Ri:cap≤maxLen:=(by rw [← hcap];exact grownCap_le_maxLen w _ 0 77 (by simp only [maxLen];omega));generalize hZ:(Builtin.zeroCells (Value.agg #[.int .i32 0,.int .i32 0]).cells n++Builtin.zeroCells (Value.agg #[.int .i32 0,.int .i32 0]).cells (cap - n))=Z at hrun;have XR:Z.size=cap*2:=(by rw [← hZ];simp [size_zeroCells,Value.cells];omega);have HR:=qqh hrun
 have HO:=qqh (show(w.drew.alloc (.cells Z 77)).ownsRow w.heap.size 77 2 (.slice (some ⟨w.heap.size,0,none⟩) 0 cap) 0 [] from
   ⟨rfl,.inr ⟨w.heap.size,cap,Z,rfl,Nat.le_refl _,heap_alloc_new w.drew _,Nat.zero_le _,Ri,by omega,by simp⟩⟩)
 have HB:=qqh (show Below w.heap.size w (w.drew.alloc (.cells Z 77)) from((Below.refl w.heap.size w).drew).alloc (Nat.le_refl _) _);clear hcap hZ XR hrun;go_enter Tryz.func130,Tryz.ntmps130;go_wp2_with (at_builtin;refine Lib.wpList_append_run _ rfl (.tmp 20) (.tmp 21) _ _ rfl (.slice none 0 0) (.int .i64 n) rfl rfl _ _ HR.out ?_);go_wp2_with fail;go_ret;exact⟨⟨_,rfl,HO.out⟩,HB.out⟩
theorem pP {outs:List af} {k:Nat} {x:af} (h:outs[k]? = some x):(outs.take (k+1)).flatten=(outs.take k).flatten++x:=by
 rw [List.take_add_one,h];simp
theorem qL (outs:List af) (k:Nat):(outs.take k).flatten.length≤outs.flatten.length:=by
 have h:=congrArg (fun z:List af=>z.flatten.length) (List.take_append_drop k outs);simp only [List.flatten_append,List.length_append]at h;omega
def Uh (w:World) (outs:List af) (m:Nat) (s3 i:Value) (wr:World):Prop :=
  ∃ k:Nat,k≤m∧i=.int .i64 k∧s3=.int .i64 (outs.take k).flatten.length∧w=wr
def QT (w:World) (outs:List af) (m:Nat) (s6 i:Value) (wr:World):Prop :=
  ∃ (k N:Nat),k≤m∧i=.int .i64 k∧(outs.take k).flatten.length=N∧wr.ownsRow w.heap.size 77 2 s6 N (ak (outs.take k).flatten)∧Below w.heap.size w wr
theorem zZ (outs:List af) (us:List Value) (A:Option Addr) (m c:Nat) (w:World) (hlen:outs.length=m) (hrd:Rd w w.heap.size 1 A m us) (hpc:N6 w outs us) (hsum:outs.flatten.length≤100000) (hm:m≤100000) :
    Calls Tryz.prog 105 #[.slice A m c] w fun e w'=>(∃ v,e=.returned v∧w'.ownsRow w.heap.size 77 2 v outs.flatten.length (ak outs.flatten))∧Below w.heap.size w w':=by
 obtain⟨i0,hi,z0,z1,z2⟩:=info_parts jj;have aO:=qqh hlen;have kF:=qqh hrd;have FX:=qqh hpc;have V9:=qqh (show us.length=m by have:=hrd.1;omega);have Aj:=qqh hsum;clear hlen hrd hpc hsum;go_enter Tryz.func105,Tryz.ntmps105;go_wp2_with fail;go_loopw [3,11] (Uh w outs m) (fun _ i _=>m - (intOf i).toNat);(case atStart=>exact⟨0,Nat.zero_le _,rfl,rfl,rfl⟩);obtain⟨k,hk,rfl,rfl,rfl⟩:=hrel;obtain⟨S,hS⟩:∃ S,(outs.take k).flatten.length=S:=⟨_,rfl⟩;have hS1:S≤100000:=(by have:=qL outs k;have:=Aj.out;omega);by_cases hlt:k<m
 ·obtain⟨x,hx⟩:∃ x,outs[k]? = some x:=⟨_,List.getElem?_eq_getElem (by rw [aO.out];exact hlt)⟩;obtain⟨u,hu⟩:∃ u,us[k]? = some u:=⟨_,List.getElem?_eq_getElem (by rw [V9.out];exact hlt)⟩;obtain⟨P,n1,c1,rfl,hr⟩:=FX.out k x u hx hu;obtain⟨b,o,rfl,_,hc⟩:=kF.out.2 (by omega);have u0:=hc _ _ hu;have jB:=hr.1;rw [bC]at jB;have Nf:=qqh (show(outs.take (k+1)).flatten.length=S+n1 by rw [pP hx,List.length_append,hS];omega);have Ru:S+n1≤100000:=(by have:=Nf.out;have:=qL outs (k+1);have:=Aj.out;omega);have hk0:(0:Int)≤(k:Int):=(by omega);have PE:decide ((S:Int)+(n1:Int)<0)=false:=decide_eq_false (by omega);rw [hS];clear hx hu hr hc jB hS;go_wp2_with fail;exact⟨⟨k+1,by omega,by go_num,by rw [Nf.out];go_num,rfl⟩,by simp [intOf];omega⟩
 obtain rfl:k=m:=(by omega);rw [List.take_of_length_le (by rw [aO.out];exact Nat.le_refl _)]at hS ⊢;have HS:=qqh hS;rw [hS];clear hS;go_wp2_with fail;refine(Fl S _ hS1).mono ?_;rintro e w1 ⟨⟨v,rfl,ho⟩,aP⟩;have HO:=qqh ho;have HB:=qqh aP;obtain⟨A1,c1,rfl,_⟩:=aI ho;clear ho aP;go_wp2_with fail;go_loopw [6,27] (QT w outs k) (fun _ i _=>k - (intOf i).toNat);(case atStart=>exact⟨0,0,Nat.zero_le _,rfl,rfl,HO.out,HB.out⟩);obtain⟨j,N,hj,rfl,hN,ho,hb⟩:=hrel;have HO:=qqh ho;have HB:=qqh hb;have HN:=qqh hN;have hz:=hb.size;have Z5:N≤100000:=(by have:=qL outs j;have:=Aj.out;omega);obtain⟨A2,c2,rfl,_⟩:=aI ho;clear ho hN;by_cases hlt:j<k
 ·obtain⟨x,hx⟩:∃ x,outs[j]? = some x:=⟨_,List.getElem?_eq_getElem (by rw [aO.out];exact hlt)⟩;obtain⟨u,hu⟩:∃ u,us[j]? = some u:=⟨_,List.getElem?_eq_getElem (by rw [V9.out];exact hlt)⟩;obtain⟨P,n1,Sw,rfl,hr⟩:=(FX.out.below hb) j x u hx hu;obtain⟨b,o,rfl,cC,hc⟩:=(Rd.below kF.out hb).2 (by omega);have u0:=hc _ _ hu;have jB:=hr.1;rw [bC]at jB;have Nf:=qqh (pP hx);have mM:=qqh (show(outs.take (j+1)).flatten.length=N+n1 by rw [pP hx,List.length_append,HN.out];omega);have Ru:N+n1≤100000:=(by have:=mM.out;have:=qL outs (j+1);have:=Aj.out;omega);have HR:=qqh hr;clear hx hu hr hc jB hb;go_wp2_with (at_builtin;refine aj _ rfl (.tmp 31) (.tmp 32) 41 rfl w.heap.size 77 i0 _ 2 8 Tryz.underlying41 hi z0 z1 z2 rfl (by decide) _ N _ rfl HO.out _ P n1 Sw (ak x) rfl HR.out (lu _) (by simp only [maxLen];omega) (by omega) hz ?_);intro v' w9 an;have fe:=qqh (HB.out.trans (an.below hz HO.out));have gS:=qqh (show w9.ownsRow w.heap.size 77 2 v' (N+n1) (ak (outs.take (j+1)).flatten) by rw [Nf.out,wm];exact an.own);clear an;go_wp2_with fail;exact⟨⟨j+1,N+n1,by omega,by go_num,mM.out,gS.out,fe.out⟩,by simp [intOf];omega⟩
 obtain rfl:j=k:=(by omega);have HF:=qqh (show wr.ownsRow w.heap.size 77 2 (.slice A2 N c2) outs.flatten.length (ak outs.flatten) by
  have h1:=HO.out;have h2:=HN.out;rw [List.take_of_length_le (by rw [aO.out];exact Nat.le_refl _)]at h1 h2;rw [h2];exact h1)
 clear hb;go_wp2_with fail;go_ret;exact⟨⟨_,rfl,HF.out⟩,HB.out⟩
def kX:Nat→List aH→Int × Int
  | _,[]=>(0,0)
  | i,p::r=>if fG p=0 then kX (i+1) r else (fG p,i)
def fl (l:List aH):Int × Int:=if 200<l.length then (5,0)else kX 0 l
theorem FO {w:World} {B n:Nat} {A:Option Addr} {l:List aH} (h:AV w B A n l) {k:Nat} {p:aH} (hk:l[k]? = some p) :
    ∃ (b off:Nat) (A':Option Addr) (n' c':Nat) (L1 L2 L3 R1 R2 R3:Option Addr) (a1 a2 a3 x1 x2 x3 b1 b2 b3 y1 y2 y3:Nat),A=some ⟨b,off,none⟩∧b<B∧(w.cell? ⟨b,off+k*16,none⟩=some (.int .i64 p.kind)∧w.cell? ⟨b,off+k*16+1,none⟩=some (.string p.name)∧w.cell? ⟨b,off+k*16+2,none⟩=some (.slice A' n' c')∧w.cell? ⟨b,off+k*16+3,none⟩=some (.int .i64 p.dir)∧w.cell? ⟨b,off+k*16+4,none⟩=some (.bool p.left.start)∧w.cell? ⟨b,off+k*16+5,none⟩=some (.bool p.left.fin)∧w.cell? ⟨b,off+k*16+6,none⟩=some (.slice L1 a1 x1)∧w.cell? ⟨b,off+k*16+7,none⟩=some (.slice L2 a2 x2)∧w.cell? ⟨b,off+k*16+8,none⟩=some (.slice L3 a3 x3)∧w.cell? ⟨b,off+k*16+9,none⟩=some (.int .i64 p.left.ag)∧w.cell? ⟨b,off+k*16+10,none⟩=some (.bool p.right.start)∧w.cell? ⟨b,off+k*16+11,none⟩=some (.bool p.right.fin)∧w.cell? ⟨b,off+k*16+12,none⟩=some (.slice R1 b1 y1)∧w.cell? ⟨b,off+k*16+13,none⟩=some (.slice R2 b2 y2)∧w.cell? ⟨b,off+k*16+14,none⟩=some (.slice R3 b3 y3)∧w.cell? ⟨b,off+k*16+15,none⟩=some (.int .i64 p.right.ag))∧jz w B A' n' p.set∧n'≤maxLen∧bO w B L1 a1 p.left.before∧bO w B L2 a2 p.left.source∧bO w B L3 a3 p.left.after∧a1≤maxLen∧a2≤maxLen∧a3≤maxLen∧bO w B R1 b1 p.right.before∧bO w B R2 b2 p.right.source∧bO w B R3 b3 p.right.after∧b1≤maxLen∧b2≤maxLen∧b3≤maxLen∧jY p.left.ag∧jY p.right.ag∧p.name.size≤maxLen:=by
 obtain⟨b,off,cs,e,hb,⟨A',n',c',ls,rs,hcs,h1,h2,⟨L1,a1,x1,L2,a2,x2,L3,a3,x3,hls,l1,l2,l3,l4,l5,l6,l7⟩,⟨R1,b1,y1,R2,b2,y2,R3,b3,y3,Ns,r1,r2,r3,r4,r5,r6,r7⟩,_,_,h5⟩,hc⟩:=jR.at h hk;subst hls Ns;subst hcs;exact⟨b,off,A',n',c',L1,L2,L3,R1,R2,R3,a1,a2,a3,x1,x2,x3,b1,b2,b3,y1,y2,y3,e,hb,⟨hc 0 _ rfl,hc 1 _ rfl,hc 2 _ rfl,hc 3 _ rfl,hc 4 _ rfl,hc 5 _ rfl,hc 6 _ rfl,hc 7 _ rfl,hc 8 _ rfl,hc 9 _ rfl,hc 10 _ rfl,hc 11 _ rfl,hc 12 _ rfl,hc 13 _ rfl,hc 14 _ rfl,hc 15 _ rfl⟩,h1,h2,l1,l2,l3,l4,l5,l6,r1,r2,r3,r4,r5,r6,l7,r7,h5⟩
def S3 (w:World) (l:List aH) (n:Nat) (i:Value) (wr:World):Prop :=
  ∃ k:Nat,k≤n∧i=.int .i64 k∧kX 0 l=kX k (l.drop k)∧ai wr w.heap.size 32 #[.int .i64 0,.int .i64 0]∧Below w.heap.size w wr
theorem Df {l:List aG} (h:b7 l=0):l.length≤20∧∀ a∈l,mT a=0:=by
 have h20:=kS h;refine⟨h20,?_⟩;unfold b7 at h;rw [if_neg (by omega)]at h;clear h20;induction l with
 | nil=>simp
 | cons a l ih=>
  rw [kT]at h;by_cases h1:mT a=0
  ·rw [if_pos h1]at h;intro x hx;rcases List.mem_cons.1 hx with rfl | hx;exact h1;exact ih h x hx
  rw [if_neg h1]at h;exact absurd h h1
theorem EK {a:aG} (h:mT a=0):(a.kind=1∧bT a.rune=true)∨(a.kind=2∧bA a.set=0)∨(a.kind=3∧ee a.name=true):=by
 unfold mT at h;by_cases h1:a.kind=1
 ·rw [if_pos h1]at h;cases hr:bT a.rune
  ·rw [hr]at h;simp at h
  exact .inl ⟨h1,rfl⟩
 rw [if_neg h1]at h;by_cases h2:a.kind=2
 ·rw [if_pos h2]at h;exact .inr (.inl ⟨h2,h⟩)
 rw [if_neg h2]at h;by_cases h3:a.kind=3
 ·rw [if_pos h3]at h;cases hr:ee a.name
  ·rw [hr]at h;simp at h
  exact .inr (.inr ⟨h3,rfl⟩)
 rw [if_neg h3]at h;cases h
theorem Ho {s:ByteArray} (h:ee s=true):s.size≤20:=by
 unfold ee at h;rw [decide_eq_true_iff]at h;exact h.2.1
theorem Fv {s:bQ} {fJ:Bool} (h:bN s fJ=0):b7 s.before=0∧b7 s.source=0∧b7 s.after=0:=by
 unfold bN at h;by_cases h0:eY [s.before,s.source,s.after] = 0
 ·simp only [eY]at h0;by_cases h1:b7 s.before=0
  ·rw [if_pos h1]at h0;by_cases h2:b7 s.source=0
   ·rw [if_pos h2]at h0;by_cases h3:b7 s.after=0;exact⟨h1,h2,h3⟩;rw [if_neg h3]at h0;exact absurd h0 h3
   rw [if_neg h2]at h0;exact absurd h0 h2
  rw [if_neg h1]at h0;exact absurd h0 h1
 rw [if_neg h0]at h;exact absurd h h0
def PO (p:aH):Prop :=
  (p.dir=1∨p.dir=2∨p.dir=3)∧(b7 p.left.before=0∧b7 p.left.source=0∧b7 p.left.after=0)∧(b7 p.right.before=0∧b7 p.right.source=0∧b7 p.right.after=0)
theorem pI {p:aH} (h:fG p=0):(p.kind=1∧ee p.name=true∧bA p.set=0)∨(p.kind=3∧bA p.set=0)∨(p.kind=4∧jD p.name=true)∨(p.kind=2∧PO p):=by
 unfold fG at h;by_cases h1:p.kind=1
 ·rw [if_pos h1]at h;cases hn:ee p.name
  ·rw [hn]at h;simp at h
  rw [hn,if_pos rfl]at h;exact .inl ⟨h1,rfl,h⟩
 rw [if_neg h1]at h;by_cases h3:p.kind=3
 ·rw [if_pos h3]at h;exact .inr (.inl ⟨h3,h⟩)
 rw [if_neg h3]at h;by_cases h4:p.kind=4
 ·rw [if_pos h4]at h;cases hn:jD p.name
  ·rw [hn]at h;simp at h
  exact .inr (.inr (.inl ⟨h4,rfl⟩))
 rw [if_neg h4]at h;by_cases h2:p.kind=2
 ·rw [if_pos h2]at h;unfold cP at h;by_cases hd:p.dir<1∨3<p.dir
  ·rw [if_pos hd]at h;cases h
  rw [if_neg hd]at h;by_cases hl:bN p.left (p.dir != 2)=0
  ·rw [if_pos hl]at h;by_cases hr:bN p.right (p.dir != 1)=0;exact .inr (.inr (.inr ⟨h2,by omega,Fv hl,Fv hr⟩));rw [if_neg hr]at h;exact absurd h hr
  rw [if_neg hl]at h;exact absurd h hl
 rw [if_neg h2]at h;cases h
theorem Hq {l:List aH}:∀ i,(kX i l).1=0→kX i l=(0,0)∧∀ p∈l,fG p=0:=by
 induction l with
 | nil=>intro i _;exact⟨rfl,by simp⟩
 | cons p l ih=>
  intro i h;rw [kX]at h ⊢;by_cases h1:fG p=0
  ·rw [if_pos h1]at h ⊢;obtain⟨h2,h3⟩:=ih (i+1) h;refine⟨h2,fun q hq=>?_⟩;rcases List.mem_cons.1 hq with rfl | hq;exact h1;exact h3 q hq
  rw [if_neg h1]at h;exact absurd h h1
theorem OA {l:List aH} (h:(fl l).1=0):l.length≤200∧fl l=(0,0)∧∀ p∈l,fG p=0:=by
 unfold fl at h ⊢;by_cases h2:200<l.length
 ·rw [if_pos h2]at h;cases h
 rw [if_neg h2]at h ⊢;obtain⟨h3,h4⟩:=Hq 0 h;exact⟨by omega,h3,h4⟩
def BC (a:aG):aG:=⟨a.kind,if a.kind=1 then a.rune else 0,if a.kind=2 then a.set else [],if a.kind=3 then a.name else ⟨#[]⟩⟩
def FN (s:bQ):bQ:=⟨s.start,s.fin,s.before.map BC,s.source.map BC,s.after.map BC,s.ag⟩
def F4:bQ:=⟨false,false,[],[],[],0⟩
def OU (p:aH):aH:=⟨p.kind,if p.kind=1∨p.kind=4 then p.name else ⟨#[]⟩,if p.kind=1∨p.kind=3 then p.set else [],if p.kind=2 then p.dir else 0,if p.kind=2 then FN p.left else F4,if p.kind=2 then FN p.right else F4⟩
def sn (w:World) (X:Nat→Prop) (a:aG) (cs:List Value):Prop :=
  ∃ A n c,cs = [.int .i64 a.kind,.int .i32 a.rune,.slice A n c,.string a.name]∧cE w X 2 A n (ak a.set)∧n≤maxLen∧jY a.kind∧a.name.size≤maxLen
def iE (w:World) (X:Nat→Prop) (A:Option Addr) (n:Nat) (l:List aG):Prop:=bH (sn w X) w X 4 A n l
def qp (w:World) (X:Nat→Prop) (s:bQ) (cs:List Value):Prop :=
  ∃ A1 n1 c1 A2 n2 c2 A3 n3 c3,cs = [.bool s.start,.bool s.fin,.slice A1 n1 c1,.slice A2 n2 c2,.slice A3 n3 c3,.int .i64 s.ag] ∧
    iE w X A1 n1 s.before∧iE w X A2 n2 s.source∧iE w X A3 n3 s.after∧n1≤maxLen∧n2≤maxLen∧n3≤maxLen∧jY s.ag
def ej (w:World) (X:Nat→Prop) (p:aH) (cs:List Value):Prop :=
  ∃ A n c ls rs,cs = [.int .i64 p.kind,.string p.name,.slice A n c,.int .i64 p.dir]++ls++rs∧cE w X 2 A n (ak p.set)∧n≤maxLen∧qp w X p.left ls∧qp w X p.right rs∧jY p.kind∧jY p.dir∧p.name.size≤maxLen
def gF (w:World) (X:Nat→Prop) (A:Option Addr) (n:Nat) (l:List aH):Prop:=bH (ej w X) w X 16 A n l
section
variable {w w' : World} {X X' : Nat → Prop} (hk : aa w X w' X')
include hk
theorem sn.keep {a:aG} {cs:List Value} (h:sn w X a cs):sn w' X' a cs:=by
 obtain⟨A,n,c,e,h1,h2⟩:=h;exact⟨A,n,c,e,h1.keep hk,h2⟩
theorem iE.keep {A:Option Addr} {n:Nat} {l:List aG} (h:iE w X A n l):iE w' X' A n l:=bH.keep hk (fun _ _=>sn.keep hk) h
theorem qp.keep {s:bQ} {cs:List Value} (h:qp w X s cs):qp w' X' s cs:=by
 obtain⟨A1,n1,c1,A2,n2,c2,A3,n3,c3,e,h1,h2,h3,h4⟩:=h;exact⟨A1,n1,c1,A2,n2,c2,A3,n3,c3,e,h1.keep hk,h2.keep hk,h3.keep hk,h4⟩
theorem ej.keep {p:aH} {cs:List Value} (h:ej w X p cs):ej w' X' p cs:=by
 obtain⟨A,n,c,ls,rs,e,h1,h2,h3,h4,h5⟩:=h;exact⟨A,n,c,ls,rs,e,h1.keep hk,h2,h3.keep hk,h4.keep hk,h5⟩
theorem gF.keep {A:Option Addr} {n:Nat} {l:List aH} (h:gF w X A n l):gF w' X' A n l:=bH.keep hk (fun _ _=>ej.keep hk) h
end
section
variable {α : Type} {w : World} {B sz n : Nat} {A : Option Addr}
variable {X : Nat → Prop}
theorem bH.rd {R R':α→List Value→Prop} {l:List α} (hR:∀ a cs,R a cs→R' a cs) (h:bH R w X sz A n l):jR R' w w.heap.size sz A n l:=by
 obtain⟨css,h1,h2,h3,h4,h5⟩:=h;exact⟨css,h1,h2,fun i a cs ha hc=>hR a cs (h3 i a cs ha hc),h4,h5.rd (fun _ _ h=>h)⟩
theorem sn.rd {a:aG} {cs:List Value} (h:sn w X a cs):yx w w.heap.size a cs:=by
 obtain⟨A,n,c,e,h1,h2⟩:=h;exact⟨A,n,c,e,h1.rd (fun _ _ h=>h),h2⟩
theorem iE.rd {l:List aG} (h:iE w X A n l):bO w w.heap.size A n l:=bH.rd (fun _ _=>sn.rd) h
theorem qp.rd {s:bQ} {cs:List Value} (h:qp w X s cs):tc w w.heap.size s cs:=by
 obtain⟨A1,n1,c1,A2,n2,c2,A3,n3,c3,e,h1,h2,h3,h4⟩:=h;exact⟨A1,n1,c1,A2,n2,c2,A3,n3,c3,e,h1.rd,h2.rd,h3.rd,h4⟩
theorem ej.rd {p:aH} {cs:List Value} (h:ej w X p cs):yT w w.heap.size p cs:=by
 obtain⟨A,n,c,ls,rs,e,h1,h2,h3,h4,h5⟩:=h;exact⟨A,n,c,ls,rs,e,h1.rd (fun _ _ h=>h),h2,h3.rd,h4.rd,h5⟩
theorem gF.rd {l:List aH} (h:gF w X A n l):AV w w.heap.size A n l:=bH.rd (fun _ _=>ej.rd) h
theorem ej.one {p:aH} {cs:List Value} (h:ej w X p cs):cs.length=16∧∀ u∈cs,u.oneCell'=true:=by
 obtain⟨A,n,c,ls,rs,rfl,_,_,⟨A1,n1,c1,A2,n2,c2,A3,n3,c3,rfl,_⟩,⟨B1,m1,d1,B2,m2,d2,B3,m3,d3,rfl,_⟩,_⟩:=h;refine⟨rfl,fun u hu=>?_⟩;simp at hu;rcases hu with rfl | rfl | rfl | rfl | rfl | rfl | rfl | rfl | rfl | rfl | rfl | rfl | rfl | rfl | rfl | rfl <;> rfl
theorem ej.form {q:aH} {cs:List Value} (h:ej w X q cs):∃ A' n' c' L1 a1 x1 L2 a2 x2 L3 a3 x3 R1 b1 y1 R2 b2 y2 R3 b3 y3,cs = [.int .i64 q.kind,.string q.name,.slice A' n' c',.int .i64 q.dir,.bool q.left.start,.bool q.left.fin,.slice L1 a1 x1,.slice L2 a2 x2,.slice L3 a3 x3,.int .i64 q.left.ag,.bool q.right.start,.bool q.right.fin,.slice R1 b1 y1,.slice R2 b2 y2,.slice R3 b3 y3,.int .i64 q.right.ag]:=by
 obtain⟨A,n,c,ls,rs,rfl,_,_,⟨A1,n1,c1,A2,n2,c2,A3,n3,c3,rfl,_⟩,⟨B1,m1,d1,B2,m2,d2,B3,m3,d3,rfl,_⟩,_⟩:=h;exact⟨A,n,c,A1,n1,c1,A2,n2,c2,A3,n3,c3,B1,m1,d1,B2,m2,d2,B3,m3,d3,rfl⟩
theorem cE.nil (sz:Nat):cE w X sz none 0 []:=⟨by simp,fun h=>absurd h (Nat.lt_irrefl 0)⟩
theorem iE.nil:iE w X none 0 []:=⟨[],rfl,rfl,by simp,by simp,cE.nil 4⟩
theorem jW:qp w X F4 [.bool false,.bool false,.slice none 0 0,.slice none 0 0,.slice none 0 0,.int .i64 0] :=
  ⟨none,0,0,none,0,0,none,0,0,rfl,iE.nil,iE.nil,iE.nil,Nat.zero_le _,Nat.zero_le _,Nat.zero_le _,by unfold jY F4;dsimp only;omega⟩
end
theorem Iu:(Tryz.prog.info? 97).map (fun i=>(i.zero,i.size,i.bytes))=some (some (.agg #[.int .i64 0,.string ⟨#[]⟩,.slice none 0 0,.int .i64 0,.bool false,.bool false,.slice none 0 0,.slice none 0 0,.slice none 0 0,.int .i64 0,.bool false,.bool false,.slice none 0 0,.slice none 0 0,.slice none 0 0,.int .i64 0]),16,232):=by kernel_rfl
def fK:List aH→ByteArray→Option af
  | [],_=>none
  | p::r,s=>if p.kind=1∧p.name=s then some p.set else fK r s
def tQ (l:List aH) (a:aG):Option af:=if a.kind=1 then some [(a.rune,a.rune)]else if a.kind=2 then some a.set else fK l a.name
def bZ (l:List aH):List aG→Option (List af)
  | []=>some []
  | a::r=>match tQ l a with
    | none=>none
    | some s=>(bZ l r).map (s :: ·)
def eD (l:List aH) (from_ to:bQ):Option ax :=
  match bZ l from_.before,bZ l from_.source,bZ l from_.after with
  | some a,some b,some c=>some ⟨from_.start,from_.fin,a,b,c,to.source.map (·.rune),if to.ag<0 then (to.source.length:Int)else to.ag⟩
  | _,_,_=>none
theorem qI (l:List aH) (a b:List aG):bZ l (a++b)=match bZ l a,bZ l b with
    | some x,some y=>some (x++y)
    | _,_=>none:=by
 induction a with
 | nil=>simp [bZ];cases bZ l b <;> rfl
 | cons x a ih=>
  rw [List.cons_append,bZ,bZ,ih];cases tQ l x with
  | none=>rfl
  | some s=>cases bZ l a <;> cases bZ l b <;> simp
theorem GL {l:List aH} {x:aG} {s:af} (h:tQ l x=some s):bZ l [x] = some [s]:=by
 rw [bZ,h,bZ];rfl
theorem pH {l:List aH} {L:List aG} {k:Nat} {x:aG} {ll:List af} {s:af} (hx:L[k]? = some x) (h1:bZ l (L.take k)=some ll) (h2:tQ l x=some s):bZ l (L.take (k+1))=some (ll++[s]):=by
 rw [List.take_add_one,hx];simp only [Option.toList];rw [qI,h1,GL h2]
theorem Ew {l:List aH} {L:List aG} {k:Nat} {x:aG} (hx:L[k]? = some x) (h2:tQ l x=none):bZ l L=none:=by
 have e:L=L.take k++x::L.drop (k+1):=by
  rw [← cW hx,List.take_append_drop]
 rw [e,qI,bZ,h2];cases bZ l (L.take k) <;> rfl
theorem Ig {l:List aH} {L:List aG} {ll:List af} (h:bZ l L=some ll):ll.length=L.length:=by
 induction L generalizing ll with
 | nil=>rw [bZ]at h;cases h;rfl
 | cons x L ih=>
  rw [bZ]at h;cases hs:tQ l x with
  | none=>rw [hs]at h;cases h
  | some s=>
   rw [hs]at h;cases h2:bZ l L with
   | none=>rw [h2]at h;cases h
   | some m=>
    rw [h2]at h;cases h;simp [ih h2]
theorem J' (a b:ByteArray):(a.toList == b.toList)=decide (a=b):=by
 rw [Bool.eq_iff_iff,beq_iff_eq,decide_eq_true_iff,Lib.toList_data,Lib.toList_data];constructor
 ·intro h;exact ByteArray.ext (Array.ext' h)
 intro h;rw [h]
theorem CW {xs ys:List Int} {k:Nat} {x y:Int} (hx:xs[k]? = some x) (hy:ys[k]? = some y) (h:x≠y):false=(xs == ys):=by
 symm;rw [beq_eq_false_iff_ne];rintro rfl;rw [hx]at hy;cases hy;exact h rfl
theorem vW {xs ys:List Int} {k:Nat} {x:Int} (hx:xs[k]? = some x) (hy:ys[k]? = some x) (he:xs.take k=ys.take k):xs.take (k+1)=ys.take (k+1):=by
 rw [List.take_add_one,List.take_add_one,he,hx,hy]
theorem yW {xs ys:List Int} {n:Nat} (hx:xs.length=n) (hy:ys.length=n) (he:xs.take n=ys.take n):true=(xs == ys):=by
 rw [List.take_of_length_le (by omega),List.take_of_length_le (by omega)]at he;simp [he]
theorem zy (A C:Option Addr) (n m c d:Nat) (xs ys:List Int) (w:World) (hn:n≤9223372036854775807) (hx:Mt w w.heap.size A n xs) (hy:Mt w w.heap.size C m ys) :
    Calls Tryz.prog 121 #[.slice A n c,.slice C m d] w fun e w'=>e=.returned (.bool (xs == ys))∧∃ k,w'=w.drewN k:=by
 have LX:=qqh hx.len;have LY:=qqh hy.len;have HX:=qqh hx;have HY:=qqh hy;clear hx hy;by_cases hnm:n=m
 ·subst hnm;go_enter Tryz.func121,Tryz.ntmps121;go_wp2_with fail;go_loopw [13] (fun i wr=>∃ k q:Nat,k≤n∧i=.int .i64 k∧wr=w.drewN q∧xs.take k=ys.take k) (fun i _=>n - (intOf i).toNat);(case atStart=>exact⟨0,0,Nat.zero_le _,rfl,rfl,rfl⟩);obtain⟨k,q,hk,rfl,rfl,heq⟩:=hrel;have HE:=qqh heq;clear heq;by_cases hlt:k<n
  ·obtain⟨x,hx⟩:∃ z,xs[k]? = some z:=⟨_,List.getElem?_eq_getElem (by rw [LX.out];exact hlt)⟩;obtain⟨y,hy⟩:∃ z,ys[k]? = some z:=⟨_,List.getElem?_eq_getElem (by rw [LY.out];exact hlt)⟩;obtain⟨b1,o1,rfl,aP,hc1⟩:=HX.out.at hx;obtain⟨b2,o2,rfl,aR,hc2⟩:=HY.out.at hy;have rY:=qqh hx;have zG:=qqh hy;clear hx hy;by_cases he:x=y
   ·subst he;go_wp2_with fail;go_quiet (fail);go_wp2_with fail;exact⟨⟨k+1,_,by omega,by go_num,rfl,vW rY.out zG.out HE.out⟩,by simp [intOf];omega⟩
   have hd:(x != y)=true:=(by rw [bne_iff_ne];exact he);go_wp2_with fail;go_quiet (fail);go_wp2_with fail;go_ret;exact⟨bg (CW rY.out zG.out he),_,World.drewN_drewN _ _ _⟩
  obtain rfl:k=n:=(by omega);go_wp2_with fail;go_ret;exact⟨bg (yW LX.out LY.out HE.out),_,rfl⟩
 have hne:((n:Int) !=(m:Int))=true:=(by rw [bne_iff_ne];omega);go_enter Tryz.func121,Tryz.ntmps121;go_wp2_with fail;go_ret;refine⟨bg ?_,0,rfl⟩;symm;rw [beq_eq_false_iff_ne];intro e;have h1:=LX.out;have h2:=LY.out;rw [e]at h1;omega
theorem qQ {w:World} {g i:Nat} {t:TypeId} {cs:Array Value} {v:Value} (h:ai w g t cs) (hv:cs[i]? = some v):w.setCell ⟨g,i,none⟩ v=w:=by
 have e0:cs.setIfInBounds i v=cs:=by
  apply Array.ext_getElem?;intro k;rw [Array.getElem?_setIfInBounds];by_cases hk:i=k
  ·subst hk;rw [if_pos rfl,hv,if_pos (Array.getElem?_eq_some_iff.1 hv).1]
  rw [if_neg hk]
 have e:(w.setCell ⟨g,i,none⟩ v).heap=w.heap:=by
  unfold World.setCell;apply Array.ext_getElem?;intro k;simp only [Array.getElem?_modify];by_cases hk:g=k
  ·subst hk;unfold ai at h;rw [if_pos rfl,h];simp [e0]
  rw [if_neg hk]
 have e2:w.setCell ⟨g,i,none⟩ v = { w with heap:=(w.setCell ⟨g,i,none⟩ v).heap }:=rfl;rw [e2,e]
def We:Value→Bool
  | .int _ _=>true
  | .string _=>true
  | .slice _ n _=>n != 0
  | _=>false
def abV (w:World) (g:Nat):Prop:=∀ (j:Nat) (u:Value),w.cell? ⟨g,j,none⟩=some u→We u=false
end Go.Proofs.YthgkedoildcbcaaGreatDoor
