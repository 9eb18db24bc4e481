/- RuleFoot + SetNot + ConcatS + FileP + ItemOk + BareD + PartX + ResolveP + SameI + ShFree -/
import Derived.Test.YtblinekbpcdbfaaGreatDoorZv11
import Derived.Test.YtblinekbpcdbfaaGreatDoorZv7
import Derived.Test.YtblinekbpcdbfaaGreatDoorZv4
import Derived.Deep.Strs
import Derived.Test.YtblinekbpcdbfaaGreatDoorZv10
import Derived.BigRegion
import Derived.Lib.AppendZeros
import Derived.Lib.SliceRun
import Derived.Lib.Strings
import Derived.Deep.QuietTactic
import Derived.BigQuiet
set_option maxHeartbeats 1600000
set_option maxRecDepth 100000
namespace Go.Proofs.YtblinekbpcdbfaaGreatDoor
open Go.RowKit
def cV (w:World) (X:Nat→Prop) (sz:Nat) (A:Option Addr) (n:Nat) (xs:List Value):Prop :=
  xs.length=n*sz∧(0<n→∃ b off,A=some ⟨b,off,none⟩∧X b∧b<w.heap.size∧∀ j u,xs[j]? = some u→w.cell? ⟨b,off+j,none⟩=some u)
def ag (w:World) (X:Nat→Prop) (w':World) (X':Nat→Prop):Prop:=∀ b,X b→b<w.heap.size→w'.heap[b]? = w.heap[b]?∧X' b∧b<w'.heap.size
section
variable {w w' w2 : World} {X X' X2 : Nat → Prop} {sz n : Nat} {A : Option Addr} {xs : List Value}
theorem ag.refl (h:∀ b,X b→X' b):ag w X w X':=fun b hb hl=>⟨rfl,h b hb,hl⟩
theorem ag.trans (h:ag w X w' X') (h2:ag w' X' w2 X2):ag w X w2 X2:=fun b hb hl=>
  let ⟨e,hx,hl'⟩:=h b hb hl
  let ⟨e2,hx2,jc⟩:=h2 b hx hl'
  ⟨e2.trans e,hx2,jc⟩
theorem ag.below (hb:Below w.heap.size w w') (h:∀ b,X b→b<w.heap.size→X' b):ag w X w' X':=fun b hx hl=>⟨hb.block b hl,h b hx hl,Nat.lt_of_lt_of_le hl hb.size⟩
theorem ag.alloc (o:Obj) (h:∀ b,X b→b<w.heap.size→X' b):ag w X (w.alloc o) X':=fun b hx hl=>⟨heap_alloc_old w o hl,h b hx hl,by simp;omega⟩
theorem ag.app {base n:Nat} {e:TypeId} {v v':Value} (ha:aP base e sz v w n xs v' w') (hX:∀ b,X b→v.ownBlock≠some b) (h:∀ b,X b→b<w.heap.size→X' b):ag w X w' X' :=
  fun b hx hl=>⟨ha.2.1.block b hl (fun e=>hX b hx e.symm),h b hx hl,Nat.lt_of_lt_of_le hl ha.2.1.size⟩
theorem ag.setCell {p:Addr} (u:Value) (hX:∀ b,X b→b≠p.block) (h:∀ b,X b→b<w.heap.size→X' b):ag w X (w.setCell p u) X' :=
  fun b hx hl=>⟨Below.heap_setCell _ _ _ _ (hX b hx),h b hx hl,by simpa using hl⟩
theorem cV.keep (hk:ag w X w' X') (h:cV w X sz A n xs):cV w' X' sz A n xs:=by
 refine⟨h.1,fun hn=>?_⟩;obtain⟨b,off,e,hx,hl,hc⟩:=h.2 hn;obtain⟨he,hx',hl'⟩:=hk b hx hl;exact⟨b,off,e,hx',hl',fun j u hu=>(World.cell?_of_block (w:=w) he).trans (hc j u hu)⟩
theorem cV.rd {B:Nat} (h:cV w X sz A n xs) (hB:∀ b,X b→b<w.heap.size→b<B):Rd w B sz A n xs :=
  ⟨h.1,fun hn=>let ⟨b,off,e,hx,hl,hc⟩:=h.2 hn;⟨b,off,e,hB b hx hl,hc⟩⟩
theorem cV.G9 {B:Nat} (h:Rd w B sz A n xs) (hB:B≤w.heap.size) (hX:∀ b,b<B→X b):cV w X sz A n xs :=
  ⟨h.1,fun hn=>let ⟨b,off,e,hb,hc⟩:=h.2 hn;⟨b,off,e,hX b hb,Nat.lt_of_lt_of_le hb hB,hc⟩⟩
theorem cV.cC {base c:Nat} {e:TypeId} (h:w.ownsRow base e sz (.slice A n c) n xs) (hX:∀ b,(Value.slice A n c).ownBlock=some b→X b):cV w X sz A n xs:=by
 refine⟨h.1,fun hn=>?_⟩;rcases h.2 with ⟨hv,h0⟩ | ⟨g,cap,cur,hv,hg,hh,hr⟩;omega;injection hv with hA;subst hA;refine⟨g,0,rfl,hX g rfl,(Array.getElem?_eq_some_iff.1 hh).1,fun j u hu=>?_⟩;have:=World.ownsRow.cells h (g:=g) rfl j u hu;rwa [gz]at this
theorem cV.new (t:TypeId) (cs:List Value) (hl:cs.length=n*sz) (hX:X w.heap.size):cV (w.alloc (.cells cs.toArray t)) X sz (some ⟨w.heap.size,0,none⟩) n cs:=by
 refine⟨hl,fun _=>⟨_,_,rfl,hX,by simp,fun j u hu=>?_⟩⟩;rw [(aj.new w t cs.toArray).cell,Nat.zero_add];simpa using hu
end
def ck {α:Type} (R:α→List Value→Prop) (w:World) (X:Nat→Prop) (sz:Nat) (A:Option Addr) (n:Nat) (l:List α):Prop :=
  ∃ css:List (List Value),l.length=n∧css.length=n∧(∀ (i:Nat) (a:α) (cs:List Value),l[i]? = some a→css[i]? = some cs→R a cs)∧(∀ cs∈css,cs.length=sz)∧cV w X sz A n css.flatten
theorem ck.len {α:Type} {R:α→List Value→Prop} {w:World} {X:Nat→Prop} {sz n:Nat} {A:Option Addr} {l:List α} (h:ck R w X sz A n l):l.length=n:=by
 obtain⟨_,h1,_⟩:=h;exact h1
theorem ck.keep {α:Type} {R R':α→List Value→Prop} {w w':World} {X X':Nat→Prop} {sz n:Nat} {A:Option Addr} {l:List α} (hk:ag w X w' X') (hR:∀ a cs,R a cs→R' a cs) (h:ck R w X sz A n l):ck R' w' X' sz A n l:=by
 obtain⟨css,h1,h2,h3,h4,h5⟩:=h;exact⟨css,h1,h2,fun i a cs ha hc=>hR a cs (h3 i a cs ha hc),h4,h5.keep hk⟩
theorem ck.at {α:Type} {R:α→List Value→Prop} {w:World} {X:Nat→Prop} {sz n:Nat} {A:Option Addr} {l:List α} (h:ck R w X sz A n l) {k:Nat} {a:α} (hk:l[k]? = some a) :
    ∃ (b off:Nat) (cs:List Value),A=some ⟨b,off,none⟩∧X b∧b<w.heap.size∧R a cs∧cs.length=sz∧∀ j u,cs[j]? = some u→w.cell? ⟨b,off+k*sz+j,none⟩=some u:=by
 obtain⟨css,h1,h2,h3,h4,h5,h6⟩:=h;have hlt:k<l.length:=(List.getElem?_eq_some_iff.1 hk).1;obtain⟨b,off,e,hx,hb,hc⟩:=h6 (by omega);obtain⟨cs,hcs⟩:∃ cs,css[k]? = some cs:=⟨_,List.getElem?_eq_getElem (by omega)⟩;refine⟨b,off,cs,e,hx,hb,h3 k a cs hk hcs,h4 cs (List.mem_of_getElem? hcs),fun j u hu=>?_⟩;rw [Nat.add_assoc];exact hc _ _ (dV h4 k cs hcs j u hu)
def dy {α:Type} (R:α→List Value→Prop) (T:TypeId) (sz:Nat) (w:World) (base:Nat) (v:Value) (l:List α):Prop :=
  ∃ css:List (List Value),css.length=l.length∧(∀ (i:Nat) (a:α) (cs:List Value),l[i]? = some a→css[i]? = some cs→R a cs)∧(∀ cs∈css,cs.length=sz)∧w.ownsRow base T sz v l.length css.flatten
section
variable {α : Type} {R R' : α → List Value → Prop} {T : TypeId} {sz base : Nat} {w w' : World} {v v' : Value} {l : List α}
theorem dy.nil (w:World) (base:Nat):dy R T sz w base (.slice none 0 0) []:=⟨[],rfl,by simp,by simp,World.ownsRow_nil _ _ _ _⟩
theorem dy.form (h:dy R T sz w base v l):∃ A c,v=.slice A l.length c∧l.length≤c:=by
 obtain⟨_,_,_,_,h4⟩:=h;exact aJ h4
theorem dy.weak (hR:∀ a cs,R a cs→R' a cs) (h:dy R T sz w base v l):dy R' T sz w base v l:=by
 obtain⟨css,h1,h2,h3,h4⟩:=h;exact⟨css,h1,fun i a cs ha hc=>hR a cs (h2 i a cs ha hc),h3,h4⟩
theorem dy.kept (hw:∀ n xs,w.ownsRow base T sz v n xs→w'.ownsRow base T sz v n xs) (hR:∀ a cs,R a cs→R' a cs) (h:dy R T sz w base v l):dy R' T sz w' base v l:=by
 obtain⟨css,h1,h2,h3,h4⟩:=h;exact⟨css,h1,fun i a cs ha hc=>hR a cs (h2 i a cs ha hc),h3,hw _ _ h4⟩
theorem dy.done {A:Option Addr} {c:Nat} {X:Nat→Prop} (h:dy R T sz w base (.slice A l.length c) l) (hR:∀ a cs,R a cs→R' a cs) (hX:∀ b,(Value.slice A l.length c).ownBlock=some b→X b):ck R' w X sz A l.length l:=by
 obtain⟨css,h1,h2,h3,h4⟩:=h;exact⟨css,rfl,h1,fun i a cs ha hc=>hR a cs (h2 i a cs ha hc),h3,cV.cC h4 hX⟩
end
theorem dy.push {α:Type} {R R':α→List Value→Prop} {T:TypeId} {sz base:Nat} {w w':World} {v v':Value} {l:List α} {css:List (List Value)} {a:α} {cs:List Value}
    (h1:css.length=l.length) (h2:∀ (i:Nat) (a:α) (cs:List Value),l[i]? = some a→css[i]? = some cs→R a cs) (h3:∀ cs∈css,cs.length=sz)
    (hR:∀ a cs,R a cs→R' a cs) (ha:R' a cs) (hcs:cs.length=sz) (ak:aP base T sz v w (l.length+1) (css.flatten++cs) v' w'):dy R' T sz w' base v' (l++[a]):=by
 refine⟨css++[cs],by simp [h1],?_,?_,?_⟩
 ·intro i x ds hx hd;rcases Nat.lt_or_ge i l.length with hi | hi
  ·rw [List.getElem?_append_left hi]at hx;rw [List.getElem?_append_left (by omega)]at hd;exact hR x ds (h2 i x ds hx hd)
  rw [List.getElem?_append_right hi]at hx;rw [List.getElem?_append_right (by omega),h1]at hd;have hi0:i - l.length=0:=by
   have:=(List.getElem?_eq_some_iff.1 hx).1;simp at this;omega
  rw [hi0]at hx hd;simp at hx hd;subst hx hd;exact ha
 ·intro ds hd;rcases List.mem_append.1 hd with hd | hd;exact h3 ds hd;simp at hd;subst hd;exact hcs
 have e:(css++[cs]).flatten=css.flatten++cs:=(by simp);have e2:(l++[a]).length=l.length+1:=(by simp);rw [e,e2];exact ak.own
structure aB where
  start:Bool
  fin:Bool
  before:List aa
  source:List aa
  after:List aa
  target:List Int
  af:Int
structure cA where
  name:ByteArray
  rules:List aB
structure bS where
  only? : Bool
  only:aa
  passes:List cA
def jq (w:World) (X:Nat→Prop) (s:aa) (u:Value):Prop:=∃ A n c,u=.slice A n c∧cV w X 2 A n (an s)∧n≤maxLen
def nS (w:World) (X:Nat→Prop) (s:aa) (cs:List Value):Prop:=∃ u,cs = [u]∧jq w X s u
def gO (w:World) (X:Nat→Prop) (l:List aa) (u:Value):Prop:=∃ A n c,u=.slice A n c∧ck (nS w X) w X 1 A n l∧n≤maxLen
def bC (w:World) (X:Nat→Prop) (r:aB) (cs:List Value):Prop :=
  ∃ u1 u2 u3 A n c,cs = [.bool r.start,.bool r.fin,u1,u2,u3,.slice A n c,.int .i64 r.af]∧gO w X r.before u1∧gO w X r.source u2∧gO w X r.after u3∧cV w X 1 A n (runeCells r.target)∧n≤maxLen
def AR (w:World) (X:Nat→Prop) (l:List aB) (u:Value):Prop:=∃ A n c,u=.slice A n c∧ck (bC w X) w X 7 A n l∧n≤maxLen
def cU (w:World) (X:Nat→Prop) (p:cA) (cs:List Value):Prop:=∃ u,cs = [.string p.name,u]∧AR w X p.rules u
def lC (w:World) (X:Nat→Prop) (l:List cA) (u:Value):Prop:=∃ A n c,u=.slice A n c∧ck (cU w X) w X 2 A n l∧n≤maxLen
def ia (w:World) (X:Nat→Prop) (s:bS) (cs:List Value):Prop:=∃ u v,cs = [.bool s.only?,u,v]∧jq w X s.only u∧lC w X s.passes v
section
variable {w w' : World} {X X' : Nat → Prop} (hk : ag w X w' X')
include hk
theorem jq.keep {s:aa} {u:Value} (h:jq w X s u):jq w' X' s u:=by
 obtain⟨A,n,c,e,h1,h2⟩:=h;exact⟨A,n,c,e,h1.keep hk,h2⟩
theorem nS.keep {s:aa} {cs:List Value} (h:nS w X s cs):nS w' X' s cs:=by
 obtain⟨u,e,h⟩:=h;exact⟨u,e,h.keep hk⟩
theorem gO.keep {l:List aa} {u:Value} (h:gO w X l u):gO w' X' l u:=by
 obtain⟨A,n,c,e,h1,h2⟩:=h;exact⟨A,n,c,e,h1.keep hk (fun _ _=>nS.keep hk),h2⟩
theorem bC.keep {r:aB} {cs:List Value} (h:bC w X r cs):bC w' X' r cs:=by
 obtain⟨u1,u2,u3,A,n,c,e,h1,h2,h3,h4,h5⟩:=h;exact⟨u1,u2,u3,A,n,c,e,h1.keep hk,h2.keep hk,h3.keep hk,h4.keep hk,h5⟩
theorem AR.keep {l:List aB} {u:Value} (h:AR w X l u):AR w' X' l u:=by
 obtain⟨A,n,c,e,h1,h2⟩:=h;exact⟨A,n,c,e,h1.keep hk (fun _ _=>bC.keep hk),h2⟩
theorem cU.keep {p:cA} {cs:List Value} (h:cU w X p cs):cU w' X' p cs:=by
 obtain⟨u,e,h⟩:=h;exact⟨u,e,h.keep hk⟩
theorem lC.keep {l:List cA} {u:Value} (h:lC w X l u):lC w' X' l u:=by
 obtain⟨A,n,c,e,h1,h2⟩:=h;exact⟨A,n,c,e,h1.keep hk (fun _ _=>cU.keep hk),h2⟩
theorem ia.keep {s:bS} {cs:List Value} (h:ia w X s cs):ia w' X' s cs:=by
 obtain⟨u,v,e,h1,h2⟩:=h;exact⟨u,v,e,h1.keep hk,h2.keep hk⟩
end
theorem bk {wx:World} {v:Value} {base sz n:Nat} {e:TypeId} {xs:List Value} (h:wx.ownsRow base e sz v n xs) {b:Nat} (hb:v.ownBlock=some b):base≤b∧b<wx.heap.size:=World.ownsRow.lt h b hb
theorem lB {w:World} {g base sz n:Nat} {t e:TypeId} {cs:Array Value} {fz:Nat × Nat} {v:Value} {xs:List Value} (ho:w.ownsRow base e sz v n xs) (h:w.heap[g]? = some (.cells cs t fz)) (hne:t≠e):v.ownBlock≠some g:=by
 rcases ho.2 with ⟨rfl,_⟩ | ⟨g2,cap,cur,rfl,_,hg,_⟩
 ·simp [Value.ownBlock]
 simp only [Value.ownBlock,ne_eq,Option.some.injEq];rintro rfl;rw [h]at hg;injection hg with hg;injection hg with _ ht;exact hne ht
section
variable {lo : Nat} {w2 : World}
theorem qI {e e2:TypeId} {sz sz2 n m:Nat} {v u u':Value} {xs ys:List Value} {w0:World} (h:w0.ownsRow lo e sz v n xs) (ha:aP lo e2 sz2 u w0 m ys u' w2) (hne:v.ownBlock≠u.ownBlock∨v.ownBlock=none):w2.ownsRow lo e sz v n xs:=by
 refine World.ownsRow.kept h ha.2.1 ?_;rcases hne with h | h;exact .inr h;exact .inl h
theorem tS {e e2:TypeId} {sz sz2 n m:Nat} {v u:Value} {xs ys:List Value} {w0:World} (h:w0.ownsRow lo e sz v n xs) (h2:w0.ownsRow lo e2 sz2 u m ys) (hne:e≠e2):v.ownBlock≠u.ownBlock∨v.ownBlock=none:=by
 rcases h.2 with ⟨hv,_⟩ | ⟨g,cap,cur,hv,_,hg,_⟩
 ·right;rw [hv];rfl
 left;rw [hv];intro e;exact lB h2 hg hne e.symm
theorem tB {u v:Value} (h:∀ b,u.ownBlock=some b→v.ownBlock≠some b):v.ownBlock≠u.ownBlock∨v.ownBlock=none:=by
 cases hv:v.ownBlock with
 | none=>exact .inr rfl
 | some b=>
  left;intro e;exact h b e.symm hv
end
theorem gn {w:World} {base sz n g i:Nat} {e t:TypeId} {v u:Value} {xs:List Value} {cs:Array Value} (h:w.ownsRow base e sz v n xs) (hb:aj w g t cs) (hne:t≠e):(w.setCell ⟨g,i,none⟩ u).ownsRow base e sz v n xs:=by
 rcases h.2 with ⟨hv,h0⟩ | ⟨k,cap,cur,hv,h1,h2,h3⟩;exact⟨h.1,.inl ⟨hv,h0⟩⟩;refine⟨h.1,.inr ⟨k,cap,cur,hv,h1,?_,h3⟩⟩;rw [Below.heap_setCell _ _ _ _ ?_];exact h2;intro e;simp only at e;subst e;unfold aj at hb;rw [hb]at h2;injection h2 with h2;injection h2 with _ ht;exact hne ht
theorem bW {w w':World} {g base sz n m:Nat} {t e:TypeId} {cs:Array Value} {v v':Value} {xs ys:List Value} (h:aj w g t cs) (ho:w.ownsRow base e sz v n xs) (hne:t≠e) (ha:aP base e sz v w m ys v' w'):aj w' g t cs:=by
 have hlt:=h.lt;unfold aj at h ⊢;rw [ha.2.1.block g hlt ?_];exact h;intro he;rcases ho.2 with ⟨rfl,_⟩ | ⟨g2,cap,cur,rfl,_,hg,_⟩
 ·simp [Value.ownBlock]at he
 simp only [Value.ownBlock,Option.some.injEq]at he;subst he;rw [h]at hg;injection hg with hg;injection hg with _ ht;exact hne ht
theorem qu {w:World} {g base sz n:Nat} {t e:TypeId} {cs:Array Value} {v:Value} {xs:List Value} (ho:w.ownsRow base e sz v n xs) (h:aj w g t cs) (hne:t≠e):v.ownBlock≠some g:=by
 rcases ho.2 with ⟨rfl,_⟩ | ⟨g2,cap,cur,rfl,_,hg,_⟩
 ·simp [Value.ownBlock]
 simp only [Value.ownBlock,ne_eq,Option.some.injEq];rintro rfl;unfold aj at h;rw [h]at hg;injection hg with hg;injection hg with _ ht;exact hne ht
theorem qs {w:World} {lo sz n g i:Nat} {e:TypeId} {v u:Value} {xs:List Value} (h:w.ownsRow lo e sz v n xs) (hg:g<lo):(w.setCell ⟨g,i,none⟩ u).ownsRow lo e sz v n xs:=by
 rcases h.2 with ⟨hv,h0⟩ | ⟨k,cap,cur,hv,h1,h2,h3⟩;exact⟨h.1,.inl ⟨hv,h0⟩⟩;refine⟨h.1,.inr ⟨k,cap,cur,hv,h1,?_,h3⟩⟩;rw [Below.heap_setCell _ _ _ _ (show k≠g by omega)];exact h2
theorem wG (l:List Int) (x:Int):runeCells (l++[x])=runeCells l++[.int .i32 x]:=by simp [runeCells]
theorem zb (l:List Int) (x:Int):intCells (l++[x])=intCells l++[.int .i64 x]:=by simp [intCells]
structure bB where
  low:Int
  high:Int
  rules:List Int
def mo (w:World) (X:Nat→Prop) (l:List Int) (u:Value):Prop:=∃ A n c,u=.slice A n c∧cV w X 1 A n (intCells l)∧n≤maxLen
def hJ (w:World) (X:Nat→Prop) (h:bB) (cs:List Value):Prop:=∃ u,cs = [.int .i32 h.low,.int .i32 h.high,u]∧mo w X h.rules u
def qp (w:World) (X:Nat→Prop) (l:List bB) (u:Value):Prop:=∃ A n c,u=.slice A n c∧ck (hJ w X) w X 3 A n l∧n≤maxLen
section
variable {w w' : World} {X X' : Nat → Prop} (hk : ag w X w' X')
include hk
theorem mo.keep {l:List Int} {u:Value} (h:mo w X l u):mo w' X' l u:=by
 obtain⟨A,n,c,e,h1,h2⟩:=h;exact⟨A,n,c,e,h1.keep hk,h2⟩
theorem hJ.keep {h:bB} {cs:List Value} (hh:hJ w X h cs):hJ w' X' h cs:=by
 obtain⟨u,e,h1⟩:=hh;exact⟨u,e,h1.keep hk⟩
theorem qp.keep {l:List bB} {u:Value} (h:qp w X l u):qp w' X' l u:=by
 obtain⟨A,n,c,e,h1,h2⟩:=h;exact⟨A,n,c,e,h1.keep hk (fun _ _=>hJ.keep hk),h2⟩
end
theorem mo.len {w:World} {X:Nat→Prop} {l:List Int} {A:Option Addr} {n c:Nat} (h:mo w X l (.slice A n c)):l.length=n∧n≤maxLen:=by
 obtain⟨A',n',c',e,h1,h2⟩:=h;cases e;have:=h1.1;simp [intCells]at this;exact⟨this,h2⟩
def BU (_:Nat):Prop:=True
theorem ag.any {w w':World} {X:Nat→Prop} (hb:Below w.heap.size w w'):ag w X w' X:=ag.below hb (fun _ h _=>h)
theorem cV.of {w:World} {X:Nat→Prop} {sz n:Nat} {A:Option Addr} {xs:List Value} (h:cV w X sz A n xs):Rd w w.heap.size sz A n xs:=h.rd (fun _ _ h=>h)
theorem uX {w:World} {X:Nat→Prop} {A:Option Addr} {n:Nat} {l:List aa} (h:ck (nS w X) w X 1 A n l) {k:Nat} {s:aa} (hk:l[k]? = some s) :
    ∃ (b off:Nat) (A':Option Addr) (n' c':Nat),A=some ⟨b,off,none⟩∧X b∧b<w.heap.size∧w.cell? ⟨b,off+k,none⟩=some (.slice A' n' c')∧kM w w.heap.size A' n' s∧cV w X 2 A' n' (an s)∧n'≤maxLen:=by
 obtain⟨b,off,cs,e,hx,hb,⟨u,rfl,A',n',c',rfl,h1,h2⟩,_,hc⟩:=h.at hk;have:=hc 0 _ rfl;rw [Nat.mul_one,Nat.add_zero]at this;exact⟨b,off,A',n',c',e,hx,hb,this,h1.of,h1,h2⟩
def UI (w:World) (n:Nat) (i:Value) (wr:World):Prop:=∃ j:Nat,j≤n∧i=.int .i64 j∧Below w.heap.size w wr
theorem wM (X:Nat→Prop) (L:List aa) (A:Option Addr) (n c:Nat) (w:World) (hn:n≤1000) (hS:∀ s∈L,aH s) (hL:ck (nS w X) w X 1 A n L) :
    Calls Tryz.prog 100 #[.slice A n c] w fun e w'=>e=.returned (.int .i64 0)∧Below w.heap.size w w':=by
 have aW:=qqh (show L.length=n from hL.len);have HL:=qqh hL;have HS:=qqh hS;clear hL hS;go_enter Tryz.func100,Tryz.ntmps100;go_wp2_with fail;go_loopw [8] (UI w n) (fun i _=>n - (intOf i).toNat);(case atStart=>exact⟨0,Nat.zero_le _,rfl,qqb⟩);obtain⟨j,hj,rfl,hb⟩:=hrel;by_cases hlt:j<n
 ·obtain⟨s,hs⟩:∃ z,L[j]? = some z:=⟨_,List.getElem?_eq_getElem (by rw [aW.out];exact hlt)⟩;obtain⟨b,off,A',n',c',rfl,_,ey,V0,hrd,_,hnn⟩:=uX HL.out hs;have qF:=(hb.cell (p:=⟨b,off+j,none⟩) ey).trans V0;simp only [maxLen]at hnn;have HW:=qqh (show Calls Tryz.prog 39 #[.slice A' n' c'] wr fun e w'=>e=.returned (.int .i64 0)∧Below wr.heap.size wr w' by
   have:=iy A' n' c' s wr (by omega) ((Rd.below hrd hb).more hb.size);rwa [me (HS.out s (List.mem_of_getElem? hs))]at this)
  have HB:=qqh hb;clear hs hrd hb V0;go_wp2_with fail;refine HW.out.mono ?_;rintro e w1 ⟨rfl,aT⟩;have bJ:=qqh (HB.out.trans (aT.mono HB.out.size));go_wp2_with fail;exact⟨⟨j+1,by omega,by go_num,bJ.out⟩,by simp [intOf];omega⟩
 obtain rfl:j=n:=(by omega);go_wp2_with fail;go_ret;exact⟨rfl,hb⟩
theorem nQ (A:Option Addr) (n c:Nat) (w:World) :
    Calls Tryz.prog 105 #[.slice A n c] w fun e w'=>e=.returned (if 200<n then .tuple #[.slice none 0 0,.int .i64 5]else .tuple #[.slice A n c,.int .i64 0])∧w'=w:=by
 by_cases h:200<n
 ·rw [if_pos h];go_enter Tryz.func105,Tryz.ntmps105;go_wp2_with fail;go_ret2;exact⟨rfl,rfl⟩
 rw [if_neg h];go_enter Tryz.func105,Tryz.ntmps105;go_wp2_with fail;go_ret2;exact⟨rfl,rfl⟩
def dn (w:World) (s:aa) (m:Nat) (e:Ending) (w':World):Prop:=∃ A' n' c',e=.returned (.slice A' n' c')∧cV w' (fun b=>w.heap.size≤b) 2 A' n' (an s)∧n'≤m∧n'≤c'∧Below w.heap.size w w'
def U0 (w:World) (s:aa) (n:Nat) (out a i:Value) (wr:World):Prop :=
  ∃ (j k:Nat) (x:Int) (acc:aa),j≤n∧i=.int .i64 j∧a=.int .i32 x∧0≤x∧x≤1114112∧k≤j∧wr.ownsRow w.heap.size 134 2 out k (an acc)∧acc.length=k∧wI s=acc++mu x (s.drop j)∧Below w.heap.size w wr
theorem Ci (A:Option Addr) (n c:Nat) (s:aa) (w:World) (hn:n≤200) (hs:aH s) (hl:kM w w.heap.size A n s) :
    Calls Tryz.prog 107 #[.slice A n c] w (dn w (wI s) 201):=by
 obtain⟨i0,hi,z0,z1,z2⟩:=info_parts jk;have aW:=qqh hl.len;have HL:=qqh hl;have HS:=qqh hs;clear hl hs;go_enter Tryz.func107,Tryz.ntmps107;go_wp2_with fail;go_loopw [3,4,9] (U0 w s n) (fun _ _ i _=>n - (intOf i).toNat);(case atStart=>exact⟨0,0,0,[],Nat.zero_le _,rfl,rfl,by omega,by omega,by omega,World.ownsRow_nil _ _ _ _,rfl,rfl,qqb⟩);obtain⟨j,k,a,acc,hj,rfl,rfl,ha0,mG,hk,hown,hk2,aZ,hb⟩:=hrel;have hz:=hb.size;have hb0:=hb;obtain⟨A3,c3,rfl,lA⟩:=aJ hown;by_cases hlt:j<n
 ·obtain⟨⟨x,y⟩,hx⟩:∃ z,s[j]? = some z:=⟨_,List.getElem?_eq_getElem (by rw [aW.out];exact hlt)⟩;obtain⟨b,off,rfl,ey,c0,c1⟩:=HL.out.at hx;have d0:=(hb.cell (p:=⟨b,off+j*2,none⟩) ey).trans c0;have d1:=(hb.cell (p:=⟨b,off+j*2+1,none⟩) ey).trans c1;have hxy:=HS.out.each (x,y) (List.mem_of_getElem? hx);simp only at hxy;rw [cT hx,mu]at aZ;simp only at aZ;have HX:=qqh hx;have bJ:=qqh (hb.alloc hz (.cells #[.int .i32 x,.int .i32 y] 134));have sJ:=qqh (World.ownsRow.alloc hown (.cells #[.int .i32 x,.int .i32 y] 134));have OD:=qqh hown;have HY:=qqh (aj.new wr 134 #[.int .i32 x,.int .i32 y]);clear hx c0 c1 hown hb hb0;by_cases hgt:a<x
  ·rw [if_pos hgt]at aZ;have HG:=qqh aZ;have nE:=qqh (World.ownsRow.alloc sJ.out (.cells #[.int .i32 a,.int .i32 (x - 1)] 134));have bL:=qqh (bJ.out.alloc bJ.out.size (.cells #[.int .i32 a,.int .i32 (x - 1)] 134));have HN:=qqh (show Rd ((wr.alloc (.cells #[.int .i32 x,.int .i32 y] 134)).alloc (.cells #[.int .i32 a,.int .i32 (x - 1)] 134)) (wr.heap.size+1+1) 2 (some ⟨wr.heap.size+1,0,none⟩) 1 [.int .i32 a,.int .i32 (x - 1)] by
    have:=Rd.new (wr.alloc (.cells #[.int .i32 x,.int .i32 y] 134)) 134 2 1 [.int .i32 a,.int .i32 (x - 1)] rfl;simpa using this)
   clear aZ;go_wp2_with (at_builtin;refine ai _ rfl (.tmp 17) (.tmp 23) 22 rfl w.heap.size 134 i0 _ 2 8 Tryz.underlying22 hi z0 z1 z2 rfl (by decide) _ _ _ rfl nE.out (wr.heap.size+1+1) (some ⟨wr.heap.size+1,0,none⟩) 1 1 [.int .i32 a,.int .i32 (x - 1)] rfl HN.out (lZ _ _) (by simp only [maxLen];omega) (by omega) bL.out.size ?_);intro v' w9 ak;have eF:=qqh (bL.out.trans (ak.below bL.out.size nE.out));have ir:=qqh (show w9.ownsRow w.heap.size 134 2 v' (k+1) (an (acc++[(a,x - 1)])) by rw [gi];exact ak.own);have uk:aj w9 wr.heap.size 134 #[.int .i32 x,.int .i32 y]:=by
    have h1:aj ((wr.alloc (.cells #[.int .i32 x,.int .i32 y] 134)).alloc (.cells #[.int .i32 a,.int .i32 (x - 1)] 134)) wr.heap.size 134 #[.int .i32 x,.int .i32 y]:=HY.out.alloc _;unfold aj at h1 ⊢;rw [ak.2.1.block _ (by simp;omega) (fun e=>?_)];exact h1;have:=(bk OD.out e.symm).2;omega
   have e1:=uk.cell 1;clear ak uk;go_wp2_with fail;exact⟨⟨j+1,k+1,y+1,acc++[(a,x - 1)],by omega,by go_num,rfl,by omega,by omega,by omega,ir.out,by simp;omega,by rw [HG.out];simp,eF.out⟩,by simp [intOf];omega⟩
  rw [if_neg hgt,List.nil_append]at aZ;have HG:=qqh aZ;clear aZ;go_wp2_with fail;exact⟨⟨j+1,k,y+1,acc,by omega,by go_num,rfl,by omega,by omega,by omega,sJ.out,by omega,HG.out,bJ.out⟩,by simp [intOf];omega⟩
 obtain rfl:j=n:=(by omega);rw [List.drop_of_length_le (by rw [aW.out];omega),mu]at aZ;by_cases hle:a≤1114111
 ·rw [if_pos hle]at aZ;have HG:=qqh aZ;have nE:=qqh (World.ownsRow.alloc hown (.cells #[.int .i32 a,.int .i32 1114111] 134));have bL:=qqh (hb.alloc hb.size (.cells #[.int .i32 a,.int .i32 1114111] 134));have HN:=qqh (Rd.new wr 134 2 1 [.int .i32 a,.int .i32 1114111] rfl);clear aZ hown hb hb0;go_wp2_with (at_builtin;refine ai _ rfl (.tmp 31) (.tmp 34) 22 rfl w.heap.size 134 i0 _ 2 8 Tryz.underlying22 hi z0 z1 z2 rfl (by decide) _ _ _ rfl nE.out (wr.heap.size+1) (some ⟨wr.heap.size,0,none⟩) 1 1 [.int .i32 a,.int .i32 1114111] rfl HN.out (lZ _ _) (by simp only [maxLen];omega) (by omega) bL.out.size ?_);intro v' w9 ak;have eF:=qqh (bL.out.trans (ak.below bL.out.size nE.out));have ir:=qqh (show w9.ownsRow w.heap.size 134 2 v' (k+1) (an (wI s)) by rw [HG.out,gi];exact ak.own);clear ak;obtain⟨A9,c9,rfl,MS⟩:=aJ ir.out;go_wp2_with fail;go_ret;exact⟨A9,k+1,c9,rfl,cV.cC ir.out (fun b hb=>(bk ir.out hb).1),by omega,MS,eF.out⟩
 rw [if_neg hle,List.append_nil]at aZ;have ir:=qqh (show wr.ownsRow w.heap.size 134 2 (.slice A3 k c3) k (an (wI s)) by rw [aZ];exact hown);clear aZ hown hb0;go_wp2_with fail;go_ret;exact⟨A3,k,c3,rfl,cV.cC ir.out (fun b hb=>(bk ir.out hb).1),by omega,lA,hb⟩
def PB (w:World) (outs:List aa) (us:List Value):Prop:=∀ (i:Nat) (l:aa) (u:Value),outs[i]? = some l→us[i]? = some u→∃ A n c,u=.slice A n c∧Rd w w.heap.size 2 A n (an l)
theorem PB.below {w w':World} {outs:List aa} {us:List Value} (h:PB w outs us) (hb:Below w.heap.size w w'):PB w' outs us:=by
 intro i l u h1 h2;obtain⟨A,n,c,e,hr⟩:=h i l u h1 h2;exact⟨A,n,c,e,(Rd.below hr hb).more hb.size⟩
theorem C0 (A:Option Addr) (n c:Nat) (l:aa) (w:World) (hn:n≤100000) (hl:kM w w.heap.size A n l) :
    Calls Tryz.prog 64 #[.slice A n c] w fun e w'=>(∃ v,e=.returned v∧w'.ownsRow w.heap.size 134 2 v n (an l))∧Below w.heap.size w w':=by
 obtain⟨i0,hi,z0,z1,z2⟩:=info_parts jk;have RD:=qqh (fun W=>Lib.run_eql_slice_nil (P:=Tryz.prog) W 22 134 A n c 0 0 Tryz.underlying22);have HL:=qqh hl;cases A with
 | none=>
  have h0:n=0:=by
   rcases Nat.eq_zero_or_pos n with h | h;exact h;obtain⟨b,o,e,_⟩:=hl.2 h;cases e
  subst h0;have C5:l = []:=List.eq_nil_of_length_eq_zero hl.len;subst C5;have heq:=fun W=>RD.out W;simp only [Option.isNone_none]at heq;clear hl;go_enter Tryz.func64,Tryz.ntmps64;go_wp2_with fail;go_ret;exact⟨⟨_,rfl,World.ownsRow_nil _ _ _ _⟩,qqb⟩
 | some a=>
  have heq:=fun W=>RD.out W;simp only [Option.isNone_some]at heq;have TA:=qqh (sU w 134 2 w.heap.size w.heap.size rfl qql);have hba:=(Below.refl w.heap.size w).alloc qql (.cells #[] 134);have Ad:=qqh hba;have iE:=qqh ((Rd.below hl hba).more hba.size);clear hba hl;go_enter Tryz.func64,Tryz.ntmps64;go_wp2_with (at_builtin;refine ai _ rfl (.tmp 5) (.tmp 6) 22 rfl w.heap.size 134 i0 _ 2 8 Tryz.underlying22 hi z0 z1 z2 rfl (by decide) _ _ _ rfl TA.out _ (some a) n c (an l) rfl iE.out (lO _) (by simp only [maxLen];omega) (by omega) (by simp) ?_);intro v1 w3 ak;have bM:=qqh (Ad.out.trans (ak.below (by simp) TA.out));have qA:=qqh ak.own;clear ak heq;go_wp2_with fail;go_ret;exact⟨⟨_,rfl,by simpa using qA.out⟩,bM.out⟩
theorem E9 (n:Nat) (w:World) (hn:n≤100000) :
    Calls Tryz.prog 123 #[.slice none 0 0,.int .i64 n] w fun e w'=>(∃ v,e=.returned v∧w'.ownsRow w.heap.size 134 2 v 0 [])∧Below w.heap.size w w':=by
 obtain⟨i0,hi,z0,z1,z2⟩:=info_parts jk;by_cases h0:n=0
 ·subst h0;go_enter Tryz.func123,Tryz.ntmps123;go_wp2_with fail;go_ret;exact⟨⟨_,rfl,World.ownsRow_nil _ _ _ _⟩,qqb⟩
 have hrun:=Lib.run_append_nil_zeros (P:=Tryz.prog) w 22 3 22 134 i0 (.agg #[.int .i32 0,.int .i32 0]) .i64 .i64 Tryz.underlying22 Tryz.underlying3 hi z0 n (by omega) (by omega) (by omega) (by rw [z2];omega);generalize hcap:grownCap w n 0 134 = cap at hrun;have afE:n≤cap:=(by rw [← hcap];exact grownCap_ge w _ 0 134);have aar:cap≤maxLen:=(by rw [← hcap];exact grownCap_le_maxLen w _ 0 134 (by simp only [maxLen];omega));generalize hZ:(Builtin.zeroCells (Value.agg #[.int .i32 0,.int .i32 0]).cells n++Builtin.zeroCells (Value.agg #[.int .i32 0,.int .i32 0]).cells (cap - n))=Z at hrun;have hZs:Z.size=cap*2:=(by rw [← hZ];simp [size_zeroCells,Value.cells];omega);have HR:=qqh hrun
 have HO:=qqh (show(w.drew.alloc (.cells Z 134)).ownsRow w.heap.size 134 2 (.slice (some ⟨w.heap.size,0,none⟩) 0 cap) 0 [] from
   ⟨rfl,.inr ⟨w.heap.size,cap,Z,rfl,qql,heap_alloc_new w.drew _,Nat.zero_le _,aar,by omega,by simp⟩⟩)
 have HB:=qqh (show Below w.heap.size w (w.drew.alloc (.cells Z 134)) from((Below.refl w.heap.size w).drew).alloc qql _);clear hcap hZ hZs hrun;go_enter Tryz.func123,Tryz.ntmps123;go_wp2_with (at_builtin;refine Lib.wpList_append_run _ rfl (.tmp 20) (.tmp 21) _ _ rfl (.slice none 0 0) (.int .i64 n) rfl rfl _ _ HR.out ?_);go_wp2_with fail;go_ret;exact⟨⟨_,rfl,HO.out⟩,HB.out⟩
theorem pS {outs:List aa} {k:Nat} {x:aa} (h:outs[k]? = some x):(outs.take (k+1)).flatten=(outs.take k).flatten++x:=by
 rw [List.take_add_one,h];simp
theorem ru (outs:List aa) (k:Nat):(outs.take k).flatten.length≤outs.flatten.length:=by
 have h:=congrArg (fun z:List aa=>z.flatten.length) (List.take_append_drop k outs);simp only [List.flatten_append,List.length_append]at h;omega
def VB (w:World) (outs:List aa) (m:Nat) (s3 i:Value) (wr:World):Prop :=
  ∃ k:Nat,k≤m∧i=.int .i64 k∧s3=.int .i64 (outs.take k).flatten.length∧w=wr
def RU (w:World) (outs:List aa) (m:Nat) (s6 i:Value) (wr:World):Prop :=
  ∃ (k N:Nat),k≤m∧i=.int .i64 k∧(outs.take k).flatten.length=N∧wr.ownsRow w.heap.size 134 2 s6 N (an (outs.take k).flatten)∧Below w.heap.size w wr
theorem Bv (outs:List aa) (us:List Value) (A:Option Addr) (m c:Nat) (w:World) (hlen:outs.length=m) (hrd:Rd w w.heap.size 1 A m us) (hpc:PB w outs us) (hsum:outs.flatten.length≤100000) (hm:m≤100000) :
    Calls Tryz.prog 102 #[.slice A m c] w fun e w'=>(∃ v,e=.returned v∧w'.ownsRow w.heap.size 134 2 v outs.flatten.length (an outs.flatten))∧Below w.heap.size w w':=by
 obtain⟨i0,hi,z0,z1,z2⟩:=info_parts jk;have aW:=qqh hlen;have pJ:=qqh hrd;have Ik:=qqh hpc;have HUL:=qqh (show us.length=m by have:=hrd.1;omega);have PF:=qqh hsum;clear hlen hrd hpc hsum;go_enter Tryz.func102,Tryz.ntmps102;go_wp2_with fail;go_loopw [3,11] (VB w outs m) (fun _ i _=>m - (intOf i).toNat);(case atStart=>exact⟨0,Nat.zero_le _,rfl,rfl,rfl⟩);obtain⟨k,hk,rfl,rfl,rfl⟩:=hrel;obtain⟨S,hS⟩:∃ S,(outs.take k).flatten.length=S:=⟨_,rfl⟩;have hS1:S≤100000:=(by have:=ru outs k;have:=PF.out;omega);by_cases hlt:k<m
 ·obtain⟨x,hx⟩:∃ x,outs[k]? = some x:=⟨_,List.getElem?_eq_getElem (by rw [aW.out];exact hlt)⟩;obtain⟨u,hu⟩:∃ u,us[k]? = some u:=⟨_,List.getElem?_eq_getElem (by rw [HUL.out];exact hlt)⟩;obtain⟨P,n1,c1,rfl,hr⟩:=Ik.out k x u hx hu;obtain⟨b,o,rfl,_,hc⟩:=pJ.out.2 (by omega);have u0:=hc _ _ hu;have mJ:=hr.1;rw [bt]at mJ;have Ye:=qqh (show(outs.take (k+1)).flatten.length=S+n1 by rw [pS hx,List.length_append,hS];omega);have Sd:S+n1≤100000:=(by have:=Ye.out;have:=ru outs (k+1);have:=PF.out;omega);have hk0:(0:Int)≤(k:Int):=(by omega);have YL:decide ((S:Int)+(n1:Int)<0)=false:=decide_eq_false (by omega);rw [hS];clear hx hu hr hc mJ hS;go_wp2_with fail;exact⟨⟨k+1,by omega,by go_num,by rw [Ye.out];go_num,rfl⟩,by simp [intOf];omega⟩
 obtain rfl:k=m:=(by omega);rw [List.take_of_length_le (by rw [aW.out];exact qql)]at hS ⊢;have HS:=qqh hS;rw [hS];clear hS;go_wp2_with fail;refine(E9 S _ hS1).mono ?_;rintro e w1 ⟨⟨v,rfl,ho⟩,aT⟩;have HO:=qqh ho;have HB:=qqh aT;obtain⟨A1,c1,rfl,_⟩:=aJ ho;clear ho aT;go_wp2_with fail;go_loopw [6,27] (RU w outs k) (fun _ i _=>k - (intOf i).toNat);(case atStart=>exact⟨0,0,Nat.zero_le _,rfl,rfl,HO.out,HB.out⟩);obtain⟨j,N,hj,rfl,hN,ho,hb⟩:=hrel;have HO:=qqh ho;have HB:=qqh hb;have HN:=qqh hN;have hz:=hb.size;have hN1:N≤100000:=(by have:=ru outs j;have:=PF.out;omega);obtain⟨A2,c2,rfl,_⟩:=aJ ho;clear ho hN;by_cases hlt:j<k
 ·obtain⟨x,hx⟩:∃ x,outs[j]? = some x:=⟨_,List.getElem?_eq_getElem (by rw [aW.out];exact hlt)⟩;obtain⟨u,hu⟩:∃ u,us[j]? = some u:=⟨_,List.getElem?_eq_getElem (by rw [HUL.out];exact hlt)⟩;obtain⟨P,n1,Yz,rfl,hr⟩:=(Ik.out.below hb) j x u hx hu;obtain⟨b,o,rfl,ey,hc⟩:=(Rd.below pJ.out hb).2 (by omega);have u0:=hc _ _ hu;have mJ:=hr.1;rw [bt]at mJ;have Ye:=qqh (pS hx);have oP:=qqh (show(outs.take (j+1)).flatten.length=N+n1 by rw [pS hx,List.length_append,HN.out];omega);have Sd:N+n1≤100000:=(by have:=oP.out;have:=ru outs (j+1);have:=PF.out;omega);have HR:=qqh hr;clear hx hu hr hc mJ hb;go_wp2_with (at_builtin;refine ai _ rfl (.tmp 31) (.tmp 32) 22 rfl w.heap.size 134 i0 _ 2 8 Tryz.underlying22 hi z0 z1 z2 rfl (by decide) _ N _ rfl HO.out _ P n1 Yz (an x) rfl HR.out (lO _) (by simp only [maxLen];omega) (by omega) hz ?_);intro v' w9 ak;have eF:=qqh (HB.out.trans (ak.below hz HO.out));have ir:=qqh (show w9.ownsRow w.heap.size 134 2 v' (N+n1) (an (outs.take (j+1)).flatten) by rw [Ye.out,wU];exact ak.own);clear ak;go_wp2_with fail;exact⟨⟨j+1,N+n1,by omega,by go_num,oP.out,ir.out,eF.out⟩,by simp [intOf];omega⟩
 obtain rfl:j=k:=(by omega);have HF:=qqh (show wr.ownsRow w.heap.size 134 2 (.slice A2 N c2) outs.flatten.length (an outs.flatten) by
  have h1:=HO.out;have h2:=HN.out;rw [List.take_of_length_le (by rw [aW.out];exact qql)]at h1 h2;rw [h2];exact h1)
 clear hb;go_wp2_with fail;go_ret;exact⟨⟨_,rfl,HF.out⟩,HB.out⟩
def lR:Nat→List aG→Int × Int
  | _,[]=>(0,0)
  | i,p::r=>if gM p=0 then lR (i+1) r else (gM p,i)
def fu (l:List aG):Int × Int:=if 200<l.length then (5,0)else lR 0 l
theorem GX {w:World} {B n:Nat} {A:Option Addr} {l:List aG} (h:G8 w B A n l) {k:Nat} {p:aG} (hk:l[k]? = some p) :
    ∃ (b off:Nat) (A':Option Addr) (n' c':Nat) (L1 L2 L3 R1 R2 R3:Option Addr) (a1 a2 a3 x1 x2 x3 b1 b2 b3 y1 y2 y3:Nat),A=some ⟨b,off,none⟩∧b<B∧(w.cell? ⟨b,off+k*16,none⟩=some (.int .i64 p.kind)∧w.cell? ⟨b,off+k*16+1,none⟩=some (.string p.name)∧w.cell? ⟨b,off+k*16+2,none⟩=some (.slice A' n' c')∧w.cell? ⟨b,off+k*16+3,none⟩=some (.int .i64 p.dir)∧w.cell? ⟨b,off+k*16+4,none⟩=some (.bool p.left.start)∧w.cell? ⟨b,off+k*16+5,none⟩=some (.bool p.left.fin)∧w.cell? ⟨b,off+k*16+6,none⟩=some (.slice L1 a1 x1)∧w.cell? ⟨b,off+k*16+7,none⟩=some (.slice L2 a2 x2)∧w.cell? ⟨b,off+k*16+8,none⟩=some (.slice L3 a3 x3)∧w.cell? ⟨b,off+k*16+9,none⟩=some (.int .i64 p.left.af)∧w.cell? ⟨b,off+k*16+10,none⟩=some (.bool p.right.start)∧w.cell? ⟨b,off+k*16+11,none⟩=some (.bool p.right.fin)∧w.cell? ⟨b,off+k*16+12,none⟩=some (.slice R1 b1 y1)∧w.cell? ⟨b,off+k*16+13,none⟩=some (.slice R2 b2 y2)∧w.cell? ⟨b,off+k*16+14,none⟩=some (.slice R3 b3 y3)∧w.cell? ⟨b,off+k*16+15,none⟩=some (.int .i64 p.right.af))∧kM w B A' n' p.set∧n'≤maxLen∧bO w B L1 a1 p.left.before∧bO w B L2 a2 p.left.source∧bO w B L3 a3 p.left.after∧a1≤maxLen∧a2≤maxLen∧a3≤maxLen∧bO w B R1 b1 p.right.before∧bO w B R2 b2 p.right.source∧bO w B R3 b3 p.right.after∧b1≤maxLen∧b2≤maxLen∧b3≤maxLen∧kG p.left.af∧kG p.right.af∧p.name.size≤maxLen:=by
 obtain⟨b,off,cs,e,hb,⟨A',n',c',ls,rs,hcs,h1,h2,⟨L1,a1,x1,L2,a2,x2,L3,a3,x3,hls,l1,l2,l3,l4,l5,l6,l7⟩,⟨R1,b1,y1,R2,b2,y2,R3,b3,y3,hrs,r1,r2,r3,r4,r5,r6,r7⟩,_,_,h5⟩,hc⟩:=kf.at h hk;subst hls hrs;subst hcs;exact⟨b,off,A',n',c',L1,L2,L3,R1,R2,R3,a1,a2,a3,x1,x2,x3,b1,b2,b3,y1,y2,y3,e,hb,⟨hc 0 _ rfl,hc 1 _ rfl,hc 2 _ rfl,hc 3 _ rfl,hc 4 _ rfl,hc 5 _ rfl,hc 6 _ rfl,hc 7 _ rfl,hc 8 _ rfl,hc 9 _ rfl,hc 10 _ rfl,hc 11 _ rfl,hc 12 _ rfl,hc 13 _ rfl,hc 14 _ rfl,hc 15 _ rfl⟩,h1,h2,l1,l2,l3,l4,l5,l6,r1,r2,r3,r4,r5,r6,l7,r7,h5⟩
def WQ (w:World) (l:List aG) (n:Nat) (i:Value) (wr:World):Prop :=
  ∃ k:Nat,k≤n∧i=.int .i64 k∧lR 0 l=lR k (l.drop k)∧aj wr w.heap.size 38 #[.int .i64 0,.int .i64 0]∧Below w.heap.size w wr
theorem DW {l:List aF} (h:cj l=0):l.length≤20∧∀ a∈l,nO a=0:=by
 have h20:=lF h;refine⟨h20,?_⟩;unfold cj at h;rw [if_neg (by omega)]at h;clear h20;induction l with
 | nil=>simp
 | cons a l ih=>
  rw [lI]at h;by_cases h1:nO a=0
  ·rw [if_pos h1]at h;intro x hx;rcases List.mem_cons.1 hx with rfl | hx;exact h1;exact ih h x hx
  rw [if_neg h1]at h;exact absurd h h1
theorem Fi {a:aF} (h:nO a=0):(a.kind=1∧bE a.rune=true)∨(a.kind=2∧bA a.set=0)∨(a.kind=3∧ec a.name=true):=by
 unfold nO at h;by_cases h1:a.kind=1
 ·rw [if_pos h1]at h;cases hr:bE a.rune
  ·rw [hr]at h;simp at h
  exact .inl ⟨h1,rfl⟩
 rw [if_neg h1]at h;by_cases h2:a.kind=2
 ·rw [if_pos h2]at h;exact .inr (.inl ⟨h2,h⟩)
 rw [if_neg h2]at h;by_cases h3:a.kind=3
 ·rw [if_pos h3]at h;cases hr:ec a.name
  ·rw [hr]at h;simp at h
  exact .inr (.inr ⟨h3,rfl⟩)
 rw [if_neg h3]at h;cases h
theorem Jj {s:ByteArray} (h:ec s=true):s.size≤20:=by
 unfold ec at h;rw [decide_eq_true_iff]at h;exact h.2.1
theorem GQ {s:bV} {fN:Bool} (h:bN s fN=0):cj s.before=0∧cj s.source=0∧cj s.after=0:=by
 unfold bN at h;by_cases h0:fk [s.before,s.source,s.after] = 0
 ·simp only [fk]at h0;by_cases h1:cj s.before=0
  ·rw [if_pos h1]at h0;by_cases h2:cj s.source=0
   ·rw [if_pos h2]at h0;by_cases h3:cj s.after=0;exact⟨h1,h2,h3⟩;rw [if_neg h3]at h0;exact absurd h0 h3
   rw [if_neg h2]at h0;exact absurd h0 h2
  rw [if_neg h1]at h0;exact absurd h0 h1
 rw [if_neg h0]at h;exact absurd h h0
def Sr (p:aG):Prop :=
  (p.dir=1∨p.dir=2∨p.dir=3)∧(cj p.left.before=0∧cj p.left.source=0∧cj p.left.after=0)∧(cj p.right.before=0∧cj p.right.source=0∧cj p.right.after=0)
theorem qh {p:aG} (h:gM p=0):(p.kind=1∧ec p.name=true∧bA p.set=0)∨(p.kind=3∧bA p.set=0)∨(p.kind=4∧jR p.name=true)∨(p.kind=2∧Sr p):=by
 unfold gM at h;by_cases h1:p.kind=1
 ·rw [if_pos h1]at h;cases hn:ec p.name
  ·rw [hn]at h;simp at h
  rw [hn,if_pos rfl]at h;exact .inl ⟨h1,rfl,h⟩
 rw [if_neg h1]at h;by_cases h3:p.kind=3
 ·rw [if_pos h3]at h;exact .inr (.inl ⟨h3,h⟩)
 rw [if_neg h3]at h;by_cases h4:p.kind=4
 ·rw [if_pos h4]at h;cases hn:jR p.name
  ·rw [hn]at h;simp at h
  exact .inr (.inr (.inl ⟨h4,rfl⟩))
 rw [if_neg h4]at h;by_cases h2:p.kind=2
 ·rw [if_pos h2]at h;unfold cK at h;by_cases hd:p.dir<1∨3<p.dir
  ·rw [if_pos hd]at h;cases h
  rw [if_neg hd]at h;by_cases hl:bN p.left (p.dir != 2)=0
  ·rw [if_pos hl]at h;by_cases hr:bN p.right (p.dir != 1)=0;exact .inr (.inr (.inr ⟨h2,by omega,GQ hl,GQ hr⟩));rw [if_neg hr]at h;exact absurd h hr
  rw [if_neg hl]at h;exact absurd h hl
 rw [if_neg h2]at h;cases h
theorem Kv {l:List aG}:∀ i,(lR i l).1=0→lR i l=(0,0)∧∀ p∈l,gM p=0:=by
 induction l with
 | nil=>intro i _;exact⟨rfl,by simp⟩
 | cons p l ih=>
  intro i h;rw [lR]at h ⊢;by_cases h1:gM p=0
  ·rw [if_pos h1]at h ⊢;obtain⟨h2,h3⟩:=ih (i+1) h;refine⟨h2,fun q hq=>?_⟩;rcases List.mem_cons.1 hq with rfl | hq;exact h1;exact h3 q hq
  rw [if_neg h1]at h;exact absurd h h1
theorem Ph {l:List aG} (h:(fu l).1=0):l.length≤200∧fu l=(0,0)∧∀ p∈l,gM p=0:=by
 unfold fu at h ⊢;by_cases h2:200<l.length
 ·rw [if_pos h2]at h;cases h
 rw [if_neg h2]at h ⊢;obtain⟨h3,h4⟩:=Kv 0 h;exact⟨by omega,h3,h4⟩
def UQ (a:aF):aF:=⟨a.kind,if a.kind=1 then a.rune else 0,if a.kind=2 then a.set else [],if a.kind=3 then a.name else ⟨#[]⟩⟩
def QU:bV:=⟨false,false,[],[],[],0⟩
def tL (w:World) (X:Nat→Prop) (a:aF) (cs:List Value):Prop :=
  ∃ A n c,cs = [.int .i64 a.kind,.int .i32 a.rune,.slice A n c,.string a.name]∧cV w X 2 A n (an a.set)∧n≤maxLen∧kG a.kind∧a.name.size≤maxLen
def iN (w:World) (X:Nat→Prop) (A:Option Addr) (n:Nat) (l:List aF):Prop:=ck (tL w X) w X 4 A n l
def rN (w:World) (X:Nat→Prop) (s:bV) (cs:List Value):Prop :=
  ∃ A1 n1 c1 A2 n2 c2 A3 n3 c3,cs = [.bool s.start,.bool s.fin,.slice A1 n1 c1,.slice A2 n2 c2,.slice A3 n3 c3,.int .i64 s.af] ∧
    iN w X A1 n1 s.before∧iN w X A2 n2 s.source∧iN w X A3 n3 s.after∧n1≤maxLen∧n2≤maxLen∧n3≤maxLen∧kG s.af
def eu (w:World) (X:Nat→Prop) (p:aG) (cs:List Value):Prop :=
  ∃ A n c ls rs,cs = [.int .i64 p.kind,.string p.name,.slice A n c,.int .i64 p.dir]++ls++rs∧cV w X 2 A n (an p.set)∧n≤maxLen∧rN w X p.left ls∧rN w X p.right rs∧kG p.kind∧kG p.dir∧p.name.size≤maxLen
def gQ (w:World) (X:Nat→Prop) (A:Option Addr) (n:Nat) (l:List aG):Prop:=ck (eu w X) w X 16 A n l
section
variable {w w' : World} {X X' : Nat → Prop} (hk : ag w X w' X')
include hk
theorem tL.keep {a:aF} {cs:List Value} (h:tL w X a cs):tL w' X' a cs:=by
 obtain⟨A,n,c,e,h1,h2⟩:=h;exact⟨A,n,c,e,h1.keep hk,h2⟩
theorem iN.keep {A:Option Addr} {n:Nat} {l:List aF} (h:iN w X A n l):iN w' X' A n l:=ck.keep hk (fun _ _=>tL.keep hk) h
theorem rN.keep {s:bV} {cs:List Value} (h:rN w X s cs):rN w' X' s cs:=by
 obtain⟨A1,n1,c1,A2,n2,c2,A3,n3,c3,e,h1,h2,h3,h4⟩:=h;exact⟨A1,n1,c1,A2,n2,c2,A3,n3,c3,e,h1.keep hk,h2.keep hk,h3.keep hk,h4⟩
theorem eu.keep {p:aG} {cs:List Value} (h:eu w X p cs):eu w' X' p cs:=by
 obtain⟨A,n,c,ls,rs,e,h1,h2,h3,h4,h5⟩:=h;exact⟨A,n,c,ls,rs,e,h1.keep hk,h2,h3.keep hk,h4.keep hk,h5⟩
theorem gQ.keep {A:Option Addr} {n:Nat} {l:List aG} (h:gQ w X A n l):gQ w' X' A n l:=ck.keep hk (fun _ _=>eu.keep hk) h
end
section
variable {α : Type} {w : World} {B sz n : Nat} {A : Option Addr}
variable {X : Nat → Prop}
theorem ck.rd {R R':α→List Value→Prop} {l:List α} (hR:∀ a cs,R a cs→R' a cs) (h:ck R w X sz A n l):kf R' w w.heap.size sz A n l:=by
 obtain⟨css,h1,h2,h3,h4,h5⟩:=h;exact⟨css,h1,h2,fun i a cs ha hc=>hR a cs (h3 i a cs ha hc),h4,h5.rd (fun _ _ h=>h)⟩
theorem tL.rd {a:aF} {cs:List Value} (h:tL w X a cs):zI w w.heap.size a cs:=by
 obtain⟨A,n,c,e,h1,h2⟩:=h;exact⟨A,n,c,e,h1.rd (fun _ _ h=>h),h2⟩
theorem iN.rd {l:List aF} (h:iN w X A n l):bO w w.heap.size A n l:=ck.rd (fun _ _=>tL.rd) h
theorem rN.rd {s:bV} {cs:List Value} (h:rN w X s cs):th w w.heap.size s cs:=by
 obtain⟨A1,n1,c1,A2,n2,c2,A3,n3,c3,e,h1,h2,h3,h4⟩:=h;exact⟨A1,n1,c1,A2,n2,c2,A3,n3,c3,e,h1.rd,h2.rd,h3.rd,h4⟩
theorem eu.rd {p:aG} {cs:List Value} (h:eu w X p cs):zm w w.heap.size p cs:=by
 obtain⟨A,n,c,ls,rs,e,h1,h2,h3,h4,h5⟩:=h;exact⟨A,n,c,ls,rs,e,h1.rd (fun _ _ h=>h),h2,h3.rd,h4.rd,h5⟩
theorem gQ.rd {l:List aG} (h:gQ w X A n l):G8 w w.heap.size A n l:=ck.rd (fun _ _=>eu.rd) h
theorem eu.one {p:aG} {cs:List Value} (h:eu w X p cs):cs.length=16∧∀ u∈cs,u.oneCell'=true:=by
 obtain⟨A,n,c,ls,rs,rfl,_,_,⟨A1,n1,c1,A2,n2,c2,A3,n3,c3,rfl,_⟩,⟨B1,m1,d1,B2,m2,d2,B3,m3,d3,rfl,_⟩,_⟩:=h;refine⟨rfl,fun u hu=>?_⟩;simp at hu;rcases hu with rfl | rfl | rfl | rfl | rfl | rfl | rfl | rfl | rfl | rfl | rfl | rfl | rfl | rfl | rfl | rfl <;> rfl
theorem eu.form {q:aG} {cs:List Value} (h:eu w X q cs):∃ A' n' c' L1 a1 x1 L2 a2 x2 L3 a3 x3 R1 b1 y1 R2 b2 y2 R3 b3 y3,cs = [.int .i64 q.kind,.string q.name,.slice A' n' c',.int .i64 q.dir,.bool q.left.start,.bool q.left.fin,.slice L1 a1 x1,.slice L2 a2 x2,.slice L3 a3 x3,.int .i64 q.left.af,.bool q.right.start,.bool q.right.fin,.slice R1 b1 y1,.slice R2 b2 y2,.slice R3 b3 y3,.int .i64 q.right.af]:=by
 obtain⟨A,n,c,ls,rs,rfl,_,_,⟨A1,n1,c1,A2,n2,c2,A3,n3,c3,rfl,_⟩,⟨B1,m1,d1,B2,m2,d2,B3,m3,d3,rfl,_⟩,_⟩:=h;exact⟨A,n,c,A1,n1,c1,A2,n2,c2,A3,n3,c3,B1,m1,d1,B2,m2,d2,B3,m3,d3,rfl⟩
theorem cV.nil (sz:Nat):cV w X sz none 0 []:=⟨by simp,fun h=>absurd h (Nat.lt_irrefl 0)⟩
theorem iN.nil:iN w X none 0 []:=⟨[],rfl,rfl,by simp,by simp,cV.nil 4⟩
theorem kg:rN w X QU [.bool false,.bool false,.slice none 0 0,.slice none 0 0,.slice none 0 0,.int .i64 0] :=
  ⟨none,0,0,none,0,0,none,0,0,rfl,iN.nil,iN.nil,iN.nil,Nat.zero_le _,Nat.zero_le _,Nat.zero_le _,by unfold kG QU;dsimp only;omega⟩
end
theorem I2:(Tryz.prog.info? 86).map (fun i=>(i.zero,i.size,i.bytes))=some (some (.agg #[.int .i64 0,.string ⟨#[]⟩,.slice none 0 0,.int .i64 0,.bool false,.bool false,.slice none 0 0,.slice none 0 0,.slice none 0 0,.int .i64 0,.bool false,.bool false,.slice none 0 0,.slice none 0 0,.slice none 0 0,.int .i64 0]),16,232):=by kernel_rfl
def fK:List aG→ByteArray→Option aa
  | [],_=>none
  | p::r,s=>if p.kind=1∧p.name=s then some p.set else fK r s
def ug (l:List aG) (a:aF):Option aa:=if a.kind=1 then some [(a.rune,a.rune)]else if a.kind=2 then some a.set else fK l a.name
def bY (l:List aG):List aF→Option (List aa)
  | []=>some []
  | a::r=>match ug l a with
    | none=>none
    | some s=>(bY l r).map (s :: ·)
def eS (l:List aG) (from_ to:bV):Option aB :=
  match bY l from_.before,bY l from_.source,bY l from_.after with
  | some a,some b,some c=>some ⟨from_.start,from_.fin,a,b,c,to.source.map (·.rune),if to.af<0 then (to.source.length:Int)else to.af⟩
  | _,_,_=>none
theorem qL (l:List aG) (a b:List aF):bY l (a++b)=match bY l a,bY l b with
    | some x,some y=>some (x++y)
    | _,_=>none:=by
 induction a with
 | nil=>simp [bY];cases bY l b <;> rfl
 | cons x a ih=>
  rw [List.cons_append,bY,bY,ih];cases ug l x with
  | none=>rfl
  | some s=>cases bY l a <;> cases bY l b <;> simp
theorem JV {l:List aG} {x:aF} {s:aa} (h:ug l x=some s):bY l [x] = some [s]:=by
 rw [bY,h,bY];rfl
theorem qy {l:List aG} {L:List aF} {k:Nat} {x:aF} {ll:List aa} {s:aa} (hx:L[k]? = some x) (h1:bY l (L.take k)=some ll) (h2:ug l x=some s):bY l (L.take (k+1))=some (ll++[s]):=by
 rw [List.take_add_one,hx];simp only [Option.toList];rw [qL,h1,JV h2]
theorem Gn {l:List aG} {L:List aF} {k:Nat} {x:aF} (hx:L[k]? = some x) (h2:ug l x=none):bY l L=none:=by
 have e:L=L.take k++x::L.drop (k+1):=by
  rw [← cT hx,List.take_append_drop]
 rw [e,qL,bY,h2];cases bY l (L.take k) <;> rfl
theorem Iz {l:List aG} {L:List aF} {ll:List aa} (h:bY l L=some ll):ll.length=L.length:=by
 induction L generalizing ll with
 | nil=>rw [bY]at h;cases h;rfl
 | cons x L ih=>
  rw [bY]at h;cases hs:ug l x with
  | none=>rw [hs]at h;cases h
  | some s=>
   rw [hs]at h;cases h2:bY l L with
   | none=>rw [h2]at h;cases h
   | some m=>
    rw [h2]at h;cases h;simp [ih h2]
theorem MM (a b:ByteArray):(a.toList == b.toList)=decide (a=b):=by
 rw [Bool.eq_iff_iff,beq_iff_eq,decide_eq_true_iff,Lib.toList_data,Lib.toList_data];constructor
 ·intro h;exact ByteArray.ext (Array.ext' h)
 intro h;rw [h]
theorem MY {xs ys:List Int} {k:Nat} {x y:Int} (hx:xs[k]? = some x) (hy:ys[k]? = some y) (h:x≠y):false=(xs == ys):=by
 symm;rw [beq_eq_false_iff_ne];rintro rfl;rw [hx]at hy;cases hy;exact h rfl
theorem Fm {xs ys:List Int} {k:Nat} {x:Int} (hx:xs[k]? = some x) (hy:ys[k]? = some x) (he:xs.take k=ys.take k):xs.take (k+1)=ys.take (k+1):=by
 rw [List.take_add_one,List.take_add_one,he,hx,hy]
theorem I6 {xs ys:List Int} {n:Nat} (hx:xs.length=n) (hy:ys.length=n) (he:xs.take n=ys.take n):true=(xs == ys):=by
 rw [List.take_of_length_le (by omega),List.take_of_length_le (by omega)]at he;simp [he]
theorem AP (A C:Option Addr) (n m c d:Nat) (xs ys:List Int) (w:World) (hn:n≤9223372036854775807) (hx:xZ w w.heap.size A n xs) (hy:xZ w w.heap.size C m ys) :
    Calls Tryz.prog 143 #[.slice A n c,.slice C m d] w fun e w'=>e=.returned (.bool (xs == ys))∧∃ k,w'=w.drewN k:=by
 have LX:=qqh hx.len;have LY:=qqh hy.len;have HX:=qqh hx;have HY:=qqh hy;clear hx hy;by_cases hnm:n=m
 ·subst hnm;go_enter Tryz.func143,Tryz.ntmps143;go_wp2_with fail;go_loopw [13] (fun i wr=>∃ k q:Nat,k≤n∧i=.int .i64 k∧wr=w.drewN q∧xs.take k=ys.take k) (fun i _=>n - (intOf i).toNat);(case atStart=>exact⟨0,0,Nat.zero_le _,rfl,rfl,rfl⟩);obtain⟨k,q,hk,rfl,rfl,heq⟩:=hrel;have HE:=qqh heq;clear heq;by_cases hlt:k<n
  ·obtain⟨x,hx⟩:∃ z,xs[k]? = some z:=⟨_,List.getElem?_eq_getElem (by rw [LX.out];exact hlt)⟩;obtain⟨y,hy⟩:∃ z,ys[k]? = some z:=⟨_,List.getElem?_eq_getElem (by rw [LY.out];exact hlt)⟩;obtain⟨b1,o1,rfl,aT,hc1⟩:=HX.out.at hx;obtain⟨b2,o2,rfl,aX,hc2⟩:=HY.out.at hy;have EX:=qqh hx;have N1:=qqh hy;clear hx hy;by_cases he:x=y
   ·subst he;go_wp2_with fail;go_quiet (fail);go_wp2_with fail;exact⟨⟨k+1,_,by omega,by go_num,rfl,Fm EX.out N1.out HE.out⟩,by simp [intOf];omega⟩
   have hd:(x != y)=true:=(by rw [bne_iff_ne];exact he);go_wp2_with fail;go_quiet (fail);go_wp2_with fail;go_ret;exact⟨bH (MY EX.out N1.out he),_,World.drewN_drewN _ _ _⟩
  obtain rfl:k=n:=(by omega);go_wp2_with fail;go_ret;exact⟨bH (I6 LX.out LY.out HE.out),_,rfl⟩
 have hne:((n:Int) !=(m:Int))=true:=(by rw [bne_iff_ne];omega);go_enter Tryz.func143,Tryz.ntmps143;go_wp2_with fail;go_ret;refine⟨bH ?_,0,rfl⟩;symm;rw [beq_eq_false_iff_ne];intro e;have h1:=LX.out;have h2:=LY.out;rw [e]at h1;omega
theorem rF {w:World} {g i:Nat} {t:TypeId} {cs:Array Value} {v:Value} (h:aj w g t cs) (hv:cs[i]? = some v):w.setCell ⟨g,i,none⟩ v=w:=by
 have e0:cs.setIfInBounds i v=cs:=by
  apply Array.ext_getElem?;intro k;rw [Array.getElem?_setIfInBounds];by_cases hk:i=k
  ·subst hk;rw [if_pos rfl,hv,if_pos (Array.getElem?_eq_some_iff.1 hv).1]
  rw [if_neg hk]
 have e:(w.setCell ⟨g,i,none⟩ v).heap=w.heap:=by
  unfold World.setCell;apply Array.ext_getElem?;intro k;simp only [Array.getElem?_modify];by_cases hk:g=k
  ·subst hk;unfold aj at h;rw [if_pos rfl,h];simp [e0]
  rw [if_neg hk]
 have e2:w.setCell ⟨g,i,none⟩ v = { w with heap:=(w.setCell ⟨g,i,none⟩ v).heap }:=rfl;rw [e2,e]
def VH:Value→Bool
  | .int _ _=>true
  | .string _=>true
  | .slice _ n _=>n != 0
  | _=>false
def adi (w:World) (g:Nat):Prop:=∀ (j:Nat) (u:Value),w.cell? ⟨g,j,none⟩=some u→VH u=false
end Go.Proofs.YtblinekbpcdbfaaGreatDoor
