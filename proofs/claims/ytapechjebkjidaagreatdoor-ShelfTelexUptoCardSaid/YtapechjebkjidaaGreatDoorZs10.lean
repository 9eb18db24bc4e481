/- Parts + RuleFoot + ResolveP + Item + Items + Side + SideMore + Told + SideWalk + PartP + FileP + ItemOk -/
import Derived.Test.YtapechjebkjidaaGreatDoorZs3
import Derived.Test.YtapechjebkjidaaGreatDoorZs8
import Derived.Test.YtapechjebkjidaaGreatDoorZs2
import Derived.Test.YtapechjebkjidaaGreatDoorZs5
import Derived.Deep.Strs
import Derived.Lib.Strings
set_option maxHeartbeats 3200000
set_option maxRecDepth 100000
namespace Go.Proofs.YtapechjebkjidaaGreatDoor
open Go.RowKit Go.ChangeShapes Go.WideShapes Go.ChangeAt
def kD {α:Type} (R:α→List Value→Prop) (w:World) (B sz:Nat) (A:Option Addr) (n:Nat) (l:List α):Prop :=
  ∃ css:List (List Value),l.length=n∧css.length=n∧(∀ (i:Nat) (a:α) (cs:List Value),l[i]? = some a→css[i]? = some cs→R a cs)∧(∀ cs∈css,cs.length=sz)∧Rd w B sz A n css.flatten
theorem kD.len {α:Type} {R:α→List Value→Prop} {w:World} {B sz n:Nat} {A:Option Addr} {l:List α} (h:kD R w B sz A n l):l.length=n:=by
 obtain⟨_,h1,_⟩:=h;exact h1
theorem kD.at {α:Type} {R:α→List Value→Prop} {w:World} {B sz n:Nat} {A:Option Addr} {l:List α} (h:kD R w B sz A n l) {k:Nat} {a:α} (hk:l[k]? = some a) :
    ∃ (b off:Nat) (cs:List Value),A=some ⟨b,off,none⟩∧b<B∧R a cs∧∀ j u,cs[j]? = some u→w.cell? ⟨b,off+k*sz+j,none⟩=some u:=by
 obtain⟨css,h1,h2,h3,h4,h5,h6⟩:=h;have hlt:k<l.length:=(List.getElem?_eq_some_iff.1 hk).1;obtain⟨b,off,e,hb,hc⟩:=h6 (by omega);obtain⟨cs,hcs⟩:∃ cs,css[k]? = some cs:=⟨_,List.getElem?_eq_getElem (by omega)⟩;refine⟨b,off,cs,e,hb,h3 k a cs hk hcs,fun j u hu=>?_⟩;rw [Nat.add_assoc];exact hc _ _ (dG h4 k cs hcs j u hu)
theorem kD.weak {α:Type} {R R':α→List Value→Prop} {w w':World} {B B' sz n:Nat} {A:Option Addr} {l:List α} (h:kD R w B sz A n l) (hR:∀ a cs,R a cs→R' a cs) (hw:∀ xs,Rd w B sz A n xs→Rd w' B' sz A n xs):kD R' w' B' sz A n l:=by
 obtain⟨css,h1,h2,h3,h4,h5⟩:=h;exact⟨css,h1,h2,fun i a cs ha hc=>hR a cs (h3 i a cs ha hc),h4,hw _ h5⟩
structure aG where
  kind:Int
  rune:Int
  set:af
  name:ByteArray
structure cn where
  start:Bool
  fin:Bool
  before:List aG
  source:List aG
  after:List aG
  aa:Int
structure aI where
  kind:Int
  name:ByteArray
  set:af
  dir:Int
  left:cn
  right:cn
def kP (n:Int):Prop:=-9223372036854775808≤n∧n≤9223372036854775807
def AG (w:World) (B:Nat) (a:aG) (cs:List Value):Prop :=
  ∃ A n c,cs = [.int .i64 a.kind,.int .i32 a.rune,.slice A n c,.string a.name]∧mX w B A n a.set∧n≤maxLen∧kP a.kind∧a.name.size≤maxLen
def bX (w:World) (B:Nat) (A:Option Addr) (n:Nat) (l:List aG):Prop:=kD (AG w B) w B 4 A n l
def uX (w:World) (B:Nat) (s:cn) (cs:List Value):Prop :=
  ∃ A1 n1 c1 A2 n2 c2 A3 n3 c3,cs = [.bool s.start,.bool s.fin,.slice A1 n1 c1,.slice A2 n2 c2,.slice A3 n3 c3,.int .i64 s.aa] ∧
    bX w B A1 n1 s.before∧bX w B A2 n2 s.source∧bX w B A3 n3 s.after∧n1≤maxLen∧n2≤maxLen∧n3≤maxLen∧kP s.aa
def AM (w:World) (B:Nat) (p:aI) (cs:List Value):Prop :=
  ∃ A n c ls rs,cs = [.int .i64 p.kind,.string p.name,.slice A n c,.int .i64 p.dir]++ls++rs∧mX w B A n p.set∧n≤maxLen∧uX w B p.left ls∧uX w B p.right rs∧kP p.kind∧kP p.dir∧p.name.size≤maxLen
def EN (w:World) (B:Nat) (A:Option Addr) (n:Nat) (l:List aI):Prop:=kD (AM w B) w B 16 A n l
section
variable {w w' : World} {B B' : Nat}
theorem AG.weak {a:aG} {cs:List Value} (hw:∀ A sz n xs,Rd w B sz A n xs→Rd w' B' sz A n xs) (h:AG w B a cs):AG w' B' a cs:=by
 obtain⟨A,n,c,e,h1,h2⟩:=h;exact⟨A,n,c,e,hw _ _ _ _ h1,h2⟩
theorem bX.weak {A:Option Addr} {n:Nat} {l:List aG} (hw:∀ A sz n xs,Rd w B sz A n xs→Rd w' B' sz A n xs) (h:bX w B A n l):bX w' B' A n l :=
  kD.weak h (fun _ _=>AG.weak hw) (hw _ _ _)
theorem uX.weak {s:cn} {cs:List Value} (hw:∀ A sz n xs,Rd w B sz A n xs→Rd w' B' sz A n xs) (h:uX w B s cs):uX w' B' s cs:=by
 obtain⟨A1,n1,c1,A2,n2,c2,A3,n3,c3,e,h1,h2,h3,h4⟩:=h;exact⟨A1,n1,c1,A2,n2,c2,A3,n3,c3,e,bX.weak hw h1,bX.weak hw h2,bX.weak hw h3,h4⟩
theorem AM.weak {p:aI} {cs:List Value} (hw:∀ A sz n xs,Rd w B sz A n xs→Rd w' B' sz A n xs) (h:AM w B p cs):AM w' B' p cs:=by
 obtain⟨A,n,c,ls,rs,e,h1,h2,h3,h4,h5⟩:=h;exact⟨A,n,c,ls,rs,e,hw _ _ _ _ h1,h2,uX.weak hw h3,uX.weak hw h4,h5⟩
theorem EN.weak {A:Option Addr} {n:Nat} {l:List aI} (hw:∀ A sz n xs,Rd w B sz A n xs→Rd w' B' sz A n xs) (h:EN w B A n l):EN w' B' A n l :=
  kD.weak h (fun _ _=>AM.weak hw) (hw _ _ _)
theorem gA (hb:Below B w w') (hB:B≤B'):∀ A sz n xs,Rd w B sz A n xs→Rd w' B' sz A n xs:=fun _ _ _ _ h=>Rd.more (Rd.below h hb) hB
end
end Go.Proofs.YtapechjebkjidaaGreatDoor
namespace Go.Proofs.YtapechjebkjidaaGreatDoor
open Go.RowKit
def di (w:World) (X:Nat→Prop) (sz:Nat) (A:Option Addr) (n:Nat) (xs:List Value):Prop :=
  xs.length=n*sz∧(0<n→∃ b off,A=some ⟨b,off,none⟩∧X b∧b<w.heap.size∧∀ j u,xs[j]? = some u→w.cell? ⟨b,off+j,none⟩=some u)
def ag (w:World) (X:Nat→Prop) (w':World) (X':Nat→Prop):Prop:=∀ b,X b→b<w.heap.size→w'.heap[b]? = w.heap[b]?∧X' b∧b<w'.heap.size
section
variable {w w' w2 : World} {X X' X2 : Nat → Prop} {sz n : Nat} {A : Option Addr} {xs : List Value}
theorem ag.refl (h:∀ b,X b→X' b):ag w X w X':=fun b hb hl=>⟨rfl,h b hb,hl⟩
theorem ag.trans (h:ag w X w' X') (h2:ag w' X' w2 X2):ag w X w2 X2:=fun b hb hl=>
  let ⟨e,hx,hl'⟩:=h b hb hl
  let ⟨e2,hx2,jR⟩:=h2 b hx hl'
  ⟨e2.trans e,hx2,jR⟩
theorem ag.below (hb:Below w.heap.size w w') (h:∀ b,X b→b<w.heap.size→X' b):ag w X w' X':=fun b hx hl=>⟨hb.block b hl,h b hx hl,Nat.lt_of_lt_of_le hl hb.size⟩
theorem ag.alloc (o:Obj) (h:∀ b,X b→b<w.heap.size→X' b):ag w X (w.alloc o) X':=fun b hx hl=>⟨heap_alloc_old w o hl,h b hx hl,by simp;omega⟩
theorem ag.app {base n:Nat} {e:TypeId} {v v':Value} (ha:aS base e sz v w n xs v' w') (hX:∀ b,X b→v.ownBlock≠some b) (h:∀ b,X b→b<w.heap.size→X' b):ag w X w' X' :=
  fun b hx hl=>⟨ha.2.1.block b hl (fun e=>hX b hx e.symm),h b hx hl,Nat.lt_of_lt_of_le hl ha.2.1.size⟩
theorem ag.setCell {p:Addr} (u:Value) (hX:∀ b,X b→b≠p.block) (h:∀ b,X b→b<w.heap.size→X' b):ag w X (w.setCell p u) X' :=
  fun b hx hl=>⟨Below.heap_setCell _ _ _ _ (hX b hx),h b hx hl,by simpa using hl⟩
theorem di.keep (hk:ag w X w' X') (h:di w X sz A n xs):di w' X' sz A n xs:=by
 refine⟨h.1,fun hn=>?_⟩;obtain⟨b,off,e,hx,hl,hc⟩:=h.2 hn;obtain⟨he,hx',hl'⟩:=hk b hx hl;exact⟨b,off,e,hx',hl',fun j u hu=>(World.cell?_of_block (w:=w) he).trans (hc j u hu)⟩
theorem di.rd {B:Nat} (h:di w X sz A n xs) (hB:∀ b,X b→b<w.heap.size→b<B):Rd w B sz A n xs :=
  ⟨h.1,fun hn=>let ⟨b,off,e,hx,hl,hc⟩:=h.2 hn;⟨b,off,e,hB b hx hl,hc⟩⟩
theorem di.I4 {B:Nat} (h:Rd w B sz A n xs) (hB:B≤w.heap.size) (hX:∀ b,b<B→X b):di w X sz A n xs :=
  ⟨h.1,fun hn=>let ⟨b,off,e,hb,hc⟩:=h.2 hn;⟨b,off,e,hX b hb,Nat.lt_of_lt_of_le hb hB,hc⟩⟩
theorem di.cj {base c:Nat} {e:TypeId} (h:w.ownsRow base e sz (.slice A n c) n xs) (hX:∀ b,(Value.slice A n c).ownBlock=some b→X b):di w X sz A n xs:=by
 refine⟨h.1,fun hn=>?_⟩;rcases h.2 with ⟨hv,h0⟩ | ⟨g,cap,cur,hv,hg,hh,hr⟩;omega;injection hv with hA;subst hA;refine⟨g,0,rfl,hX g rfl,(Array.getElem?_eq_some_iff.1 hh).1,fun j u hu=>?_⟩;have:=World.ownsRow.cells h (g:=g) rfl j u hu;rwa [jV]at this
theorem di.new (t:TypeId) (cs:List Value) (hl:cs.length=n*sz) (hX:X w.heap.size):di (w.alloc (.cells cs.toArray t)) X sz (some ⟨w.heap.size,0,none⟩) n cs:=by
 refine⟨hl,fun _=>⟨_,_,rfl,hX,by simp,fun j u hu=>?_⟩⟩;rw [(ak.new w t cs.toArray).cell,Nat.zero_add];simpa using hu
end
def cm {α:Type} (R:α→List Value→Prop) (w:World) (X:Nat→Prop) (sz:Nat) (A:Option Addr) (n:Nat) (l:List α):Prop :=
  ∃ css:List (List Value),l.length=n∧css.length=n∧(∀ (i:Nat) (a:α) (cs:List Value),l[i]? = some a→css[i]? = some cs→R a cs)∧(∀ cs∈css,cs.length=sz)∧di w X sz A n css.flatten
theorem cm.len {α:Type} {R:α→List Value→Prop} {w:World} {X:Nat→Prop} {sz n:Nat} {A:Option Addr} {l:List α} (h:cm R w X sz A n l):l.length=n:=by
 obtain⟨_,h1,_⟩:=h;exact h1
theorem cm.keep {α:Type} {R R':α→List Value→Prop} {w w':World} {X X':Nat→Prop} {sz n:Nat} {A:Option Addr} {l:List α} (hk:ag w X w' X') (hR:∀ a cs,R a cs→R' a cs) (h:cm R w X sz A n l):cm R' w' X' sz A n l:=by
 obtain⟨css,h1,h2,h3,h4,h5⟩:=h;exact⟨css,h1,h2,fun i a cs ha hc=>hR a cs (h3 i a cs ha hc),h4,h5.keep hk⟩
theorem cm.at {α:Type} {R:α→List Value→Prop} {w:World} {X:Nat→Prop} {sz n:Nat} {A:Option Addr} {l:List α} (h:cm R w X sz A n l) {k:Nat} {a:α} (hk:l[k]? = some a) :
    ∃ (b off:Nat) (cs:List Value),A=some ⟨b,off,none⟩∧X b∧b<w.heap.size∧R a cs∧cs.length=sz∧∀ j u,cs[j]? = some u→w.cell? ⟨b,off+k*sz+j,none⟩=some u:=by
 obtain⟨css,h1,h2,h3,h4,h5,h6⟩:=h;have hlt:k<l.length:=(List.getElem?_eq_some_iff.1 hk).1;obtain⟨b,off,e,hx,hb,hc⟩:=h6 (by omega);obtain⟨cs,hcs⟩:∃ cs,css[k]? = some cs:=⟨_,List.getElem?_eq_getElem (by omega)⟩;refine⟨b,off,cs,e,hx,hb,h3 k a cs hk hcs,h4 cs (List.mem_of_getElem? hcs),fun j u hu=>?_⟩;rw [Nat.add_assoc];exact hc _ _ (dG h4 k cs hcs j u hu)
def dD {α:Type} (R:α→List Value→Prop) (T:TypeId) (sz:Nat) (w:World) (base:Nat) (v:Value) (l:List α):Prop :=
  ∃ css:List (List Value),css.length=l.length∧(∀ (i:Nat) (a:α) (cs:List Value),l[i]? = some a→css[i]? = some cs→R a cs)∧(∀ cs∈css,cs.length=sz)∧w.ownsRow base T sz v l.length css.flatten
section
variable {α : Type} {R R' : α → List Value → Prop} {T : TypeId} {sz base : Nat} {w w' : World} {v v' : Value} {l : List α}
theorem dD.nil (w:World) (base:Nat):dD R T sz w base (.slice none 0 0) []:=⟨[],rfl,by simp,by simp,World.ownsRow_nil _ _ _ _⟩
theorem dD.form (h:dD R T sz w base v l):∃ A c,v=.slice A l.length c∧l.length≤c:=by
 obtain⟨_,_,_,_,h4⟩:=h;exact aH h4
theorem dD.weak (hR:∀ a cs,R a cs→R' a cs) (h:dD R T sz w base v l):dD R' T sz w base v l:=by
 obtain⟨css,h1,h2,h3,h4⟩:=h;exact⟨css,h1,fun i a cs ha hc=>hR a cs (h2 i a cs ha hc),h3,h4⟩
theorem dD.kept (hw:∀ n xs,w.ownsRow base T sz v n xs→w'.ownsRow base T sz v n xs) (hR:∀ a cs,R a cs→R' a cs) (h:dD R T sz w base v l):dD R' T sz w' base v l:=by
 obtain⟨css,h1,h2,h3,h4⟩:=h;exact⟨css,h1,fun i a cs ha hc=>hR a cs (h2 i a cs ha hc),h3,hw _ _ h4⟩
theorem dD.done {A:Option Addr} {c:Nat} {X:Nat→Prop} (h:dD R T sz w base (.slice A l.length c) l) (hR:∀ a cs,R a cs→R' a cs) (hX:∀ b,(Value.slice A l.length c).ownBlock=some b→X b):cm R' w X sz A l.length l:=by
 obtain⟨css,h1,h2,h3,h4⟩:=h;exact⟨css,rfl,h1,fun i a cs ha hc=>hR a cs (h2 i a cs ha hc),h3,di.cj h4 hX⟩
end
theorem dD.push {α:Type} {R R':α→List Value→Prop} {T:TypeId} {sz base:Nat} {w w':World} {v v':Value} {l:List α} {css:List (List Value)} {a:α} {cs:List Value}
    (h1:css.length=l.length) (h2:∀ (i:Nat) (a:α) (cs:List Value),l[i]? = some a→css[i]? = some cs→R a cs) (h3:∀ cs∈css,cs.length=sz)
    (hR:∀ a cs,R a cs→R' a cs) (ha:R' a cs) (hcs:cs.length=sz) (an:aS base T sz v w (l.length+1) (css.flatten++cs) v' w'):dD R' T sz w' base v' (l++[a]):=by
 refine⟨css++[cs],by simp [h1],?_,?_,?_⟩
 ·intro i x ds hx hd;rcases Nat.lt_or_ge i l.length with hi | hi
  ·rw [List.getElem?_append_left hi]at hx;rw [List.getElem?_append_left (by omega)]at hd;exact hR x ds (h2 i x ds hx hd)
  rw [List.getElem?_append_right hi]at hx;rw [List.getElem?_append_right (by omega),h1]at hd;have hi0:i - l.length=0:=by
   have:=(List.getElem?_eq_some_iff.1 hx).1;simp at this;omega
  rw [hi0]at hx hd;simp at hx hd;subst hx hd;exact ha
 ·intro ds hd;rcases List.mem_append.1 hd with hd | hd;exact h3 ds hd;simp at hd;subst hd;exact hcs
 have e:(css++[cs]).flatten=css.flatten++cs:=(by simp);have e2:(l++[a]).length=l.length+1:=(by simp);rw [e,e2];exact an.own
structure au where
  start:Bool
  fin:Bool
  before:List af
  source:List af
  after:List af
  target:List Int
  aa:Int
structure cE where
  name:ByteArray
  rules:List au
structure bl where
  only? : Bool
  only:af
  passes:List cE
def iQ (w:World) (X:Nat→Prop) (s:af) (u:Value):Prop:=∃ A n c,u=.slice A n c∧di w X 2 A n (aj s)∧n≤maxLen
def mV (w:World) (X:Nat→Prop) (s:af) (cs:List Value):Prop:=∃ u,cs = [u]∧iQ w X s u
def gj (w:World) (X:Nat→Prop) (l:List af) (u:Value):Prop:=∃ A n c,u=.slice A n c∧cm (mV w X) w X 1 A n l∧n≤maxLen
def bE (w:World) (X:Nat→Prop) (r:au) (cs:List Value):Prop :=
  ∃ u1 u2 u3 A n c,cs = [.bool r.start,.bool r.fin,u1,u2,u3,.slice A n c,.int .i64 r.aa]∧gj w X r.before u1∧gj w X r.source u2∧gj w X r.after u3∧di w X 1 A n (runeCells r.target)∧n≤maxLen
def Ca (w:World) (X:Nat→Prop) (l:List au) (u:Value):Prop:=∃ A n c,u=.slice A n c∧cm (bE w X) w X 7 A n l∧n≤maxLen
def cR (w:World) (X:Nat→Prop) (p:cE) (cs:List Value):Prop:=∃ u,cs = [.string p.name,u]∧Ca w X p.rules u
def lJ (w:World) (X:Nat→Prop) (l:List cE) (u:Value):Prop:=∃ A n c,u=.slice A n c∧cm (cR w X) w X 2 A n l∧n≤maxLen
def dP (w:World) (X:Nat→Prop) (s:bl) (cs:List Value):Prop:=∃ u v,cs = [.bool s.only?,u,v]∧iQ w X s.only u∧lJ w X s.passes v
section
variable {w w' : World} {X X' : Nat → Prop} (hk : ag w X w' X')
include hk
theorem iQ.keep {s:af} {u:Value} (h:iQ w X s u):iQ w' X' s u:=by
 obtain⟨A,n,c,e,h1,h2⟩:=h;exact⟨A,n,c,e,h1.keep hk,h2⟩
theorem mV.keep {s:af} {cs:List Value} (h:mV w X s cs):mV w' X' s cs:=by
 obtain⟨u,e,h⟩:=h;exact⟨u,e,h.keep hk⟩
theorem gj.keep {l:List af} {u:Value} (h:gj w X l u):gj w' X' l u:=by
 obtain⟨A,n,c,e,h1,h2⟩:=h;exact⟨A,n,c,e,h1.keep hk (fun _ _=>mV.keep hk),h2⟩
theorem bE.keep {r:au} {cs:List Value} (h:bE w X r cs):bE w' X' r cs:=by
 obtain⟨u1,u2,u3,A,n,c,e,h1,h2,h3,h4,h5⟩:=h;exact⟨u1,u2,u3,A,n,c,e,h1.keep hk,h2.keep hk,h3.keep hk,h4.keep hk,h5⟩
theorem Ca.keep {l:List au} {u:Value} (h:Ca w X l u):Ca w' X' l u:=by
 obtain⟨A,n,c,e,h1,h2⟩:=h;exact⟨A,n,c,e,h1.keep hk (fun _ _=>bE.keep hk),h2⟩
theorem cR.keep {p:cE} {cs:List Value} (h:cR w X p cs):cR w' X' p cs:=by
 obtain⟨u,e,h⟩:=h;exact⟨u,e,h.keep hk⟩
theorem lJ.keep {l:List cE} {u:Value} (h:lJ w X l u):lJ w' X' l u:=by
 obtain⟨A,n,c,e,h1,h2⟩:=h;exact⟨A,n,c,e,h1.keep hk (fun _ _=>cR.keep hk),h2⟩
theorem dP.keep {s:bl} {cs:List Value} (h:dP w X s cs):dP w' X' s cs:=by
 obtain⟨u,v,e,h1,h2⟩:=h;exact⟨u,v,e,h1.keep hk,h2.keep hk⟩
end
theorem bG {wx:World} {v:Value} {base sz n:Nat} {e:TypeId} {xs:List Value} (h:wx.ownsRow base e sz v n xs) {b:Nat} (hb:v.ownBlock=some b):base≤b∧b<wx.heap.size:=World.ownsRow.lt h b hb
theorem lI {w:World} {g base sz n:Nat} {t e:TypeId} {cs:Array Value} {fz:Nat × Nat} {v:Value} {xs:List Value} (ho:w.ownsRow base e sz v n xs) (h:w.heap[g]? = some (.cells cs t fz)) (hne:t≠e):v.ownBlock≠some g:=by
 rcases ho.2 with ⟨rfl,_⟩ | ⟨g2,cap,cur,rfl,_,hg,_⟩
 ·simp [Value.ownBlock]
 simp only [Value.ownBlock,ne_eq,Option.some.injEq];rintro rfl;rw [h]at hg;injection hg with hg;injection hg with _ ht;exact hne ht
section
variable {lo : Nat} {w2 : World}
theorem sH {e e2:TypeId} {sz sz2 n m:Nat} {v u u':Value} {xs ys:List Value} {w0:World} (h:w0.ownsRow lo e sz v n xs) (ha:aS lo e2 sz2 u w0 m ys u' w2) (hne:v.ownBlock≠u.ownBlock∨v.ownBlock=none):w2.ownsRow lo e sz v n xs:=by
 refine World.ownsRow.kept h ha.2.1 ?_;rcases hne with h | h;exact .inr h;exact .inl h
theorem uw {e e2:TypeId} {sz sz2 n m:Nat} {v u:Value} {xs ys:List Value} {w0:World} (h:w0.ownsRow lo e sz v n xs) (h2:w0.ownsRow lo e2 sz2 u m ys) (hne:e≠e2):v.ownBlock≠u.ownBlock∨v.ownBlock=none:=by
 rcases h.2 with ⟨hv,_⟩ | ⟨g,cap,cur,hv,_,hg,_⟩
 ·right;rw [hv];rfl
 left;rw [hv];intro e;exact lI h2 hg hne e.symm
theorem uT {u v:Value} (h:∀ b,u.ownBlock=some b→v.ownBlock≠some b):v.ownBlock≠u.ownBlock∨v.ownBlock=none:=by
 cases hv:v.ownBlock with
 | none=>exact .inr rfl
 | some b=>
  left;intro e;exact h b e.symm hv
end
theorem gJ {w:World} {base sz n g i:Nat} {e t:TypeId} {v u:Value} {xs:List Value} {cs:Array Value} (h:w.ownsRow base e sz v n xs) (hb:ak w g t cs) (hne:t≠e):(w.setCell ⟨g,i,none⟩ u).ownsRow base e sz v n xs:=by
 rcases h.2 with ⟨hv,h0⟩ | ⟨k,cap,cur,hv,h1,h2,h3⟩;exact⟨h.1,.inl ⟨hv,h0⟩⟩;refine⟨h.1,.inr ⟨k,cap,cur,hv,h1,?_,h3⟩⟩;rw [Below.heap_setCell _ _ _ _ ?_];exact h2;intro e;simp only at e;subst e;unfold ak at hb;rw [hb]at h2;injection h2 with h2;injection h2 with _ ht;exact hne ht
theorem bH {w w':World} {g base sz n m:Nat} {t e:TypeId} {cs:Array Value} {v v':Value} {xs ys:List Value} (h:ak w g t cs) (ho:w.ownsRow base e sz v n xs) (hne:t≠e) (ha:aS base e sz v w m ys v' w'):ak w' g t cs:=by
 have hlt:=h.lt;unfold ak at h ⊢;rw [ha.2.1.block g hlt ?_];exact h;intro he;rcases ho.2 with ⟨rfl,_⟩ | ⟨g2,cap,cur,rfl,_,hg,_⟩
 ·simp [Value.ownBlock]at he
 simp only [Value.ownBlock,Option.some.injEq]at he;subst he;rw [h]at hg;injection hg with hg;injection hg with _ ht;exact hne ht
theorem qG {w:World} {g base sz n:Nat} {t e:TypeId} {cs:Array Value} {v:Value} {xs:List Value} (ho:w.ownsRow base e sz v n xs) (h:ak w g t cs) (hne:t≠e):v.ownBlock≠some g:=by
 rcases ho.2 with ⟨rfl,_⟩ | ⟨g2,cap,cur,rfl,_,hg,_⟩
 ·simp [Value.ownBlock]
 simp only [Value.ownBlock,ne_eq,Option.some.injEq];rintro rfl;unfold ak at h;rw [h]at hg;injection hg with hg;injection hg with _ ht;exact hne ht
theorem qZ {w:World} {lo sz n g i:Nat} {e:TypeId} {v u:Value} {xs:List Value} (h:w.ownsRow lo e sz v n xs) (hg:g<lo):(w.setCell ⟨g,i,none⟩ u).ownsRow lo e sz v n xs:=by
 rcases h.2 with ⟨hv,h0⟩ | ⟨k,cap,cur,hv,h1,h2,h3⟩;exact⟨h.1,.inl ⟨hv,h0⟩⟩;refine⟨h.1,.inr ⟨k,cap,cur,hv,h1,?_,h3⟩⟩;rw [Below.heap_setCell _ _ _ _ (show k≠g by omega)];exact h2
theorem x7 (l:List Int) (x:Int):runeCells (l++[x])=runeCells l++[.int .i32 x]:=by simp [runeCells]
theorem yY (l:List Int) (x:Int):intCells (l++[x])=intCells l++[.int .i64 x]:=by simp [intCells]
structure bF where
  low:Int
  high:Int
  rules:List Int
def mI (w:World) (X:Nat→Prop) (l:List Int) (u:Value):Prop:=∃ A n c,u=.slice A n c∧di w X 1 A n (intCells l)∧n≤maxLen
def iw (w:World) (X:Nat→Prop) (h:bF) (cs:List Value):Prop:=∃ u,cs = [.int .i32 h.low,.int .i32 h.high,u]∧mI w X h.rules u
def qE (w:World) (X:Nat→Prop) (l:List bF) (u:Value):Prop:=∃ A n c,u=.slice A n c∧cm (iw w X) w X 3 A n l∧n≤maxLen
section
variable {w w' : World} {X X' : Nat → Prop} (hk : ag w X w' X')
include hk
theorem mI.keep {l:List Int} {u:Value} (h:mI w X l u):mI w' X' l u:=by
 obtain⟨A,n,c,e,h1,h2⟩:=h;exact⟨A,n,c,e,h1.keep hk,h2⟩
theorem iw.keep {h:bF} {cs:List Value} (hh:iw w X h cs):iw w' X' h cs:=by
 obtain⟨u,e,h1⟩:=hh;exact⟨u,e,h1.keep hk⟩
theorem qE.keep {l:List bF} {u:Value} (h:qE w X l u):qE w' X' l u:=by
 obtain⟨A,n,c,e,h1,h2⟩:=h;exact⟨A,n,c,e,h1.keep hk (fun _ _=>iw.keep hk),h2⟩
end
theorem mI.len {w:World} {X:Nat→Prop} {l:List Int} {A:Option Addr} {n c:Nat} (h:mI w X l (.slice A n c)):l.length=n∧n≤maxLen:=by
 obtain⟨A',n',c',e,h1,h2⟩:=h;cases e;have:=h1.1;simp [intCells]at this;exact⟨this,h2⟩
def EA (_:Nat):Prop:=True
theorem ag.any {w w':World} {X:Nat→Prop} (hb:Below w.heap.size w w'):ag w X w' X:=ag.below hb (fun _ h _=>h)
theorem di.of {w:World} {X:Nat→Prop} {sz n:Nat} {A:Option Addr} {xs:List Value} (h:di w X sz A n xs):Rd w w.heap.size sz A n xs:=h.rd (fun _ _ h=>h)
theorem wu {w:World} {X:Nat→Prop} {A:Option Addr} {n:Nat} {l:List af} (h:cm (mV w X) w X 1 A n l) {k:Nat} {s:af} (hk:l[k]? = some s) :
    ∃ (b off:Nat) (A':Option Addr) (n' c':Nat),A=some ⟨b,off,none⟩∧X b∧b<w.heap.size∧w.cell? ⟨b,off+k,none⟩=some (.slice A' n' c')∧mX w w.heap.size A' n' s∧di w X 2 A' n' (aj s)∧n'≤maxLen:=by
 obtain⟨b,off,cs,e,hx,hb,⟨u,rfl,A',n',c',rfl,h1,h2⟩,_,hc⟩:=h.at hk;have:=hc 0 _ rfl;rw [Nat.mul_one,Nat.add_zero]at this;exact⟨b,off,A',n',c',e,hx,hb,this,h1.of,h1,h2⟩
end Go.Proofs.YtapechjebkjidaaGreatDoor
namespace Go.Proofs.YtapechjebkjidaaGreatDoor
open Go.RowKit
def fY:List aI→ByteArray→Option af
  | [],_=>none
  | p::r,s=>if p.kind=1∧p.name=s then some p.set else fY r s
def vC (l:List aI) (a:aG):Option af:=if a.kind=1 then some [(a.rune,a.rune)]else if a.kind=2 then some a.set else fY l a.name
def cB (l:List aI):List aG→Option (List af)
  | []=>some []
  | a::r=>match vC l a with
    | none=>none
    | some s=>(cB l r).map (s :: ·)
def eX (l:List aI) (from_ to:cn):Option au :=
  match cB l from_.before,cB l from_.source,cB l from_.after with
  | some a,some b,some c=>some ⟨from_.start,from_.fin,a,b,c,to.source.map (·.rune),if to.aa<0 then (to.source.length:Int)else to.aa⟩
  | _,_,_=>none
theorem rS (l:List aI) (a b:List aG):cB l (a++b)=match cB l a,cB l b with
    | some x,some y=>some (x++y)
    | _,_=>none:=by
 induction a with
 | nil=>simp [cB];cases cB l b <;> rfl
 | cons x a ih=>
  rw [List.cons_append,cB,cB,ih];cases vC l x with
  | none=>rfl
  | some s=>cases cB l a <;> cases cB l b <;> simp
theorem KL {l:List aI} {x:aG} {s:af} (h:vC l x=some s):cB l [x] = some [s]:=by
 rw [cB,h,cB];rfl
theorem qH {l:List aI} {L:List aG} {k:Nat} {x:aG} {ll:List af} {s:af} (hx:L[k]? = some x) (h1:cB l (L.take k)=some ll) (h2:vC l x=some s):cB l (L.take (k+1))=some (ll++[s]):=by
 rw [List.take_add_one,hx];simp only [Option.toList];rw [rS,h1,KL h2]
theorem Hq {l:List aI} {L:List aG} {k:Nat} {x:aG} (hx:L[k]? = some x) (h2:vC l x=none):cB l L=none:=by
 have e:L=L.take k++x::L.drop (k+1):=by
  rw [← dN hx,List.take_append_drop]
 rw [e,rS,cB,h2];cases cB l (L.take k) <;> rfl
theorem JW {l:List aI} {L:List aG} {ll:List af} (h:cB l L=some ll):ll.length=L.length:=by
 induction L generalizing ll with
 | nil=>rw [cB]at h;cases h;rfl
 | cons x L ih=>
  rw [cB]at h;cases hs:vC l x with
  | none=>rw [hs]at h;cases h
  | some s=>
   rw [hs]at h;cases h2:cB l L with
   | none=>rw [h2]at h;cases h
   | some m=>
    rw [h2]at h;cases h;simp [ih h2]
theorem MX (a b:ByteArray):(a.toList == b.toList)=decide (a=b):=by
 rw [Bool.eq_iff_iff,beq_iff_eq,decide_eq_true_iff,Lib.toList_data,Lib.toList_data];constructor
 ·intro h;exact ByteArray.ext (Array.ext' h)
 intro h;rw [h]
end Go.Proofs.YtapechjebkjidaaGreatDoor
namespace Go.Proofs.YtapechjebkjidaaGreatDoor
open Go.RowKit
def ot (a:aG):Int :=
  if a.kind=1 then (if aK a.rune=true then 0 else 3)else if a.kind=2 then bV a.set else if a.kind=3 then (if ep a.name=true then 0 else 7)else 1
def Nc (a:aG) (A:Option Addr) (n c:Nat):Value:=.agg #[.int .i64 a.kind,.int .i32 a.rune,.slice A n c,.string a.name]
theorem uk {w:World} {A:Option Addr} {n:Nat} {l:af} (h:mX w w.heap.size A n l) (o:Obj):mX (w.alloc o) (w.alloc o).heap.size A n l :=
  gA ((Below.refl _ _).alloc (Nat.le_refl _) o) (by simp) _ _ _ _ h
theorem CG (a:aG) (A:Option Addr) (n c:Nat) (w:World) (hn:n≤9223372036854775807) (hs:mX w w.heap.size A n a.set) :
    Calls Tryz.prog 130 #[Nc a A n c] w fun e w'=>e=.returned (.int .i64 (ot a))∧Below w.heap.size w w':=by
 obtain⟨kind,rune,set,name⟩:=a;have TC:∀ o,Below w.heap.size w (w.alloc o):=fun o=>(Below.refl _ _).alloc (Nat.le_refl _) o;have HS:=Lib.hid (uk hs);have HB:=Lib.hid TC;clear hs TC;unfold Nc ot;dsimp only;by_cases h1:kind=1
 ·subst h1;rw [if_pos rfl];cases hr:aK rune
  all_goals
    go_enter Tryz.func130,Tryz.ntmps130
    go_wp2_with (go_at_call 48;refine(eJ _ _).mono ?_;rintro e w' ⟨rfl,rfl⟩;rw [hr])
    go_ret
    exact⟨rfl,HB.out _⟩
 by_cases h2:kind=2
 ·subst h2;rw [if_neg h1,if_pos rfl];go_enter Tryz.func130,Tryz.ntmps130;go_wp2_with fail;refine(jk A n c set _ hn (HS.out _)).mono ?_;rintro e w' ⟨rfl,hb⟩;go_wp2_with fail;go_ret;exact⟨rfl,(HB.out _).trans (hb.mono (by simp))⟩
 have e1:(kind == 1)=false:=(by simpa using h1);have e2:(kind == 2)=false:=(by simpa using h2);by_cases h3:kind=3
 ·subst h3;rw [if_neg h1,if_neg h2,if_pos rfl];cases hr:ep name
  all_goals
    go_enter Tryz.func130,Tryz.ntmps130
    go_wp2_with (go_at_call 109;refine(jr _ _).mono ?_;rintro e w' ⟨rfl,rfl⟩;rw [hr])
    go_ret
    exact⟨rfl,HB.out _⟩
 have e3:(kind == 3)=false:=(by simpa using h3);rw [if_neg h1,if_neg h2,if_neg h3];clear h1 h2 h3;go_enter Tryz.func130,Tryz.ntmps130;go_wp2_with fail;go_ret;exact⟨rfl,HB.out _⟩
end Go.Proofs.YtapechjebkjidaaGreatDoor
namespace Go.Proofs.YtapechjebkjidaaGreatDoor
open Go.RowKit
def lV:List aG→Int
  | []=>0
  | a::r=>if ot a=0 then lV r else ot a
def cC (l:List aG):Int:=if 20<l.length then 5 else lV l
theorem wG {w:World} {B n:Nat} {A:Option Addr} {l:List aG} (h:bX w B A n l) {k:Nat} {a:aG} (hk:l[k]? = some a) :
    ∃ (b off:Nat) (A':Option Addr) (n' c':Nat),A=some ⟨b,off,none⟩∧b<B∧w.cell? ⟨b,off+k*4,none⟩=some (.int .i64 a.kind)∧w.cell? ⟨b,off+k*4+1,none⟩=some (.int .i32 a.rune) ∧
      w.cell? ⟨b,off+k*4+2,none⟩=some (.slice A' n' c')∧w.cell? ⟨b,off+k*4+3,none⟩=some (.string a.name)∧mX w B A' n' a.set∧n'≤maxLen∧kP a.kind∧a.name.size≤maxLen:=by
 obtain⟨b,off,cs,e,hb,⟨A',n',c',hcs,h1,h2,h3,h4⟩,hc⟩:=kD.at h hk;subst hcs;exact⟨b,off,A',n',c',e,hb,hc 0 _ rfl,hc 1 _ rfl,hc 2 _ rfl,hc 3 _ rfl,h1,h2,h3,h4⟩
def VX (W:World) (l:List aG) (n:Nat) (i:Value) (wr:World):Prop :=
  ∃ k:Nat,k≤n∧i=.int .i64 k∧lV l=lV (l.drop k)∧Below W.heap.size W wr
end Go.Proofs.YtapechjebkjidaaGreatDoor
namespace Go.Proofs.YtapechjebkjidaaGreatDoor
open Go.RowKit
def fD:List (List aG)→Int
  | []=>0
  | l::r=>if cC l=0 then fD r else cC l
def bS (s:cn) (gl:Bool):Int :=
  if fD [s.before,s.source,s.after] = 0 then
    (if s.aa < -1∨(s.source.length:Int)<s.aa then 3 else if gl=true∧s.source.length=0 then 6 else 0)
  else fD [s.before,s.source,s.after]
def gM (l:List aG):Bool:=l.all fun a=>a.kind == 1
def nL (s:cn):Bool:=s.start || s.fin || decide (0<s.before.length) || decide (0<s.after.length)
theorem lM {l:List aG} (h:cC l=0):l.length≤20:=by
 unfold cC at h;by_cases h1:20<l.length
 ·rw [if_pos h1]at h;cases h
 omega
theorem Hl {w:World} {A:Option Addr} {n:Nat} {l:List aG} (h:bX w w.heap.size A n l) (o:Obj):bX (w.alloc o) (w.alloc o).heap.size A n l :=
  bX.weak (gA ((Below.refl _ _).alloc (Nat.le_refl _) o) (by simp)) h
theorem aP {w w':World} {A:Option Addr} {n:Nat} {l:List aG} (h:bX w w.heap.size A n l) (hb:Below w.heap.size w w'):bX w' w'.heap.size A n l :=
  bX.weak (gA hb hb.size) h
end Go.Proofs.YtapechjebkjidaaGreatDoor
namespace Go.Proofs.YtapechjebkjidaaGreatDoor
open Go.RowKit
theorem GZ (a:aG) (l:List aG):gM (a::l)=((a.kind == 1) && gM l):=rfl
def Wa (W:World) (l:List aG) (n:Nat) (i:Value) (wr:World):Prop :=
  ∃ k:Nat,k≤n∧i=.int .i64 k∧gM l=gM (l.drop k)∧Below W.heap.size W wr
theorem gQ (s:cn) (A1 A2 A3:Option Addr) (n1 n2 n3 c1 c2 c3:Nat) (w:World) (h1:s.before.length=n1) (h3:s.after.length=n3) (m1:n1≤20) (m3:n3≤20) :
    Calls Tryz.prog 113 #[.agg #[.bool s.start,.bool s.fin,.slice A1 n1 c1,.slice A2 n2 c2,.slice A3 n3 c3,.int .i64 s.aa]] w fun e w'=>e=.returned (.bool (!nL s))∧Below w.heap.size w w':=by
 have hv:nL s=(s.start || s.fin || decide (0<n1) || decide (0<n3)):=(by unfold nL;rw [h1,h3]);rw [hv];clear hv h1 h3;obtain⟨start,fin,before,l,after,aa⟩:=s;dsimp only;cases start <;> cases fin
 ·go_enter Tryz.func113,Tryz.ntmps113;go_wp2_with fail;go_ret;exact⟨bI (by rw [Bool.eq_iff_iff];simp;omega),(Below.refl _ _).alloc (Nat.le_refl _) _⟩
 all_goals
   go_enter Tryz.func113,Tryz.ntmps113
   go_wp2_with fail
   go_ret
   exact⟨bI (by simp),(Below.refl _ _).alloc (Nat.le_refl _) _⟩
theorem NV (a:aG) (A:Option Addr) (n c:Nat) (w:World) :
    Calls Tryz.prog 132 #[.agg #[.int .i64 a.kind,.int .i32 a.rune,.slice A n c,.string a.name]] w fun e w'=>e=.returned (.bool (a.kind != 1))∧Below w.heap.size w w':=by
 go_enter Tryz.func132,Tryz.ntmps132;go_wp2_with fail;go_ret;exact⟨rfl,(Below.refl _ _).alloc (Nat.le_refl _) _⟩
end Go.Proofs.YtapechjebkjidaaGreatDoor
namespace Go.Proofs.YtapechjebkjidaaGreatDoor
open Go.RowKit
theorem Fw (A:Option Addr) (n c:Nat) (l:List aG) (fv:Value) (Y0:fv=.func (.func 132) #[] #[]) (w:World) (hl:bX w w.heap.size A n l) (m:n≤maxLen) :
    Calls Tryz.prog 148 #[.slice A n c,fv] w fun e w'=>(∃ z:Int,e=.returned (.int .i64 z)∧(decide (0≤z) = !gM l))∧Below w.heap.size w w':=by
 subst Y0;have aY:=Lib.hid (kD.len hl);have HL:=Lib.hid hl;have hn2:n≤9223372036854775807:=(by unfold maxLen at m;omega);clear hl m;go_enter Tryz.func148,Tryz.ntmps148;go_wp2_with fail;go_loopw [8] (Wa w l n) (fun i _=>n - (intOf i).toNat);(case atStart=>exact⟨0,Nat.zero_le _,rfl,rfl,Below.refl _ _⟩);obtain⟨k,hk,rfl,bf,hb⟩:=hrel;have hz:=hb.size;by_cases hlt:k<n
 ·obtain⟨a,ha⟩:∃ z,l[k]? = some z:=⟨_,List.getElem?_eq_getElem (by rw [aY.out];exact hlt)⟩;rw [dN ha,GZ]at bf;obtain⟨b,off,A',n',c',rfl,dL,c0,Y1,Q7,c3',_,_,_,_⟩:=wG HL.out ha;have d0:=(hb.cell (p:=⟨b,off+k*4,none⟩) dL).trans c0;have d1:=(hb.cell (p:=⟨b,off+k*4+1,none⟩) dL).trans Y1;have d2:=(hb.cell (p:=⟨b,off+k*4+2,none⟩) dL).trans Q7;have d3:=(hb.cell (p:=⟨b,off+k*4+3,none⟩) dL).trans c3';have HT:=Lib.hid (NV a A' n' c' wr);clear c0 Y1 Q7 c3';by_cases hk1:a.kind=1
  ·have HG:=Lib.hid (bf.trans (show(a.kind == 1 && gM (l.drop (k+1)))=gM (l.drop (k+1)) by simp [hk1]));have hk2:(a.kind != 1)=false:=(by simpa using hk1);clear bf hk1;go_wp2_with fail;refine HT.out.mono ?_;rintro e w2 ⟨rfl,aL⟩;have bQ:=hb.trans (aL.mono hz);rw [hk2];clear aL;go_wp2_with fail;exact⟨⟨k+1,by omega,by go_num,HG.out,bQ⟩,by simp [intOf];omega⟩
  have HG:=Lib.hid (bf.trans (show(a.kind == 1 && gM (l.drop (k+1)))=false by simp [hk1]));have hk2:(a.kind != 1)=true:=(by simpa using hk1);clear bf hk1;go_wp2_with fail;refine HT.out.mono ?_;rintro e w2 ⟨rfl,aL⟩;have bQ:=hb.trans (aL.mono hz);rw [hk2];clear aL;go_wp2_with fail;go_ret;exact⟨⟨_,rfl,by rw [HG.out];simp⟩,bQ⟩
 obtain rfl:k=n:=(by omega);rw [List.drop_of_length_le (by rw [aY.out];omega)]at bf;have HG:=Lib.hid (bf.trans (show gM [] = true from rfl));clear bf;go_wp2_with fail;go_ret;exact⟨⟨_,rfl,by rw [HG.out];simp⟩,hb⟩
theorem NU (A:Option Addr) (n c:Nat) (l:List aG) (fv:Value) (Y0:fv=.func (.func 132) #[] #[]) (w:World) (hl:bX w w.heap.size A n l) (m:n≤maxLen) :
    Calls Tryz.prog 131 #[.slice A n c,fv] w fun e w'=>e=.returned (.bool (!gM l))∧Below w.heap.size w w':=by
 have H:=Lib.hid (Fw A n c l fv Y0 w hl m);clear hl m Y0;go_enter Tryz.func131,Tryz.ntmps131;go_wp2_with fail;refine H.out.mono ?_;rintro e w2 ⟨⟨z,rfl,hz⟩,hb⟩;have HZ:=Lib.hid hz;clear hz;go_wp2_with fail;go_ret;exact⟨bI HZ.out,hb⟩
theorem gU (s:cn) (A1 A2 A3:Option Addr) (n1 n2 n3 c1 c2 c3:Nat) (w:World) (h2:bX w w.heap.size A2 n2 s.source) (m2:n2≤maxLen) :
    Calls Tryz.prog 112 #[.agg #[.bool s.start,.bool s.fin,.slice A1 n1 c1,.slice A2 n2 c2,.slice A3 n3 c3,.int .i64 s.aa]] w fun e w'=>e=.returned (.bool (gM s.source))∧Below w.heap.size w w':=by
 obtain⟨start,fin,before,l,after,aa⟩:=s;dsimp only at h2 ⊢;have H:=Lib.hid (fun o=>NU A2 n2 c2 l _ rfl (w.alloc o) (Hl h2 o) m2);have HB:=Lib.hid (fun o=>(Below.refl w.heap.size w).alloc (Nat.le_refl _) o);clear h2 m2;go_enter Tryz.func112,Tryz.ntmps112;go_wp2_with fail;refine(H.out _).mono ?_;rintro e w2 ⟨rfl,hb⟩;have aL:=(HB.out _).trans (hb.mono (by simp));clear hb;go_wp2_with fail;go_ret;exact⟨bI (by simp),aL⟩
end Go.Proofs.YtapechjebkjidaaGreatDoor
namespace Go.Proofs.YtapechjebkjidaaGreatDoor
open Go.RowKit
def U5 (W:World) (s:cn) (i:Value) (wr:World):Prop :=
  ∃ j:Nat,j≤3∧i=.int .i64 j∧fD [s.before,s.source,s.after] = fD ([s.before,s.source,s.after].drop j)∧Below W.heap.size W wr
theorem all_cons (l:List aG) (r:List (List aG)):fD (l::r)=if cC l=0 then fD r else cC l:=rfl
theorem JM (s:cn) (W:World) (A1 A2 A3:Option Addr) (n1 n2 n3 c1 c2 c3:Nat) (h1:bX W W.heap.size A1 n1 s.before) (h2:bX W W.heap.size A2 n2 s.source) (h3:bX W W.heap.size A3 n3 s.after) (m1:n1≤maxLen) (m2:n2≤maxLen) (m3:n3≤maxLen) (j:Nat) (hj:j<3) :
    ∃ (A:Option Addr) (n c:Nat) (l:List aG),(#[.slice A1 n1 c1,.slice A2 n2 c2,.slice A3 n3 c3]:Array Value)[j]? = some (.slice A n c)∧bX W W.heap.size A n l∧n≤maxLen ∧ [s.before,s.source,s.after].drop j=l::[s.before,s.source,s.after].drop (j+1):=by
 match j,hj with
 | 0,_=>exact⟨A1,n1,c1,s.before,rfl,h1,m1,rfl⟩
 | 1,_=>exact⟨A2,n2,c2,s.source,rfl,h2,m2,rfl⟩
 | 2,_=>exact⟨A3,n3,c3,s.after,rfl,h3,m3,rfl⟩
theorem gP (s:cn) (gl:Bool) (A1 A2 A3:Option Addr) (n1 n2 n3 c1 c2 c3:Nat) (w:World) (h1:bX w w.heap.size A1 n1 s.before) (h2:bX w w.heap.size A2 n2 s.source) (h3:bX w w.heap.size A3 n3 s.after) (m1:n1≤maxLen) (m2:n2≤maxLen) (m3:n3≤maxLen) :
    Calls Tryz.prog 111 #[.agg #[.bool s.start,.bool s.fin,.slice A1 n1 c1,.slice A2 n2 c2,.slice A3 n3 c3,.int .i64 s.aa],.bool gl] w fun e w'=>e=.returned (.int .i64 (bS s gl))∧Below w.heap.size w w':=by
 have jR:=kD.len h2;generalize hcs:(#[.bool s.start,.bool s.fin,.slice A1 n1 c1,.slice A2 n2 c2,.slice A3 n3 c3,.int .i64 s.aa]:Array Value)=cs;have aT:Below w.heap.size w (w.alloc (.cells cs 95)):=(Below.refl _ _).alloc (Nat.le_refl _) _;have aL:Below w.heap.size w ((w.alloc (.cells cs 95)).alloc (.cells #[.slice A1 n1 c1,.slice A2 n2 c2,.slice A3 n3 c3] 93)):=aT.alloc aT.size _;have hk1:ak ((w.alloc (.cells cs 95)).alloc (.cells #[.slice A1 n1 c1,.slice A2 n2 c2,.slice A3 n3 c3] 93)) w.heap.size 95 cs:=(ak.new _ _ _).alloc _;have hk2:ak ((w.alloc (.cells cs 95)).alloc (.cells #[.slice A1 n1 c1,.slice A2 n2 c2,.slice A3 n3 c3] 93)) (w.heap.size+1) 93 #[.slice A1 n1 c1,.slice A2 n2 c2,.slice A3 n3 c3]:=by
  have:=ak.new (w.alloc (.cells cs 95)) 93 #[.slice A1 n1 c1,.slice A2 n2 c2,.slice A3 n3 c3];simpa using this
 have iA:=Lib.hid (JM s _ A1 A2 A3 n1 n2 n3 c1 c2 c3 (aP h1 aL) (aP h2 aL) (aP h3 aL) m1 m2 m3);have hm2:n2≤9223372036854775807:=(by unfold maxLen at m2;omega);have HB:=Lib.hid aL;have OW:=Lib.hid hk1;have TA:=Lib.hid hk2;clear h1 h2 h3 m1 m2 m3 aT aL hk1 hk2;subst hcs;go_enter Tryz.func111,Tryz.ntmps111;go_wp2_with fail;generalize hW:((w.alloc (.cells #[.bool s.start,.bool s.fin,.slice A1 n1 c1,.slice A2 n2 c2,.slice A3 n3 c3,.int .i64 s.aa] 95)).alloc (.cells #[.slice A1 n1 c1,.slice A2 n2 c2,.slice A3 n3 c3] 93))=W at *;clear hW;go_loopw [18] (U5 W s) (fun i _=>3 - (intOf i).toNat);(case atStart=>exact⟨0,by omega,rfl,rfl,Below.refl _ _⟩);obtain⟨j,hj,rfl,hall,hb⟩:=hrel;have hz:=hb.size;by_cases hj3:j<3
 ·obtain⟨A,n,c,l,hc,hl,hm,hd⟩:=iA.out j hj3;rw [hd,all_cons l]at hall;have dj:wr.cell? ⟨w.heap.size+1,j,none⟩=some (.slice A n c):=by
   rw [(ak.below TA.out hb TA.out.lt).cell j];exact hc
  have ht:decide ((j:Int)<3)=true:=decide_eq_true (by omega);have aY:=Lib.hid (kD.len hl);have HL:=Lib.hid hl;have hn:n≤9223372036854775807:=(by unfold maxLen at hm;omega);clear hl hc hd hm;by_cases h20:20<n
  ·have Yx:cC l=5:=(by unfold cC;rw [if_pos (by rw [aY.out];exact h20)]);rw [if_neg (by rw [Yx];decide),Yx]at hall;have HV:=Lib.hid (show bS s gl=5 by unfold bS;rw [hall];rfl);clear hall Yx;go_wp2_with fail;go_ret;rw [HV.out];exact⟨rfl,HB.out.trans (hb.mono HB.out.size)⟩
  have hlg:cC l=lV l:=(by unfold cC;rw [if_neg (by rw [aY.out];exact h20)]);rw [hlg]at hall;have HA:=Lib.hid hall;clear hall hlg;go_wp2_with fail;go_loopw [27] (VX W l n) (fun i _=>n - (intOf i).toNat);(case atStart=>exact⟨0,Nat.zero_le _,rfl,rfl,hb⟩);clear hb hz;obtain⟨k,hk,rfl,bf,hb⟩:=hrel;have hz:=hb.size;by_cases hlt:k<n
  ·obtain⟨a,ha⟩:∃ z,l[k]? = some z:=⟨_,List.getElem?_eq_getElem (by rw [aY.out];exact hlt)⟩;rw [dN ha,lV]at bf;obtain⟨b,off,A',n',c',rfl,dL,d0,d1,d2,d3,yP,hn',_,hnm⟩:=wG HL.out ha;have d0:=(hb.cell (p:=⟨b,off+k*4,none⟩) dL).trans d0;have d1:=(hb.cell (p:=⟨b,off+k*4+1,none⟩) dL).trans d1;have d2:=(hb.cell (p:=⟨b,off+k*4+2,none⟩) dL).trans d2;have d3:=(hb.cell (p:=⟨b,off+k*4+3,none⟩) dL).trans d3;have aT:=fun o=>hb.alloc hz o;have HI:=Lib.hid (fun o=>CG a A' n' c' (World.alloc _ o) (by unfold maxLen at hn';omega) (Rd.more (Rd.below yP (aT o)) (by simp;omega)));have bT:=Lib.hid aT;clear yP aT hnm hn';unfold Nc at HI;by_cases hi:ot a=0
   ·rw [if_pos hi]at bf;have HG:=Lib.hid bf;clear bf;go_wp2_with fail;refine(HI.out _).mono ?_;rintro e w2 ⟨rfl,aL⟩;rw [hi];have bQ:=(bT.out _).trans (aL.mono (by simp;omega));have bW:=Lib.hid bQ;clear aL bQ;go_wp2_with fail;exact⟨⟨k+1,by omega,by go_num,HG.out,bW.out⟩,by simp [intOf];omega⟩
   rw [if_neg hi]at bf;have hi2:(ot a != 0)=true:=(by simpa using hi);have Rx:=HA.out;rw [bf,if_neg hi]at Rx;have HV:=Lib.hid (show bS s gl=ot a by unfold bS;rw [Rx,if_neg hi]);clear bf hi Rx;go_wp2_with fail;refine(HI.out _).mono ?_;rintro e w2 ⟨rfl,aL⟩;have bQ:=(bT.out _).trans (aL.mono (by simp;omega));have bW:=Lib.hid bQ;clear aL bQ;go_wp2_with fail;go_ret;rw [HV.out];exact⟨rfl,HB.out.trans (bW.out.mono HB.out.size)⟩
  obtain rfl:k=n:=(by omega);rw [List.drop_of_length_le (by rw [aY.out];omega)]at bf;have Rx:=HA.out;rw [bf,if_pos (show lV [] = 0 from rfl)]at Rx;have HG:=Lib.hid Rx;clear bf Rx;go_wp2_with fail;exact⟨⟨j+1,by omega,by go_num,HG.out,hb⟩,by simp [intOf];omega⟩
 obtain rfl:j=3:=(by omega);have ha0:fD [s.before,s.source,s.after] = 0:=hall;have i9:=ak.below OW.out hb OW.out.lt;have d3:wr.cell? ⟨w.heap.size,3,none⟩=some (.slice A2 n2 c2):=i9.cell 3;have d5:wr.cell? ⟨w.heap.size,5,none⟩=some (.int .i64 s.aa):=i9.cell 5;have hb0:=HB.out.trans (hb.mono HB.out.size);have HS:=Lib.hid (show bS s gl=if s.aa < -1∨(n2:Int)<s.aa then 3 else if gl=true∧n2=0 then 6 else 0 by unfold bS;rw [if_pos ha0,jR]);clear hall ha0 i9 jR;have ek:=Lib.hid hb0;clear hb0;by_cases hc:s.aa < -1∨(n2:Int)<s.aa
 ·have HV:=Lib.hid (show bS s gl=3 by rw [HS.out,if_pos hc]);rcases (show s.aa < -1∨(-1≤s.aa∧(n2:Int)<s.aa) by omega)with h | ⟨h,h'⟩
  all_goals
    clear hc
    go_wp2_with fail
    go_ret
    rw [HV.out]
    exact⟨rfl,ek.out⟩
 have hc1 : -1≤s.aa:=(by omega);have hc2:s.aa≤n2:=(by omega);cases hmust:gl
 ·have HV:=Lib.hid (show bS s false=0 by rw [← hmust,HS.out,if_neg hc,hmust];simp);subst hmust;clear hc;go_wp2_with fail;go_ret;rw [HV.out];exact⟨rfl,ek.out⟩
 subst hmust;by_cases h0:n2=0
 ·have HV:=Lib.hid (show bS s true=6 by rw [HS.out,if_neg hc,h0];simp);have sY:((n2:Int) == 0)=true:=(by simp;omega);clear hc;go_wp2_with fail;go_ret;rw [HV.out];exact⟨rfl,ek.out⟩
 have HV:=Lib.hid (show bS s true=0 by rw [HS.out,if_neg hc];simp [h0]);have sY:((n2:Int) == 0)=false:=(by simp;omega);clear hc;go_wp2_with fail;go_ret;rw [HV.out];exact⟨rfl,ek.out⟩
end Go.Proofs.YtapechjebkjidaaGreatDoor
namespace Go.Proofs.YtapechjebkjidaaGreatDoor
open Go.RowKit
def vI (dir:Int) (left right:cn):Bool :=
  (dir == 2 || gM right.source) && (dir == 1 || gM left.source) && (dir != 1 || (!nL right && decide (left.aa<0))) && (dir != 2 || (!nL left && decide (right.aa<0)))
def cW (dir:Int) (left right:cn):Int :=
  if dir<1∨3<dir then 1
  else if bS left (dir != 2)=0 then (if bS right (dir != 1)=0 then (if vI dir left right=true then 0 else 8)else bS right (dir != 1))
  else bS left (dir != 2)
def gX (p:aI):Int :=
  if p.kind=1 then (if ep p.name=true then bV p.set else 7)
  else if p.kind=3 then bV p.set
  else if p.kind=4 then (if jZ p.name=true then 0 else 7)
  else if p.kind=2 then cW p.dir p.left p.right
  else 1
theorem Kw {s:cn} (h:fD [s.before,s.source,s.after] = 0):s.before.length≤20∧s.source.length≤20∧s.after.length≤20:=by
 simp only [fD]at h;by_cases h1:cC s.before=0
 ·rw [if_pos h1]at h;by_cases h2:cC s.source=0
  ·rw [if_pos h2]at h;by_cases h3:cC s.after=0;exact⟨lM h1,lM h2,lM h3⟩;rw [if_neg h3]at h;exact absurd h h3
  rw [if_neg h2]at h;exact absurd h h2
 rw [if_neg h1]at h;exact absurd h h1
theorem dW {s:cn} {gl:Bool} (h:bS s gl=0):s.before.length≤20∧s.source.length≤20∧s.after.length≤20:=by
 unfold bS at h;by_cases h1:fD [s.before,s.source,s.after] = 0;exact Kw h1;rw [if_neg h1]at h;exact absurd h h1
end Go.Proofs.YtapechjebkjidaaGreatDoor
namespace Go.Proofs.YtapechjebkjidaaGreatDoor
open Go.RowKit
def lW:Nat→List aI→Int × Int
  | _,[]=>(0,0)
  | i,p::r=>if gX p=0 then lW (i+1) r else (gX p,i)
def fJ (l:List aI):Int × Int:=if 200<l.length then (5,0)else lW 0 l
theorem I0 {w:World} {B n:Nat} {A:Option Addr} {l:List aI} (h:EN w B A n l) {k:Nat} {p:aI} (hk:l[k]? = some p) :
    ∃ (b off:Nat) (A':Option Addr) (n' c':Nat) (L1 L2 L3 R1 R2 R3:Option Addr) (a1 a2 a3 x1 x2 x3 b1 b2 b3 y1 y2 y3:Nat),A=some ⟨b,off,none⟩∧b<B∧(w.cell? ⟨b,off+k*16,none⟩=some (.int .i64 p.kind)∧w.cell? ⟨b,off+k*16+1,none⟩=some (.string p.name)∧w.cell? ⟨b,off+k*16+2,none⟩=some (.slice A' n' c')∧w.cell? ⟨b,off+k*16+3,none⟩=some (.int .i64 p.dir)∧w.cell? ⟨b,off+k*16+4,none⟩=some (.bool p.left.start)∧w.cell? ⟨b,off+k*16+5,none⟩=some (.bool p.left.fin)∧w.cell? ⟨b,off+k*16+6,none⟩=some (.slice L1 a1 x1)∧w.cell? ⟨b,off+k*16+7,none⟩=some (.slice L2 a2 x2)∧w.cell? ⟨b,off+k*16+8,none⟩=some (.slice L3 a3 x3)∧w.cell? ⟨b,off+k*16+9,none⟩=some (.int .i64 p.left.aa)∧w.cell? ⟨b,off+k*16+10,none⟩=some (.bool p.right.start)∧w.cell? ⟨b,off+k*16+11,none⟩=some (.bool p.right.fin)∧w.cell? ⟨b,off+k*16+12,none⟩=some (.slice R1 b1 y1)∧w.cell? ⟨b,off+k*16+13,none⟩=some (.slice R2 b2 y2)∧w.cell? ⟨b,off+k*16+14,none⟩=some (.slice R3 b3 y3)∧w.cell? ⟨b,off+k*16+15,none⟩=some (.int .i64 p.right.aa))∧mX w B A' n' p.set∧n'≤maxLen∧bX w B L1 a1 p.left.before∧bX w B L2 a2 p.left.source∧bX w B L3 a3 p.left.after∧a1≤maxLen∧a2≤maxLen∧a3≤maxLen∧bX w B R1 b1 p.right.before∧bX w B R2 b2 p.right.source∧bX w B R3 b3 p.right.after∧b1≤maxLen∧b2≤maxLen∧b3≤maxLen∧kP p.left.aa∧kP p.right.aa∧p.name.size≤maxLen:=by
 obtain⟨b,off,cs,e,hb,⟨A',n',c',ls,rs,hcs,h1,h2,⟨L1,a1,x1,L2,a2,x2,L3,a3,x3,hls,l1,l2,l3,l4,l5,l6,l7⟩,⟨R1,b1,y1,R2,b2,y2,R3,b3,y3,hrs,r1,r2,r3,r4,r5,r6,r7⟩,_,_,h5⟩,hc⟩:=kD.at h hk;subst hls hrs;subst hcs;exact⟨b,off,A',n',c',L1,L2,L3,R1,R2,R3,a1,a2,a3,x1,x2,x3,b1,b2,b3,y1,y2,y3,e,hb,⟨hc 0 _ rfl,hc 1 _ rfl,hc 2 _ rfl,hc 3 _ rfl,hc 4 _ rfl,hc 5 _ rfl,hc 6 _ rfl,hc 7 _ rfl,hc 8 _ rfl,hc 9 _ rfl,hc 10 _ rfl,hc 11 _ rfl,hc 12 _ rfl,hc 13 _ rfl,hc 14 _ rfl,hc 15 _ rfl⟩,h1,h2,l1,l2,l3,l4,l5,l6,r1,r2,r3,r4,r5,r6,l7,r7,h5⟩
def VF (w:World) (l:List aI) (n:Nat) (i:Value) (wr:World):Prop :=
  ∃ k:Nat,k≤n∧i=.int .i64 k∧lW 0 l=lW k (l.drop k)∧ak wr w.heap.size 51 #[.int .i64 0,.int .i64 0]∧Below w.heap.size w wr
end Go.Proofs.YtapechjebkjidaaGreatDoor
namespace Go.Proofs.YtapechjebkjidaaGreatDoor
open Go.RowKit
theorem E4 {l:List aG} (h:cC l=0):l.length≤20∧∀ a∈l,ot a=0:=by
 have h20:=lM h;refine⟨h20,?_⟩;unfold cC at h;rw [if_neg (by omega)]at h;clear h20;induction l with
 | nil=>simp
 | cons a l ih=>
  rw [lV]at h;by_cases h1:ot a=0
  ·rw [if_pos h1]at h;intro x hx;rcases List.mem_cons.1 hx with rfl | hx;exact h1;exact ih h x hx
  rw [if_neg h1]at h;exact absurd h h1
theorem FV {a:aG} (h:ot a=0):(a.kind=1∧aK a.rune=true)∨(a.kind=2∧bV a.set=0)∨(a.kind=3∧ep a.name=true):=by
 unfold ot at h;by_cases h1:a.kind=1
 ·rw [if_pos h1]at h;cases hr:aK a.rune
  ·rw [hr]at h;simp at h
  exact .inl ⟨h1,rfl⟩
 rw [if_neg h1]at h;by_cases h2:a.kind=2
 ·rw [if_pos h2]at h;exact .inr (.inl ⟨h2,h⟩)
 rw [if_neg h2]at h;by_cases h3:a.kind=3
 ·rw [if_pos h3]at h;cases hr:ep a.name
  ·rw [hr]at h;simp at h
  exact .inr (.inr ⟨h3,rfl⟩)
 rw [if_neg h3]at h;cases h
theorem Jo {s:ByteArray} (h:ep s=true):s.size≤20:=by
 unfold ep at h;rw [decide_eq_true_iff]at h;exact h.2.1
theorem Iq {s:cn} {gl:Bool} (h:bS s gl=0):cC s.before=0∧cC s.source=0∧cC s.after=0:=by
 unfold bS at h;by_cases h0:fD [s.before,s.source,s.after] = 0
 ·simp only [fD]at h0;by_cases h1:cC s.before=0
  ·rw [if_pos h1]at h0;by_cases h2:cC s.source=0
   ·rw [if_pos h2]at h0;by_cases h3:cC s.after=0;exact⟨h1,h2,h3⟩;rw [if_neg h3]at h0;exact absurd h0 h3
   rw [if_neg h2]at h0;exact absurd h0 h2
  rw [if_neg h1]at h0;exact absurd h0 h1
 rw [if_neg h0]at h;exact absurd h h0
def TE (p:aI):Prop :=
  (p.dir=1∨p.dir=2∨p.dir=3)∧(cC p.left.before=0∧cC p.left.source=0∧cC p.left.after=0)∧(cC p.right.before=0∧cC p.right.source=0∧cC p.right.after=0)
theorem qT {p:aI} (h:gX p=0):(p.kind=1∧ep p.name=true∧bV p.set=0)∨(p.kind=3∧bV p.set=0)∨(p.kind=4∧jZ p.name=true)∨(p.kind=2∧TE p):=by
 unfold gX at h;by_cases h1:p.kind=1
 ·rw [if_pos h1]at h;cases hn:ep p.name
  ·rw [hn]at h;simp at h
  rw [hn,if_pos rfl]at h;exact .inl ⟨h1,rfl,h⟩
 rw [if_neg h1]at h;by_cases h3:p.kind=3
 ·rw [if_pos h3]at h;exact .inr (.inl ⟨h3,h⟩)
 rw [if_neg h3]at h;by_cases h4:p.kind=4
 ·rw [if_pos h4]at h;cases hn:jZ p.name
  ·rw [hn]at h;simp at h
  exact .inr (.inr (.inl ⟨h4,rfl⟩))
 rw [if_neg h4]at h;by_cases h2:p.kind=2
 ·rw [if_pos h2]at h;unfold cW at h;by_cases hd:p.dir<1∨3<p.dir
  ·rw [if_pos hd]at h;cases h
  rw [if_neg hd]at h;by_cases hl:bS p.left (p.dir != 2)=0
  ·rw [if_pos hl]at h;by_cases hr:bS p.right (p.dir != 1)=0;exact .inr (.inr (.inr ⟨h2,by omega,Iq hl,Iq hr⟩));rw [if_neg hr]at h;exact absurd h hr
  rw [if_neg hl]at h;exact absurd h hl
 rw [if_neg h2]at h;cases h
theorem Kt {l:List aI}:∀ i,(lW i l).1=0→lW i l=(0,0)∧∀ p∈l,gX p=0:=by
 induction l with
 | nil=>intro i _;exact⟨rfl,by simp⟩
 | cons p l ih=>
  intro i h;rw [lW]at h ⊢;by_cases h1:gX p=0
  ·rw [if_pos h1]at h ⊢;obtain⟨h2,h3⟩:=ih (i+1) h;refine⟨h2,fun q hq=>?_⟩;rcases List.mem_cons.1 hq with rfl | hq;exact h1;exact h3 q hq
  rw [if_neg h1]at h;exact absurd h h1
theorem Pk {l:List aI} (h:(fJ l).1=0):l.length≤200∧fJ l=(0,0)∧∀ p∈l,gX p=0:=by
 unfold fJ at h ⊢;by_cases h2:200<l.length
 ·rw [if_pos h2]at h;cases h
 rw [if_neg h2]at h ⊢;obtain⟨h3,h4⟩:=Kt 0 h;exact⟨by omega,h3,h4⟩
end Go.Proofs.YtapechjebkjidaaGreatDoor
