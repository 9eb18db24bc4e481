/- Parts + RuleFoot + ResolveP + Item + Items + Side + SideMore + Told + SideWalk + PartP + FileP + ItemOk + PartRule -/
import Derived.Test.YtamkjeipdjbemaaGreatDoorZp4
import Derived.Test.YtamkjeipdjbemaaGreatDoorZp10
import Derived.Test.YtamkjeipdjbemaaGreatDoorZp3
import Derived.Test.YtamkjeipdjbemaaGreatDoorZp6
import Derived.Deep.Strs
import Derived.Lib.Strings
import Derived.Deep.QuietTactic
import Derived.BigQuiet
set_option maxHeartbeats 3200000
set_option maxRecDepth 100000
namespace Go.Proofs.YtamkjeipdjbemaaGreatDoor
open Go.RowKit Go.ChangeShapes Go.WideShapes Go.ChangeAt
def kL {α:Type} (R:α→List Value→Prop) (w:World) (B sz:Nat) (A:Option Addr) (n:Nat) (l:List α):Prop :=
  ∃ css:List (List Value),l.length=n∧css.length=n∧(∀ (i:Nat) (a:α) (cs:List Value),l[i]? = some a→css[i]? = some cs→R a cs)∧(∀ cs∈css,cs.length=sz)∧Rd w B sz A n css.flatten
theorem kL.len {α:Type} {R:α→List Value→Prop} {w:World} {B sz n:Nat} {A:Option Addr} {l:List α} (h:kL R w B sz A n l):l.length=n:=by
 obtain⟨_,h1,_⟩:=h;exact h1
theorem kL.at {α:Type} {R:α→List Value→Prop} {w:World} {B sz n:Nat} {A:Option Addr} {l:List α} (h:kL R w B sz A n l) {k:Nat} {a:α} (hk:l[k]? = some a) :
    ∃ (b off:Nat) (cs:List Value),A=some ⟨b,off,none⟩∧b<B∧R a cs∧∀ j u,cs[j]? = some u→w.cell? ⟨b,off+k*sz+j,none⟩=some u:=by
 obtain⟨css,h1,h2,h3,h4,h5,h6⟩:=h;have hlt:k<l.length:=(List.getElem?_eq_some_iff.1 hk).1;obtain⟨b,off,e,hb,hc⟩:=h6 (by omega);obtain⟨cs,hcs⟩:∃ cs,css[k]? = some cs:=⟨_,List.getElem?_eq_getElem (by omega)⟩;refine⟨b,off,cs,e,hb,h3 k a cs hk hcs,fun j u hu=>?_⟩;rw [Nat.add_assoc];exact hc _ _ (dH h4 k cs hcs j u hu)
theorem kL.weak {α:Type} {R R':α→List Value→Prop} {w w':World} {B B' sz n:Nat} {A:Option Addr} {l:List α} (h:kL R w B sz A n l) (hR:∀ a cs,R a cs→R' a cs) (hw:∀ xs,Rd w B sz A n xs→Rd w' B' sz A n xs):kL R' w' B' sz A n l:=by
 obtain⟨css,h1,h2,h3,h4,h5⟩:=h;exact⟨css,h1,h2,fun i a cs ha hc=>hR a cs (h3 i a cs ha hc),h4,hw _ h5⟩
structure aI where
  kind:Int
  rune:Int
  set:ag
  name:ByteArray
structure cG where
  start:Bool
  fin:Bool
  before:List aI
  source:List aI
  after:List aI
  ai:Int
structure aK where
  kind:Int
  name:ByteArray
  set:ag
  dir:Int
  left:cG
  right:cG
def lA (n:Int):Prop:=-9223372036854775808≤n∧n≤9223372036854775807
def zx (w:World) (B:Nat) (a:aI) (cs:List Value):Prop :=
  ∃ A n c,cs = [.int .i64 a.kind,.int .i32 a.rune,.slice A n c,.string a.name]∧mA w B A n a.set∧n≤maxLen∧lA a.kind∧a.name.size≤maxLen
def ck (w:World) (B:Nat) (A:Option Addr) (n:Nat) (l:List aI):Prop:=kL (zx w B) w B 4 A n l
def tZ (w:World) (B:Nat) (s:cG) (cs:List Value):Prop :=
  ∃ A1 n1 c1 A2 n2 c2 A3 n3 c3,cs = [.bool s.start,.bool s.fin,.slice A1 n1 c1,.slice A2 n2 c2,.slice A3 n3 c3,.int .i64 s.ai] ∧
    ck w B A1 n1 s.before∧ck w B A2 n2 s.source∧ck w B A3 n3 s.after∧n1≤maxLen∧n2≤maxLen∧n3≤maxLen∧lA s.ai
def zq (w:World) (B:Nat) (p:aK) (cs:List Value):Prop :=
  ∃ A n c ls rs,cs = [.int .i64 p.kind,.string p.name,.slice A n c,.int .i64 p.dir]++ls++rs∧mA w B A n p.set∧n≤maxLen∧tZ w B p.left ls∧tZ w B p.right rs∧lA p.kind∧lA p.dir∧p.name.size≤maxLen
def DH (w:World) (B:Nat) (A:Option Addr) (n:Nat) (l:List aK):Prop:=kL (zq w B) w B 16 A n l
section
variable {w w' : World} {B B' : Nat}
theorem zx.weak {a:aI} {cs:List Value} (hw:∀ A sz n xs,Rd w B sz A n xs→Rd w' B' sz A n xs) (h:zx w B a cs):zx w' B' a cs:=by
 obtain⟨A,n,c,e,h1,h2⟩:=h;exact⟨A,n,c,e,hw _ _ _ _ h1,h2⟩
theorem ck.weak {A:Option Addr} {n:Nat} {l:List aI} (hw:∀ A sz n xs,Rd w B sz A n xs→Rd w' B' sz A n xs) (h:ck w B A n l):ck w' B' A n l :=
  kL.weak h (fun _ _=>zx.weak hw) (hw _ _ _)
theorem tZ.weak {s:cG} {cs:List Value} (hw:∀ A sz n xs,Rd w B sz A n xs→Rd w' B' sz A n xs) (h:tZ w B s cs):tZ w' B' s cs:=by
 obtain⟨A1,n1,c1,A2,n2,c2,A3,n3,c3,e,h1,h2,h3,h4⟩:=h;exact⟨A1,n1,c1,A2,n2,c2,A3,n3,c3,e,ck.weak hw h1,ck.weak hw h2,ck.weak hw h3,h4⟩
theorem zq.weak {p:aK} {cs:List Value} (hw:∀ A sz n xs,Rd w B sz A n xs→Rd w' B' sz A n xs) (h:zq w B p cs):zq w' B' p cs:=by
 obtain⟨A,n,c,ls,rs,e,h1,h2,h3,h4,h5⟩:=h;exact⟨A,n,c,ls,rs,e,hw _ _ _ _ h1,h2,tZ.weak hw h3,tZ.weak hw h4,h5⟩
theorem DH.weak {A:Option Addr} {n:Nat} {l:List aK} (hw:∀ A sz n xs,Rd w B sz A n xs→Rd w' B' sz A n xs) (h:DH w B A n l):DH w' B' A n l :=
  kL.weak h (fun _ _=>zq.weak hw) (hw _ _ _)
theorem gI (hb:Below B w w') (hB:B≤B'):∀ A sz n xs,Rd w B sz A n xs→Rd w' B' sz A n xs:=fun _ _ _ _ h=>Rd.more (Rd.below h hb) hB
end
end Go.Proofs.YtamkjeipdjbemaaGreatDoor
namespace Go.Proofs.YtamkjeipdjbemaaGreatDoor
open Go.RowKit
def cL (w:World) (X:Nat→Prop) (sz:Nat) (A:Option Addr) (n:Nat) (xs:List Value):Prop :=
  xs.length=n*sz∧(0<n→∃ b off,A=some ⟨b,off,none⟩∧X b∧b<w.heap.size∧∀ j u,xs[j]? = some u→w.cell? ⟨b,off+j,none⟩=some u)
def aa (w:World) (X:Nat→Prop) (w':World) (X':Nat→Prop):Prop:=∀ b,X b→b<w.heap.size→w'.heap[b]? = w.heap[b]?∧X' b∧b<w'.heap.size
section
variable {w w' w2 : World} {X X' X2 : Nat → Prop} {sz n : Nat} {A : Option Addr} {xs : List Value}
theorem aa.refl (h:∀ b,X b→X' b):aa w X w X':=fun b hb hl=>⟨rfl,h b hb,hl⟩
theorem aa.trans (h:aa w X w' X') (h2:aa w' X' w2 X2):aa w X w2 X2:=fun b hb hl=>
  let ⟨e,hx,hl'⟩:=h b hb hl
  let ⟨e2,hx2,gh⟩:=h2 b hx hl'
  ⟨e2.trans e,hx2,gh⟩
theorem aa.below (hb:Below w.heap.size w w') (h:∀ b,X b→b<w.heap.size→X' b):aa w X w' X':=fun b hx hl=>⟨hb.block b hl,h b hx hl,Nat.lt_of_lt_of_le hl hb.size⟩
theorem aa.alloc (o:Obj) (h:∀ b,X b→b<w.heap.size→X' b):aa w X (w.alloc o) X':=fun b hx hl=>⟨heap_alloc_old w o hl,h b hx hl,by simp;omega⟩
theorem aa.app {base n:Nat} {e:TypeId} {v v':Value} (ha:bh base e sz v w n xs v' w') (hX:∀ b,X b→v.ownBlock≠some b) (h:∀ b,X b→b<w.heap.size→X' b):aa w X w' X' :=
  fun b hx hl=>⟨ha.2.1.block b hl (fun e=>hX b hx e.symm),h b hx hl,Nat.lt_of_lt_of_le hl ha.2.1.size⟩
theorem aa.setCell {p:Addr} (u:Value) (hX:∀ b,X b→b≠p.block) (h:∀ b,X b→b<w.heap.size→X' b):aa w X (w.setCell p u) X' :=
  fun b hx hl=>⟨Below.heap_setCell _ _ _ _ (hX b hx),h b hx hl,by simpa using hl⟩
theorem cL.keep (hk:aa w X w' X') (h:cL w X sz A n xs):cL w' X' sz A n xs:=by
 refine⟨h.1,fun hn=>?_⟩;obtain⟨b,off,e,hx,hl,hc⟩:=h.2 hn;obtain⟨he,hx',hl'⟩:=hk b hx hl;exact⟨b,off,e,hx',hl',fun j u hu=>(World.cell?_of_block (w:=w) he).trans (hc j u hu)⟩
theorem cL.rd {B:Nat} (h:cL w X sz A n xs) (hB:∀ b,X b→b<w.heap.size→b<B):Rd w B sz A n xs :=
  ⟨h.1,fun hn=>let ⟨b,off,e,hx,hl,hc⟩:=h.2 hn;⟨b,off,e,hB b hx hl,hc⟩⟩
theorem cL.Hp {B:Nat} (h:Rd w B sz A n xs) (hB:B≤w.heap.size) (hX:∀ b,b<B→X b):cL w X sz A n xs :=
  ⟨h.1,fun hn=>let ⟨b,off,e,hb,hc⟩:=h.2 hn;⟨b,off,e,hX b hb,Nat.lt_of_lt_of_le hb hB,hc⟩⟩
theorem cL.b8 {base c:Nat} {e:TypeId} (h:w.ownsRow base e sz (.slice A n c) n xs) (hX:∀ b,(Value.slice A n c).ownBlock=some b→X b):cL w X sz A n xs:=by
 refine⟨h.1,fun hn=>?_⟩;rcases h.2 with ⟨hv,h0⟩ | ⟨g,cap,cur,hv,hg,hh,hr⟩;omega;injection hv with hA;subst hA;refine⟨g,0,rfl,hX g rfl,(Array.getElem?_eq_some_iff.1 hh).1,fun j u hu=>?_⟩;have:=World.ownsRow.cells h (g:=g) rfl j u hu;rwa [ja]at this
theorem cL.new (t:TypeId) (cs:List Value) (hl:cs.length=n*sz) (hX:X w.heap.size):cL (w.alloc (.cells cs.toArray t)) X sz (some ⟨w.heap.size,0,none⟩) n cs:=by
 refine⟨hl,fun _=>⟨_,_,rfl,hX,by simp,fun j u hu=>?_⟩⟩;rw [(an.new w t cs.toArray).cell,Nat.zero_add];simpa using hu
end
def bS {α:Type} (R:α→List Value→Prop) (w:World) (X:Nat→Prop) (sz:Nat) (A:Option Addr) (n:Nat) (l:List α):Prop :=
  ∃ css:List (List Value),l.length=n∧css.length=n∧(∀ (i:Nat) (a:α) (cs:List Value),l[i]? = some a→css[i]? = some cs→R a cs)∧(∀ cs∈css,cs.length=sz)∧cL w X sz A n css.flatten
theorem bS.len {α:Type} {R:α→List Value→Prop} {w:World} {X:Nat→Prop} {sz n:Nat} {A:Option Addr} {l:List α} (h:bS R w X sz A n l):l.length=n:=by
 obtain⟨_,h1,_⟩:=h;exact h1
theorem bS.keep {α:Type} {R R':α→List Value→Prop} {w w':World} {X X':Nat→Prop} {sz n:Nat} {A:Option Addr} {l:List α} (hk:aa w X w' X') (hR:∀ a cs,R a cs→R' a cs) (h:bS R w X sz A n l):bS R' w' X' sz A n l:=by
 obtain⟨css,h1,h2,h3,h4,h5⟩:=h;exact⟨css,h1,h2,fun i a cs ha hc=>hR a cs (h3 i a cs ha hc),h4,h5.keep hk⟩
theorem bS.at {α:Type} {R:α→List Value→Prop} {w:World} {X:Nat→Prop} {sz n:Nat} {A:Option Addr} {l:List α} (h:bS R w X sz A n l) {k:Nat} {a:α} (hk:l[k]? = some a) :
    ∃ (b off:Nat) (cs:List Value),A=some ⟨b,off,none⟩∧X b∧b<w.heap.size∧R a cs∧cs.length=sz∧∀ j u,cs[j]? = some u→w.cell? ⟨b,off+k*sz+j,none⟩=some u:=by
 obtain⟨css,h1,h2,h3,h4,h5,h6⟩:=h;have hlt:k<l.length:=(List.getElem?_eq_some_iff.1 hk).1;obtain⟨b,off,e,hx,hb,hc⟩:=h6 (by omega);obtain⟨cs,hcs⟩:∃ cs,css[k]? = some cs:=⟨_,List.getElem?_eq_getElem (by omega)⟩;refine⟨b,off,cs,e,hx,hb,h3 k a cs hk hcs,h4 cs (List.mem_of_getElem? hcs),fun j u hu=>?_⟩;rw [Nat.add_assoc];exact hc _ _ (dH h4 k cs hcs j u hu)
def dD {α:Type} (R:α→List Value→Prop) (T:TypeId) (sz:Nat) (w:World) (base:Nat) (v:Value) (l:List α):Prop :=
  ∃ css:List (List Value),css.length=l.length∧(∀ (i:Nat) (a:α) (cs:List Value),l[i]? = some a→css[i]? = some cs→R a cs)∧(∀ cs∈css,cs.length=sz)∧w.ownsRow base T sz v l.length css.flatten
section
variable {α : Type} {R R' : α → List Value → Prop} {T : TypeId} {sz base : Nat} {w w' : World} {v v' : Value} {l : List α}
theorem dD.nil (w:World) (base:Nat):dD R T sz w base (.slice none 0 0) []:=⟨[],rfl,by simp,by simp,World.ownsRow_nil _ _ _ _⟩
theorem dD.form (h:dD R T sz w base v l):∃ A c,v=.slice A l.length c∧l.length≤c:=by
 obtain⟨_,_,_,_,h4⟩:=h;exact av h4
theorem dD.weak (hR:∀ a cs,R a cs→R' a cs) (h:dD R T sz w base v l):dD R' T sz w base v l:=by
 obtain⟨css,h1,h2,h3,h4⟩:=h;exact⟨css,h1,fun i a cs ha hc=>hR a cs (h2 i a cs ha hc),h3,h4⟩
theorem dD.kept (hw:∀ n xs,w.ownsRow base T sz v n xs→w'.ownsRow base T sz v n xs) (hR:∀ a cs,R a cs→R' a cs) (h:dD R T sz w base v l):dD R' T sz w' base v l:=by
 obtain⟨css,h1,h2,h3,h4⟩:=h;exact⟨css,h1,fun i a cs ha hc=>hR a cs (h2 i a cs ha hc),h3,hw _ _ h4⟩
theorem dD.done {A:Option Addr} {c:Nat} {X:Nat→Prop} (h:dD R T sz w base (.slice A l.length c) l) (hR:∀ a cs,R a cs→R' a cs) (hX:∀ b,(Value.slice A l.length c).ownBlock=some b→X b):bS R' w X sz A l.length l:=by
 obtain⟨css,h1,h2,h3,h4⟩:=h;exact⟨css,rfl,h1,fun i a cs ha hc=>hR a cs (h2 i a cs ha hc),h3,cL.b8 h4 hX⟩
end
theorem dD.push {α:Type} {R R':α→List Value→Prop} {T:TypeId} {sz base:Nat} {w w':World} {v v':Value} {l:List α} {css:List (List Value)} {a:α} {cs:List Value}
    (h1:css.length=l.length) (h2:∀ (i:Nat) (a:α) (cs:List Value),l[i]? = some a→css[i]? = some cs→R a cs) (h3:∀ cs∈css,cs.length=sz)
    (hR:∀ a cs,R a cs→R' a cs) (ha:R' a cs) (hcs:cs.length=sz) (af:bh base T sz v w (l.length+1) (css.flatten++cs) v' w'):dD R' T sz w' base v' (l++[a]):=by
 refine⟨css++[cs],by simp [h1],?_,?_,?_⟩
 ·intro i x ds hx hd;rcases Nat.lt_or_ge i l.length with hi | hi
  ·rw [List.getElem?_append_left hi]at hx;rw [List.getElem?_append_left (by omega)]at hd;exact hR x ds (h2 i x ds hx hd)
  rw [List.getElem?_append_right hi]at hx;rw [List.getElem?_append_right (by omega),h1]at hd;have hi0:i - l.length=0:=by
   have:=(List.getElem?_eq_some_iff.1 hx).1;simp at this;omega
  rw [hi0]at hx hd;simp at hx hd;subst hx hd;exact ha
 ·intro ds hd;rcases List.mem_append.1 hd with hd | hd;exact h3 ds hd;simp at hd;subst hd;exact hcs
 have e:(css++[cs]).flatten=css.flatten++cs:=(by simp);have e2:(l++[a]).length=l.length+1:=(by simp);rw [e,e2];exact af.own
structure az where
  start:Bool
  fin:Bool
  before:List ag
  source:List ag
  after:List ag
  target:List Int
  ai:Int
structure cz where
  name:ByteArray
  rules:List az
structure aR where
  only? : Bool
  only:ag
  passes:List cz
def jh (w:World) (X:Nat→Prop) (s:ag) (u:Value):Prop:=∃ A n c,u=.slice A n c∧cL w X 2 A n (au s)∧n≤maxLen
def iH (w:World) (X:Nat→Prop) (s:ag) (cs:List Value):Prop:=∃ u,cs = [u]∧jh w X s u
def eH (w:World) (X:Nat→Prop) (l:List ag) (u:Value):Prop:=∃ A n c,u=.slice A n c∧bS (iH w X) w X 1 A n l∧n≤maxLen
def bg (w:World) (X:Nat→Prop) (r:az) (cs:List Value):Prop :=
  ∃ u1 u2 u3 A n c,cs = [.bool r.start,.bool r.fin,u1,u2,u3,.slice A n c,.int .i64 r.ai]∧eH w X r.before u1∧eH w X r.source u2∧eH w X r.after u3∧cL w X 1 A n (runeCells r.target)∧n≤maxLen
def Ca (w:World) (X:Nat→Prop) (l:List az) (u:Value):Prop:=∃ A n c,u=.slice A n c∧bS (bg w X) w X 7 A n l∧n≤maxLen
def cX (w:World) (X:Nat→Prop) (p:cz) (cs:List Value):Prop:=∃ u,cs = [.string p.name,u]∧Ca w X p.rules u
def lT (w:World) (X:Nat→Prop) (l:List cz) (u:Value):Prop:=∃ A n c,u=.slice A n c∧bS (cX w X) w X 2 A n l∧n≤maxLen
def dW (w:World) (X:Nat→Prop) (s:aR) (cs:List Value):Prop:=∃ u v,cs = [.bool s.only?,u,v]∧jh w X s.only u∧lT w X s.passes v
section
variable {w w' : World} {X X' : Nat → Prop} (hk : aa w X w' X')
include hk
theorem jh.keep {s:ag} {u:Value} (h:jh w X s u):jh w' X' s u:=by
 obtain⟨A,n,c,e,h1,h2⟩:=h;exact⟨A,n,c,e,h1.keep hk,h2⟩
theorem iH.keep {s:ag} {cs:List Value} (h:iH w X s cs):iH w' X' s cs:=by
 obtain⟨u,e,h⟩:=h;exact⟨u,e,h.keep hk⟩
theorem eH.keep {l:List ag} {u:Value} (h:eH w X l u):eH w' X' l u:=by
 obtain⟨A,n,c,e,h1,h2⟩:=h;exact⟨A,n,c,e,h1.keep hk (fun _ _=>iH.keep hk),h2⟩
theorem bg.keep {r:az} {cs:List Value} (h:bg w X r cs):bg w' X' r cs:=by
 obtain⟨u1,u2,u3,A,n,c,e,h1,h2,h3,h4,h5⟩:=h;exact⟨u1,u2,u3,A,n,c,e,h1.keep hk,h2.keep hk,h3.keep hk,h4.keep hk,h5⟩
theorem Ca.keep {l:List az} {u:Value} (h:Ca w X l u):Ca w' X' l u:=by
 obtain⟨A,n,c,e,h1,h2⟩:=h;exact⟨A,n,c,e,h1.keep hk (fun _ _=>bg.keep hk),h2⟩
theorem cX.keep {p:cz} {cs:List Value} (h:cX w X p cs):cX w' X' p cs:=by
 obtain⟨u,e,h⟩:=h;exact⟨u,e,h.keep hk⟩
theorem lT.keep {l:List cz} {u:Value} (h:lT w X l u):lT w' X' l u:=by
 obtain⟨A,n,c,e,h1,h2⟩:=h;exact⟨A,n,c,e,h1.keep hk (fun _ _=>cX.keep hk),h2⟩
theorem dW.keep {s:aR} {cs:List Value} (h:dW w X s cs):dW w' X' s cs:=by
 obtain⟨u,v,e,h1,h2⟩:=h;exact⟨u,v,e,h1.keep hk,h2.keep hk⟩
end
theorem bt {wx:World} {v:Value} {base sz n:Nat} {e:TypeId} {xs:List Value} (h:wx.ownsRow base e sz v n xs) {b:Nat} (hb:v.ownBlock=some b):base≤b∧b<wx.heap.size:=World.ownsRow.lt h b hb
theorem i5 {w:World} {g base sz n:Nat} {t e:TypeId} {cs:Array Value} {fz:Nat × Nat} {v:Value} {xs:List Value} (ho:w.ownsRow base e sz v n xs) (h:w.heap[g]? = some (.cells cs t fz)) (hne:t≠e):v.ownBlock≠some g:=by
 rcases ho.2 with ⟨rfl,_⟩ | ⟨g2,cap,cur,rfl,_,hg,_⟩
 ·simp [Value.ownBlock]
 simp only [Value.ownBlock,ne_eq,Option.some.injEq];rintro rfl;rw [h]at hg;injection hg with hg;injection hg with _ ht;exact hne ht
section
variable {lo : Nat} {w2 : World}
theorem rN {e e2:TypeId} {sz sz2 n m:Nat} {v u u':Value} {xs ys:List Value} {w0:World} (h:w0.ownsRow lo e sz v n xs) (ha:bh lo e2 sz2 u w0 m ys u' w2) (hne:v.ownBlock≠u.ownBlock∨v.ownBlock=none):w2.ownsRow lo e sz v n xs:=by
 refine World.ownsRow.kept h ha.2.1 ?_;rcases hne with h | h;exact .inr h;exact .inl h
theorem lY {e e2:TypeId} {sz sz2 n m:Nat} {v u:Value} {xs ys:List Value} {w0:World} (h:w0.ownsRow lo e sz v n xs) (h2:w0.ownsRow lo e2 sz2 u m ys) (hne:e≠e2):v.ownBlock≠u.ownBlock∨v.ownBlock=none:=by
 rcases h.2 with ⟨hv,_⟩ | ⟨g,cap,cur,hv,_,hg,_⟩
 ·right;rw [hv];rfl
 left;rw [hv];intro e;exact i5 h2 hg hne e.symm
theorem uk {u v:Value} (h:∀ b,u.ownBlock=some b→v.ownBlock≠some b):v.ownBlock≠u.ownBlock∨v.ownBlock=none:=by
 cases hv:v.ownBlock with
 | none=>exact .inr rfl
 | some b=>
  left;intro e;exact h b e.symm hv
end
theorem bV {w:World} {base sz n g i:Nat} {e t:TypeId} {v u:Value} {xs:List Value} {cs:Array Value} (h:w.ownsRow base e sz v n xs) (hb:an w g t cs) (hne:t≠e):(w.setCell ⟨g,i,none⟩ u).ownsRow base e sz v n xs:=by
 rcases h.2 with ⟨hv,h0⟩ | ⟨k,cap,cur,hv,h1,h2,h3⟩;exact⟨h.1,.inl ⟨hv,h0⟩⟩;refine⟨h.1,.inr ⟨k,cap,cur,hv,h1,?_,h3⟩⟩;rw [Below.heap_setCell _ _ _ _ ?_];exact h2;intro e;simp only at e;subst e;unfold an at hb;rw [hb]at h2;injection h2 with h2;injection h2 with _ ht;exact hne ht
theorem aZ {w w':World} {g base sz n m:Nat} {t e:TypeId} {cs:Array Value} {v v':Value} {xs ys:List Value} (h:an w g t cs) (ho:w.ownsRow base e sz v n xs) (hne:t≠e) (ha:bh base e sz v w m ys v' w'):an w' g t cs:=by
 have hlt:=h.lt;unfold an at h ⊢;rw [ha.2.1.block g hlt ?_];exact h;intro he;rcases ho.2 with ⟨rfl,_⟩ | ⟨g2,cap,cur,rfl,_,hg,_⟩
 ·simp [Value.ownBlock]at he
 simp only [Value.ownBlock,Option.some.injEq]at he;subst he;rw [h]at hg;injection hg with hg;injection hg with _ ht;exact hne ht
theorem qM {w:World} {g base sz n:Nat} {t e:TypeId} {cs:Array Value} {v:Value} {xs:List Value} (ho:w.ownsRow base e sz v n xs) (h:an w g t cs) (hne:t≠e):v.ownBlock≠some g:=by
 rcases ho.2 with ⟨rfl,_⟩ | ⟨g2,cap,cur,rfl,_,hg,_⟩
 ·simp [Value.ownBlock]
 simp only [Value.ownBlock,ne_eq,Option.some.injEq];rintro rfl;unfold an at h;rw [h]at hg;injection hg with hg;injection hg with _ ht;exact hne ht
theorem qw {w:World} {lo sz n g i:Nat} {e:TypeId} {v u:Value} {xs:List Value} (h:w.ownsRow lo e sz v n xs) (hg:g<lo):(w.setCell ⟨g,i,none⟩ u).ownsRow lo e sz v n xs:=by
 rcases h.2 with ⟨hv,h0⟩ | ⟨k,cap,cur,hv,h1,h2,h3⟩;exact⟨h.1,.inl ⟨hv,h0⟩⟩;refine⟨h.1,.inr ⟨k,cap,cur,hv,h1,?_,h3⟩⟩;rw [Below.heap_setCell _ _ _ _ (show k≠g by omega)];exact h2
theorem xX (l:List Int) (x:Int):runeCells (l++[x])=runeCells l++[.int .i32 x]:=by simp [runeCells]
theorem qp (l:List Int) (x:Int):intCells (l++[x])=intCells l++[.int .i64 x]:=by simp [intCells]
structure bK where
  low:Int
  high:Int
  rules:List Int
def l8 (w:World) (X:Nat→Prop) (l:List Int) (u:Value):Prop:=∃ A n c,u=.slice A n c∧cL w X 1 A n (intCells l)∧n≤maxLen
def iN (w:World) (X:Nat→Prop) (h:bK) (cs:List Value):Prop:=∃ u,cs = [.int .i32 h.low,.int .i32 h.high,u]∧l8 w X h.rules u
def oy (w:World) (X:Nat→Prop) (l:List bK) (u:Value):Prop:=∃ A n c,u=.slice A n c∧bS (iN w X) w X 3 A n l∧n≤maxLen
section
variable {w w' : World} {X X' : Nat → Prop} (hk : aa w X w' X')
include hk
theorem l8.keep {l:List Int} {u:Value} (h:l8 w X l u):l8 w' X' l u:=by
 obtain⟨A,n,c,e,h1,h2⟩:=h;exact⟨A,n,c,e,h1.keep hk,h2⟩
theorem iN.keep {h:bK} {cs:List Value} (hh:iN w X h cs):iN w' X' h cs:=by
 obtain⟨u,e,h1⟩:=hh;exact⟨u,e,h1.keep hk⟩
theorem oy.keep {l:List bK} {u:Value} (h:oy w X l u):oy w' X' l u:=by
 obtain⟨A,n,c,e,h1,h2⟩:=h;exact⟨A,n,c,e,h1.keep hk (fun _ _=>iN.keep hk),h2⟩
end
theorem l8.len {w:World} {X:Nat→Prop} {l:List Int} {A:Option Addr} {n c:Nat} (h:l8 w X l (.slice A n c)):l.length=n∧n≤maxLen:=by
 obtain⟨A',n',c',e,h1,h2⟩:=h;cases e;have:=h1.1;simp [intCells]at this;exact⟨this,h2⟩
def xG (_:Nat):Prop:=True
theorem aa.any {w w':World} {X:Nat→Prop} (hb:Below w.heap.size w w'):aa w X w' X:=aa.below hb (fun _ h _=>h)
theorem cL.of {w:World} {X:Nat→Prop} {sz n:Nat} {A:Option Addr} {xs:List Value} (h:cL w X sz A n xs):Rd w w.heap.size sz A n xs:=h.rd (fun _ _ h=>h)
theorem pH {w:World} {X:Nat→Prop} {A:Option Addr} {n:Nat} {l:List ag} (h:bS (iH w X) w X 1 A n l) {k:Nat} {s:ag} (hk:l[k]? = some s) :
    ∃ (b off:Nat) (A':Option Addr) (n' c':Nat),A=some ⟨b,off,none⟩∧X b∧b<w.heap.size∧w.cell? ⟨b,off+k,none⟩=some (.slice A' n' c')∧mA w w.heap.size A' n' s∧cL w X 2 A' n' (au s)∧n'≤maxLen:=by
 obtain⟨b,off,cs,e,hx,hb,⟨u,rfl,A',n',c',rfl,h1,h2⟩,_,hc⟩:=h.at hk;have:=hc 0 _ rfl;rw [Nat.mul_one,Nat.add_zero]at this;exact⟨b,off,A',n',c',e,hx,hb,this,h1.of,h1,h2⟩
def gA:List aK→ByteArray→Option ag
  | [],_=>none
  | p::r,s=>if p.kind=1∧p.name=s then some p.set else gA r s
def uR (l:List aK) (a:aI):Option ag:=if a.kind=1 then some [(a.rune,a.rune)]else if a.kind=2 then some a.set else gA l a.name
def cJ (l:List aK):List aI→Option (List ag)
  | []=>some []
  | a::r=>match uR l a with
    | none=>none
    | some s=>(cJ l r).map (s :: ·)
def fA (l:List aK) (from_ to:cG):Option az :=
  match cJ l from_.before,cJ l from_.source,cJ l from_.after with
  | some a,some b,some c=>some ⟨from_.start,from_.fin,a,b,c,to.source.map (·.rune),if to.ai<0 then (to.source.length:Int)else to.ai⟩
  | _,_,_=>none
theorem sI (l:List aK) (a b:List aI):cJ l (a++b)=match cJ l a,cJ l b with
    | some x,some y=>some (x++y)
    | _,_=>none:=by
 induction a with
 | nil=>simp [cJ];cases cJ l b <;> rfl
 | cons x a ih=>
  rw [List.cons_append,cJ,cJ,ih];cases uR l x with
  | none=>rfl
  | some s=>cases cJ l a <;> cases cJ l b <;> simp
theorem Iu {l:List aK} {x:aI} {s:ag} (h:uR l x=some s):cJ l [x] = some [s]:=by
 rw [cJ,h,cJ];rfl
theorem qP {l:List aK} {L:List aI} {k:Nat} {x:aI} {ll:List ag} {s:ag} (hx:L[k]? = some x) (h1:cJ l (L.take k)=some ll) (h2:uR l x=some s):cJ l (L.take (k+1))=some (ll++[s]):=by
 rw [List.take_add_one,hx];simp only [Option.toList];rw [sI,h1,Iu h2]
theorem FG {l:List aK} {L:List aI} {k:Nat} {x:aI} (hx:L[k]? = some x) (h2:uR l x=none):cJ l L=none:=by
 have e:L=L.take k++x::L.drop (k+1):=by
  rw [← bR hx,List.take_append_drop]
 rw [e,sI,cJ,h2];cases cJ l (L.take k) <;> rfl
theorem J2 {l:List aK} {L:List aI} {ll:List ag} (h:cJ l L=some ll):ll.length=L.length:=by
 induction L generalizing ll with
 | nil=>rw [cJ]at h;cases h;rfl
 | cons x L ih=>
  rw [cJ]at h;cases hs:uR l x with
  | none=>rw [hs]at h;cases h
  | some s=>
   rw [hs]at h;cases h2:cJ l L with
   | none=>rw [h2]at h;cases h
   | some m=>
    rw [h2]at h;cases h;simp [ih h2]
theorem L7 (a b:ByteArray):(a.toList == b.toList)=decide (a=b):=by
 rw [Bool.eq_iff_iff,beq_iff_eq,decide_eq_true_iff,Lib.toList_data,Lib.toList_data];constructor
 ·intro h;exact ByteArray.ext (Array.ext' h)
 intro h;rw [h]
def og (a:aI):Int :=
  if a.kind=1 then (if bL a.rune=true then 0 else 3)else if a.kind=2 then bD a.set else if a.kind=3 then (if eO a.name=true then 0 else 7)else 1
def Mg (a:aI) (A:Option Addr) (n c:Nat):Value:=.agg #[.int .i64 a.kind,.int .i32 a.rune,.slice A n c,.string a.name]
theorem sU {w:World} {A:Option Addr} {n:Nat} {l:ag} (h:mA w w.heap.size A n l) (o:Obj):mA (w.alloc o) (w.alloc o).heap.size A n l :=
  gI (qqb.alloc qql o) (by simp) _ _ _ _ h
theorem Bf (a:aI) (A:Option Addr) (n c:Nat) (w:World) (hn:n≤9223372036854775807) (hs:mA w w.heap.size A n a.set) :
    Calls Tryz.prog 126 #[Mg a A n c] w fun e w'=>e=.returned (.int .i64 (og a))∧Below w.heap.size w w':=by
 obtain⟨kind,rune,set,name⟩:=a;have hbA:∀ o,Below w.heap.size w (w.alloc o):=fun o=>qqb.alloc qql o;have HS:=qqh (sU hs);have HB:=qqh hbA;clear hs hbA;unfold Mg og;dsimp only;by_cases h1:kind=1
 ·subst h1;rw [if_pos rfl];cases hr:bL rune
  all_goals
    go_enter Tryz.func126,Tryz.ntmps126
    go_wp2_with (go_at_call 45;refine(fh _ _).mono ?_;rintro e w' ⟨rfl,rfl⟩;rw [hr])
    go_ret
    exact⟨rfl,HB.out _⟩
 by_cases h2:kind=2
 ·subst h2;rw [if_neg h1,if_pos rfl];go_enter Tryz.func126,Tryz.ntmps126;go_wp2_with fail;refine(jx A n c set _ hn (HS.out _)).mono ?_;rintro e w' ⟨rfl,hb⟩;go_wp2_with fail;go_ret;exact⟨rfl,(HB.out _).trans (hb.mono (by simp))⟩
 have e1:(kind == 1)=false:=(by simpa using h1);have e2:(kind == 2)=false:=(by simpa using h2);by_cases h3:kind=3
 ·subst h3;rw [if_neg h1,if_neg h2,if_pos rfl];cases hr:eO name
  all_goals
    go_enter Tryz.func126,Tryz.ntmps126
    go_wp2_with (go_at_call 101;refine(jF _ _).mono ?_;rintro e w' ⟨rfl,rfl⟩;rw [hr])
    go_ret
    exact⟨rfl,HB.out _⟩
 have e3:(kind == 3)=false:=(by simpa using h3);rw [if_neg h1,if_neg h2,if_neg h3];clear h1 h2 h3;go_enter Tryz.func126,Tryz.ntmps126;go_wp2_with fail;go_ret;exact⟨rfl,HB.out _⟩
def lM:List aI→Int
  | []=>0
  | a::r=>if og a=0 then lM r else og a
def cP (l:List aI):Int:=if 20<l.length then 5 else lM l
theorem vw {w:World} {B n:Nat} {A:Option Addr} {l:List aI} (h:ck w B A n l) {k:Nat} {a:aI} (hk:l[k]? = some a) :
    ∃ (b off:Nat) (A':Option Addr) (n' c':Nat),A=some ⟨b,off,none⟩∧b<B∧w.cell? ⟨b,off+k*4,none⟩=some (.int .i64 a.kind)∧w.cell? ⟨b,off+k*4+1,none⟩=some (.int .i32 a.rune) ∧
      w.cell? ⟨b,off+k*4+2,none⟩=some (.slice A' n' c')∧w.cell? ⟨b,off+k*4+3,none⟩=some (.string a.name)∧mA w B A' n' a.set∧n'≤maxLen∧lA a.kind∧a.name.size≤maxLen:=by
 obtain⟨b,off,cs,e,hb,⟨A',n',c',hcs,h1,h2,h3,h4⟩,hc⟩:=kL.at h hk;subst hcs;exact⟨b,off,A',n',c',e,hb,hc 0 _ rfl,hc 1 _ rfl,hc 2 _ rfl,hc 3 _ rfl,h1,h2,h3,h4⟩
def UI (W:World) (l:List aI) (n:Nat) (i:Value) (wr:World):Prop :=
  ∃ k:Nat,k≤n∧i=.int .i64 k∧lM l=lM (l.drop k)∧Below W.heap.size W wr
def fS:List (List aI)→Int
  | []=>0
  | l::r=>if cP l=0 then fS r else cP l
def b7 (s:cG) (gy:Bool):Int :=
  if fS [s.before,s.source,s.after] = 0 then
    (if s.ai < -1∨(s.source.length:Int)<s.ai then 3 else if gy=true∧s.source.length=0 then 6 else 0)
  else fS [s.before,s.source,s.after]
def gZ (l:List aI):Bool:=l.all fun a=>a.kind == 1
def nu (s:cG):Bool:=s.start || s.fin || decide (0<s.before.length) || decide (0<s.after.length)
theorem lP {l:List aI} (h:cP l=0):l.length≤20:=by
 unfold cP at h;by_cases h1:20<l.length
 ·rw [if_pos h1]at h;cases h
 omega
theorem GX {w:World} {A:Option Addr} {n:Nat} {l:List aI} (h:ck w w.heap.size A n l) (o:Obj):ck (w.alloc o) (w.alloc o).heap.size A n l :=
  ck.weak (gI (qqb.alloc qql o) (by simp)) h
theorem aU {w w':World} {A:Option Addr} {n:Nat} {l:List aI} (h:ck w w.heap.size A n l) (hb:Below w.heap.size w w'):ck w' w'.heap.size A n l :=
  ck.weak (gI hb hb.size) h
theorem Fb (a:aI) (l:List aI):gZ (a::l)=((a.kind == 1) && gZ l):=rfl
def V3 (W:World) (l:List aI) (n:Nat) (i:Value) (wr:World):Prop :=
  ∃ k:Nat,k≤n∧i=.int .i64 k∧gZ l=gZ (l.drop k)∧Below W.heap.size W wr
theorem iq (s:cG) (A1 A2 A3:Option Addr) (n1 n2 n3 c1 c2 c3:Nat) (w:World) (h1:s.before.length=n1) (h3:s.after.length=n3) (m1:n1≤20) (m3:n3≤20) :
    Calls Tryz.prog 105 #[.agg #[.bool s.start,.bool s.fin,.slice A1 n1 c1,.slice A2 n2 c2,.slice A3 n3 c3,.int .i64 s.ai]] w fun e w'=>e=.returned (.bool (!nu s))∧Below w.heap.size w w':=by
 have hv:nu s=(s.start || s.fin || decide (0<n1) || decide (0<n3)):=(by unfold nu;rw [h1,h3]);rw [hv];clear hv h1 h3;obtain⟨start,fin,before,l,after,ai⟩:=s;dsimp only;cases start <;> cases fin
 ·go_enter Tryz.func105,Tryz.ntmps105;go_wp2_with fail;go_ret;exact⟨aV (by rw [Bool.eq_iff_iff];simp;omega),qqb.alloc qql _⟩
 all_goals
   go_enter Tryz.func105,Tryz.ntmps105
   go_wp2_with fail
   go_ret
   exact⟨aV (by simp),qqb.alloc qql _⟩
theorem NW (a:aI) (A:Option Addr) (n c:Nat) (w:World) :
    Calls Tryz.prog 128 #[.agg #[.int .i64 a.kind,.int .i32 a.rune,.slice A n c,.string a.name]] w fun e w'=>e=.returned (.bool (a.kind != 1))∧Below w.heap.size w w':=by
 go_enter Tryz.func128,Tryz.ntmps128;go_wp2_with fail;go_ret;exact⟨rfl,qqb.alloc qql _⟩
theorem GD (A:Option Addr) (n c:Nat) (l:List aI) (fv:Value) (Yy:fv=.func (.func 128) #[] #[]) (w:World) (hl:ck w w.heap.size A n l) (m:n≤maxLen) :
    Calls Tryz.prog 144 #[.slice A n c,fv] w fun e w'=>(∃ z:Int,e=.returned (.int .i64 z)∧(decide (0≤z) = !gZ l))∧Below w.heap.size w w':=by
 subst Yy;have aM:=qqh (kL.len hl);have HL:=qqh hl;have hn2:n≤9223372036854775807:=(by unfold maxLen at m;omega);clear hl m;go_enter Tryz.func144,Tryz.ntmps144;go_wp2_with fail;go_loopw [8] (V3 w l n) (fun i _=>n - (intOf i).toNat);(case atStart=>exact⟨0,Nat.zero_le _,rfl,rfl,qqb⟩);obtain⟨k,hk,rfl,aN,hb⟩:=hrel;have hz:=hb.size;by_cases hlt:k<n
 ·obtain⟨a,ha⟩:∃ z,l[k]? = some z:=⟨_,List.getElem?_eq_getElem (by rw [aM.out];exact hlt)⟩;rw [bR ha,Fb]at aN;obtain⟨b,off,A',n',c',rfl,cK,c0,YO,JI,Xi,_,_,_,_⟩:=vw HL.out ha;have d0:=(hb.cell (p:=⟨b,off+k*4,none⟩) cK).trans c0;have d1:=(hb.cell (p:=⟨b,off+k*4+1,none⟩) cK).trans YO;have d2:=(hb.cell (p:=⟨b,off+k*4+2,none⟩) cK).trans JI;have d3:=(hb.cell (p:=⟨b,off+k*4+3,none⟩) cK).trans Xi;have HT:=qqh (NW a A' n' c' wr);clear c0 YO JI Xi;by_cases hk1:a.kind=1
  ·have HG:=qqh (aN.trans (show(a.kind == 1 && gZ (l.drop (k+1)))=gZ (l.drop (k+1)) by simp [hk1]));have hk2:(a.kind != 1)=false:=(by simpa using hk1);clear aN hk1;go_wp2_with fail;refine HT.out.mono ?_;rintro e w2 ⟨rfl,aX⟩;have bM:=hb.trans (aX.mono hz);rw [hk2];clear aX;go_wp2_with fail;exact⟨⟨k+1,by omega,by go_num,HG.out,bM⟩,by simp [intOf];omega⟩
  have HG:=qqh (aN.trans (show(a.kind == 1 && gZ (l.drop (k+1)))=false by simp [hk1]));have hk2:(a.kind != 1)=true:=(by simpa using hk1);clear aN hk1;go_wp2_with fail;refine HT.out.mono ?_;rintro e w2 ⟨rfl,aX⟩;have bM:=hb.trans (aX.mono hz);rw [hk2];clear aX;go_wp2_with fail;go_ret;exact⟨⟨_,rfl,by rw [HG.out];simp⟩,bM⟩
 obtain rfl:k=n:=(by omega);rw [List.drop_of_length_le (by rw [aM.out];omega)]at aN;have HG:=qqh (aN.trans (show gZ [] = true from rfl));clear aN;go_wp2_with fail;go_ret;exact⟨⟨_,rfl,by rw [HG.out];simp⟩,hb⟩
theorem LN (A:Option Addr) (n c:Nat) (l:List aI) (fv:Value) (Yy:fv=.func (.func 128) #[] #[]) (w:World) (hl:ck w w.heap.size A n l) (m:n≤maxLen) :
    Calls Tryz.prog 127 #[.slice A n c,fv] w fun e w'=>e=.returned (.bool (!gZ l))∧Below w.heap.size w w':=by
 have H:=qqh (GD A n c l fv Yy w hl m);clear hl m Yy;go_enter Tryz.func127,Tryz.ntmps127;go_wp2_with fail;refine H.out.mono ?_;rintro e w2 ⟨⟨z,rfl,hz⟩,hb⟩;have HZ:=qqh hz;clear hz;go_wp2_with fail;go_ret;exact⟨aV HZ.out,hb⟩
theorem iu (s:cG) (A1 A2 A3:Option Addr) (n1 n2 n3 c1 c2 c3:Nat) (w:World) (h2:ck w w.heap.size A2 n2 s.source) (m2:n2≤maxLen) :
    Calls Tryz.prog 104 #[.agg #[.bool s.start,.bool s.fin,.slice A1 n1 c1,.slice A2 n2 c2,.slice A3 n3 c3,.int .i64 s.ai]] w fun e w'=>e=.returned (.bool (gZ s.source))∧Below w.heap.size w w':=by
 obtain⟨start,fin,before,l,after,ai⟩:=s;dsimp only at h2 ⊢;have H:=qqh (fun o=>LN A2 n2 c2 l _ rfl (w.alloc o) (GX h2 o) m2);have HB:=qqh (fun o=>(Below.refl w.heap.size w).alloc qql o);clear h2 m2;go_enter Tryz.func104,Tryz.ntmps104;go_wp2_with fail;refine(H.out _).mono ?_;rintro e w2 ⟨rfl,hb⟩;have aX:=(HB.out _).trans (hb.mono (by simp));clear hb;go_wp2_with fail;go_ret;exact⟨aV (by simp),aX⟩
def Xd (W:World) (s:cG) (i:Value) (wr:World):Prop :=
  ∃ j:Nat,j≤3∧i=.int .i64 j∧fS [s.before,s.source,s.after] = fS ([s.before,s.source,s.after].drop j)∧Below W.heap.size W wr
theorem all_cons (l:List aI) (r:List (List aI)):fS (l::r)=if cP l=0 then fS r else cP l:=rfl
theorem Ja (s:cG) (W:World) (A1 A2 A3:Option Addr) (n1 n2 n3 c1 c2 c3:Nat) (h1:ck W W.heap.size A1 n1 s.before) (h2:ck W W.heap.size A2 n2 s.source) (h3:ck W W.heap.size A3 n3 s.after) (m1:n1≤maxLen) (m2:n2≤maxLen) (m3:n3≤maxLen) (j:Nat) (hj:j<3) :
    ∃ (A:Option Addr) (n c:Nat) (l:List aI),(#[.slice A1 n1 c1,.slice A2 n2 c2,.slice A3 n3 c3]:Array Value)[j]? = some (.slice A n c)∧ck W W.heap.size A n l∧n≤maxLen ∧ [s.before,s.source,s.after].drop j=l::[s.before,s.source,s.after].drop (j+1):=by
 match j,hj with
 | 0,_=>exact⟨A1,n1,c1,s.before,rfl,h1,m1,rfl⟩
 | 1,_=>exact⟨A2,n2,c2,s.source,rfl,h2,m2,rfl⟩
 | 2,_=>exact⟨A3,n3,c3,s.after,rfl,h3,m3,rfl⟩
theorem ir (s:cG) (gy:Bool) (A1 A2 A3:Option Addr) (n1 n2 n3 c1 c2 c3:Nat) (w:World) (h1:ck w w.heap.size A1 n1 s.before) (h2:ck w w.heap.size A2 n2 s.source) (h3:ck w w.heap.size A3 n3 s.after) (m1:n1≤maxLen) (m2:n2≤maxLen) (m3:n3≤maxLen) :
    Calls Tryz.prog 103 #[.agg #[.bool s.start,.bool s.fin,.slice A1 n1 c1,.slice A2 n2 c2,.slice A3 n3 c3,.int .i64 s.ai],.bool gy] w fun e w'=>e=.returned (.int .i64 (b7 s gy))∧Below w.heap.size w w':=by
 have gh:=kL.len h2;generalize hcs:(#[.bool s.start,.bool s.fin,.slice A1 n1 c1,.slice A2 n2 c2,.slice A3 n3 c3,.int .i64 s.ai]:Array Value)=cs;have aP:Below w.heap.size w (w.alloc (.cells cs 81)):=qqb.alloc qql _;have aX:Below w.heap.size w ((w.alloc (.cells cs 81)).alloc (.cells #[.slice A1 n1 c1,.slice A2 n2 c2,.slice A3 n3 c3] 79)):=aP.alloc aP.size _;have hk1:an ((w.alloc (.cells cs 81)).alloc (.cells #[.slice A1 n1 c1,.slice A2 n2 c2,.slice A3 n3 c3] 79)) w.heap.size 81 cs:=(an.new _ _ _).alloc _;have hk2:an ((w.alloc (.cells cs 81)).alloc (.cells #[.slice A1 n1 c1,.slice A2 n2 c2,.slice A3 n3 c3] 79)) (w.heap.size+1) 79 #[.slice A1 n1 c1,.slice A2 n2 c2,.slice A3 n3 c3]:=by
  have:=an.new (w.alloc (.cells cs 81)) 79 #[.slice A1 n1 c1,.slice A2 n2 c2,.slice A3 n3 c3];simpa using this
 have iP:=qqh (Ja s _ A1 A2 A3 n1 n2 n3 c1 c2 c3 (aU h1 aX) (aU h2 aX) (aU h3 aX) m1 m2 m3);have hm2:n2≤9223372036854775807:=(by unfold maxLen at m2;omega);have HB:=qqh aX;have ot:=qqh hk1;have xu:=qqh hk2;clear h1 h2 h3 m1 m2 m3 aP aX hk1 hk2;subst hcs;go_enter Tryz.func103,Tryz.ntmps103;go_wp2_with fail;generalize hW:((w.alloc (.cells #[.bool s.start,.bool s.fin,.slice A1 n1 c1,.slice A2 n2 c2,.slice A3 n3 c3,.int .i64 s.ai] 81)).alloc (.cells #[.slice A1 n1 c1,.slice A2 n2 c2,.slice A3 n3 c3] 79))=W at *;clear hW;go_loopw [18] (Xd W s) (fun i _=>3 - (intOf i).toNat);(case atStart=>exact⟨0,by omega,rfl,rfl,qqb⟩);obtain⟨j,hj,rfl,hall,hb⟩:=hrel;have hz:=hb.size;by_cases hj3:j<3
 ·obtain⟨A,n,c,l,hc,hl,hm,hd⟩:=iP.out j hj3;rw [hd,all_cons l]at hall;have dj:wr.cell? ⟨w.heap.size+1,j,none⟩=some (.slice A n c):=by
   rw [(an.below xu.out hb xu.out.lt).cell j];exact hc
  have ht:decide ((j:Int)<3)=true:=decide_eq_true (by omega);have aM:=qqh (kL.len hl);have HL:=qqh hl;have hn:n≤9223372036854775807:=(by unfold maxLen at hm;omega);clear hl hc hd hm;by_cases h20:20<n
  ·have YF:cP l=5:=(by unfold cP;rw [if_pos (by rw [aM.out];exact h20)]);rw [if_neg (by rw [YF];decide),YF]at hall;have HV:=qqh (show b7 s gy=5 by unfold b7;rw [hall];rfl);clear hall YF;go_wp2_with fail;go_ret;rw [HV.out];exact⟨rfl,HB.out.trans (hb.mono HB.out.size)⟩
  have hlg:cP l=lM l:=(by unfold cP;rw [if_neg (by rw [aM.out];exact h20)]);rw [hlg]at hall;have HA:=qqh hall;clear hall hlg;go_wp2_with fail;go_loopw [27] (UI W l n) (fun i _=>n - (intOf i).toNat);(case atStart=>exact⟨0,Nat.zero_le _,rfl,rfl,hb⟩);clear hb hz;obtain⟨k,hk,rfl,aN,hb⟩:=hrel;have hz:=hb.size;by_cases hlt:k<n
  ·obtain⟨a,ha⟩:∃ z,l[k]? = some z:=⟨_,List.getElem?_eq_getElem (by rw [aM.out];exact hlt)⟩;rw [bR ha,lM]at aN;obtain⟨b,off,A',n',c',rfl,cK,d0,d1,d2,d3,yH,hn',_,hnm⟩:=vw HL.out ha;have d0:=(hb.cell (p:=⟨b,off+k*4,none⟩) cK).trans d0;have d1:=(hb.cell (p:=⟨b,off+k*4+1,none⟩) cK).trans d1;have d2:=(hb.cell (p:=⟨b,off+k*4+2,none⟩) cK).trans d2;have d3:=(hb.cell (p:=⟨b,off+k*4+3,none⟩) cK).trans d3;have aP:=fun o=>hb.alloc hz o;have HI:=qqh (fun o=>Bf a A' n' c' (World.alloc _ o) (by unfold maxLen at hn';omega) (Rd.more (Rd.below yH (aP o)) (by simp;omega)));have bF:=qqh aP;clear yH aP hnm hn';unfold Mg at HI;by_cases hi:og a=0
   ·rw [if_pos hi]at aN;have HG:=qqh aN;clear aN;go_wp2_with fail;refine(HI.out _).mono ?_;rintro e w2 ⟨rfl,aX⟩;rw [hi];have bM:=(bF.out _).trans (aX.mono (by simp;omega));have bN:=qqh bM;clear aX bM;go_wp2_with fail;exact⟨⟨k+1,by omega,by go_num,HG.out,bN.out⟩,by simp [intOf];omega⟩
   rw [if_neg hi]at aN;have hi2:(og a != 0)=true:=(by simpa using hi);have Rw:=HA.out;rw [aN,if_neg hi]at Rw;have HV:=qqh (show b7 s gy=og a by unfold b7;rw [Rw,if_neg hi]);clear aN hi Rw;go_wp2_with fail;refine(HI.out _).mono ?_;rintro e w2 ⟨rfl,aX⟩;have bM:=(bF.out _).trans (aX.mono (by simp;omega));have bN:=qqh bM;clear aX bM;go_wp2_with fail;go_ret;rw [HV.out];exact⟨rfl,HB.out.trans (bN.out.mono HB.out.size)⟩
  obtain rfl:k=n:=(by omega);rw [List.drop_of_length_le (by rw [aM.out];omega)]at aN;have Rw:=HA.out;rw [aN,if_pos (show lM [] = 0 from rfl)]at Rw;have HG:=qqh Rw;clear aN Rw;go_wp2_with fail;exact⟨⟨j+1,by omega,by go_num,HG.out,hb⟩,by simp [intOf];omega⟩
 obtain rfl:j=3:=(by omega);have ha0:fS [s.before,s.source,s.after] = 0:=hall;have jt:=an.below ot.out hb ot.out.lt;have d3:wr.cell? ⟨w.heap.size,3,none⟩=some (.slice A2 n2 c2):=jt.cell 3;have d5:wr.cell? ⟨w.heap.size,5,none⟩=some (.int .i64 s.ai):=jt.cell 5;have hb0:=HB.out.trans (hb.mono HB.out.size);have HS:=qqh (show b7 s gy=if s.ai < -1∨(n2:Int)<s.ai then 3 else if gy=true∧n2=0 then 6 else 0 by unfold b7;rw [if_pos ha0,gh]);clear hall ha0 jt gh;have cy:=qqh hb0;clear hb0;by_cases hc:s.ai < -1∨(n2:Int)<s.ai
 ·have HV:=qqh (show b7 s gy=3 by rw [HS.out,if_pos hc]);rcases (show s.ai < -1∨(-1≤s.ai∧(n2:Int)<s.ai) by omega)with h | ⟨h,h'⟩
  all_goals
    clear hc
    go_wp2_with fail
    go_ret
    rw [HV.out]
    exact⟨rfl,cy.out⟩
 have hc1 : -1≤s.ai:=(by omega);have hc2:s.ai≤n2:=(by omega);cases hmust:gy
 ·have HV:=qqh (show b7 s false=0 by rw [← hmust,HS.out,if_neg hc,hmust];simp);subst hmust;clear hc;go_wp2_with fail;go_ret;rw [HV.out];exact⟨rfl,cy.out⟩
 subst hmust;by_cases h0:n2=0
 ·have HV:=qqh (show b7 s true=6 by rw [HS.out,if_neg hc,h0];simp);have kO:((n2:Int) == 0)=true:=(by simp;omega);clear hc;go_wp2_with fail;go_ret;rw [HV.out];exact⟨rfl,cy.out⟩
 have HV:=qqh (show b7 s true=0 by rw [HS.out,if_neg hc];simp [h0]);have kO:((n2:Int) == 0)=false:=(by simp;omega);clear hc;go_wp2_with fail;go_ret;rw [HV.out];exact⟨rfl,cy.out⟩
def uX (dir:Int) (left right:cG):Bool :=
  (dir == 2 || gZ right.source) && (dir == 1 || gZ left.source) && (dir != 1 || (!nu right && decide (left.ai<0))) && (dir != 2 || (!nu left && decide (right.ai<0)))
def dA (dir:Int) (left right:cG):Int :=
  if dir<1∨3<dir then 1
  else if b7 left (dir != 2)=0 then (if b7 right (dir != 1)=0 then (if uX dir left right=true then 0 else 8)else b7 right (dir != 1))
  else b7 left (dir != 2)
def iB (p:aK):Int :=
  if p.kind=1 then (if eO p.name=true then bD p.set else 7)
  else if p.kind=3 then bD p.set
  else if p.kind=4 then (if gC p.name=true then 0 else 7)
  else if p.kind=2 then dA p.dir p.left p.right
  else 1
theorem Kn {s:cG} (h:fS [s.before,s.source,s.after] = 0):s.before.length≤20∧s.source.length≤20∧s.after.length≤20:=by
 simp only [fS]at h;by_cases h1:cP s.before=0
 ·rw [if_pos h1]at h;by_cases h2:cP s.source=0
  ·rw [if_pos h2]at h;by_cases h3:cP s.after=0;exact⟨lP h1,lP h2,lP h3⟩;rw [if_neg h3]at h;exact absurd h h3
  rw [if_neg h2]at h;exact absurd h h2
 rw [if_neg h1]at h;exact absurd h h1
theorem eu {s:cG} {gy:Bool} (h:b7 s gy=0):s.before.length≤20∧s.source.length≤20∧s.after.length≤20:=by
 unfold b7 at h;by_cases h1:fS [s.before,s.source,s.after] = 0;exact Kn h1;rw [if_neg h1]at h;exact absurd h h1
def mw:Nat→List aK→Int × Int
  | _,[]=>(0,0)
  | i,p::r=>if iB p=0 then mw (i+1) r else (iB p,i)
def fX (l:List aK):Int × Int:=if 200<l.length then (5,0)else mw 0 l
theorem Ip {w:World} {B n:Nat} {A:Option Addr} {l:List aK} (h:DH w B A n l) {k:Nat} {p:aK} (hk:l[k]? = some p) :
    ∃ (b off:Nat) (A':Option Addr) (n' c':Nat) (L1 L2 L3 R1 R2 R3:Option Addr) (a1 a2 a3 x1 x2 x3 b1 b2 b3 y1 y2 y3:Nat),A=some ⟨b,off,none⟩∧b<B∧(w.cell? ⟨b,off+k*16,none⟩=some (.int .i64 p.kind)∧w.cell? ⟨b,off+k*16+1,none⟩=some (.string p.name)∧w.cell? ⟨b,off+k*16+2,none⟩=some (.slice A' n' c')∧w.cell? ⟨b,off+k*16+3,none⟩=some (.int .i64 p.dir)∧w.cell? ⟨b,off+k*16+4,none⟩=some (.bool p.left.start)∧w.cell? ⟨b,off+k*16+5,none⟩=some (.bool p.left.fin)∧w.cell? ⟨b,off+k*16+6,none⟩=some (.slice L1 a1 x1)∧w.cell? ⟨b,off+k*16+7,none⟩=some (.slice L2 a2 x2)∧w.cell? ⟨b,off+k*16+8,none⟩=some (.slice L3 a3 x3)∧w.cell? ⟨b,off+k*16+9,none⟩=some (.int .i64 p.left.ai)∧w.cell? ⟨b,off+k*16+10,none⟩=some (.bool p.right.start)∧w.cell? ⟨b,off+k*16+11,none⟩=some (.bool p.right.fin)∧w.cell? ⟨b,off+k*16+12,none⟩=some (.slice R1 b1 y1)∧w.cell? ⟨b,off+k*16+13,none⟩=some (.slice R2 b2 y2)∧w.cell? ⟨b,off+k*16+14,none⟩=some (.slice R3 b3 y3)∧w.cell? ⟨b,off+k*16+15,none⟩=some (.int .i64 p.right.ai))∧mA w B A' n' p.set∧n'≤maxLen∧ck w B L1 a1 p.left.before∧ck w B L2 a2 p.left.source∧ck w B L3 a3 p.left.after∧a1≤maxLen∧a2≤maxLen∧a3≤maxLen∧ck w B R1 b1 p.right.before∧ck w B R2 b2 p.right.source∧ck w B R3 b3 p.right.after∧b1≤maxLen∧b2≤maxLen∧b3≤maxLen∧lA p.left.ai∧lA p.right.ai∧p.name.size≤maxLen:=by
 obtain⟨b,off,cs,e,hb,⟨A',n',c',ls,rs,hcs,h1,h2,⟨L1,a1,x1,L2,a2,x2,L3,a3,x3,hls,l1,l2,l3,l4,l5,l6,l7⟩,⟨R1,b1,y1,R2,b2,y2,R3,b3,y3,hrs,r1,r2,r3,r4,r5,r6,r7⟩,_,_,h5⟩,hc⟩:=kL.at h hk;subst hls hrs;subst hcs;exact⟨b,off,A',n',c',L1,L2,L3,R1,R2,R3,a1,a2,a3,x1,x2,x3,b1,b2,b3,y1,y2,y3,e,hb,⟨hc 0 _ rfl,hc 1 _ rfl,hc 2 _ rfl,hc 3 _ rfl,hc 4 _ rfl,hc 5 _ rfl,hc 6 _ rfl,hc 7 _ rfl,hc 8 _ rfl,hc 9 _ rfl,hc 10 _ rfl,hc 11 _ rfl,hc 12 _ rfl,hc 13 _ rfl,hc 14 _ rfl,hc 15 _ rfl⟩,h1,h2,l1,l2,l3,l4,l5,l6,r1,r2,r3,r4,r5,r6,l7,r7,h5⟩
def Vc (w:World) (l:List aK) (n:Nat) (i:Value) (wr:World):Prop :=
  ∃ k:Nat,k≤n∧i=.int .i64 k∧mw 0 l=mw k (l.drop k)∧an wr w.heap.size 34 #[.int .i64 0,.int .i64 0]∧Below w.heap.size w wr
theorem DN {l:List aI} (h:cP l=0):l.length≤20∧∀ a∈l,og a=0:=by
 have h20:=lP h;refine⟨h20,?_⟩;unfold cP at h;rw [if_neg (by omega)]at h;clear h20;induction l with
 | nil=>simp
 | cons a l ih=>
  rw [lM]at h;by_cases h1:og a=0
  ·rw [if_pos h1]at h;intro x hx;rcases List.mem_cons.1 hx with rfl | hx;exact h1;exact ih h x hx
  rw [if_neg h1]at h;exact absurd h h1
theorem GS {a:aI} (h:og a=0):(a.kind=1∧bL a.rune=true)∨(a.kind=2∧bD a.set=0)∨(a.kind=3∧eO a.name=true):=by
 unfold og at h;by_cases h1:a.kind=1
 ·rw [if_pos h1]at h;cases hr:bL a.rune
  ·rw [hr]at h;simp at h
  exact .inl ⟨h1,rfl⟩
 rw [if_neg h1]at h;by_cases h2:a.kind=2
 ·rw [if_pos h2]at h;exact .inr (.inl ⟨h2,h⟩)
 rw [if_neg h2]at h;by_cases h3:a.kind=3
 ·rw [if_pos h3]at h;cases hr:eO a.name
  ·rw [hr]at h;simp at h
  exact .inr (.inr ⟨h3,rfl⟩)
 rw [if_neg h3]at h;cases h
theorem Kg {s:ByteArray} (h:eO s=true):s.size≤20:=by
 unfold eO at h;rw [decide_eq_true_iff]at h;exact h.2.1
theorem Hg {s:cG} {gy:Bool} (h:b7 s gy=0):cP s.before=0∧cP s.source=0∧cP s.after=0:=by
 unfold b7 at h;by_cases h0:fS [s.before,s.source,s.after] = 0
 ·simp only [fS]at h0;by_cases h1:cP s.before=0
  ·rw [if_pos h1]at h0;by_cases h2:cP s.source=0
   ·rw [if_pos h2]at h0;by_cases h3:cP s.after=0;exact⟨h1,h2,h3⟩;rw [if_neg h3]at h0;exact absurd h0 h3
   rw [if_neg h2]at h0;exact absurd h0 h2
  rw [if_neg h1]at h0;exact absurd h0 h1
 rw [if_neg h0]at h;exact absurd h h0
def Sb (p:aK):Prop :=
  (p.dir=1∨p.dir=2∨p.dir=3)∧(cP p.left.before=0∧cP p.left.source=0∧cP p.left.after=0)∧(cP p.right.before=0∧cP p.right.source=0∧cP p.right.after=0)
theorem qQ {p:aK} (h:iB p=0):(p.kind=1∧eO p.name=true∧bD p.set=0)∨(p.kind=3∧bD p.set=0)∨(p.kind=4∧gC p.name=true)∨(p.kind=2∧Sb p):=by
 unfold iB at h;by_cases h1:p.kind=1
 ·rw [if_pos h1]at h;cases hn:eO p.name
  ·rw [hn]at h;simp at h
  rw [hn,if_pos rfl]at h;exact .inl ⟨h1,rfl,h⟩
 rw [if_neg h1]at h;by_cases h3:p.kind=3
 ·rw [if_pos h3]at h;exact .inr (.inl ⟨h3,h⟩)
 rw [if_neg h3]at h;by_cases h4:p.kind=4
 ·rw [if_pos h4]at h;cases hn:gC p.name
  ·rw [hn]at h;simp at h
  exact .inr (.inr (.inl ⟨h4,rfl⟩))
 rw [if_neg h4]at h;by_cases h2:p.kind=2
 ·rw [if_pos h2]at h;unfold dA at h;by_cases hd:p.dir<1∨3<p.dir
  ·rw [if_pos hd]at h;cases h
  rw [if_neg hd]at h;by_cases hl:b7 p.left (p.dir != 2)=0
  ·rw [if_pos hl]at h;by_cases hr:b7 p.right (p.dir != 1)=0;exact .inr (.inr (.inr ⟨h2,by omega,Hg hl,Hg hr⟩));rw [if_neg hr]at h;exact absurd h hr
  rw [if_neg hl]at h;exact absurd h hl
 rw [if_neg h2]at h;cases h
theorem J5 {l:List aK}:∀ i,(mw i l).1=0→mw i l=(0,0)∧∀ p∈l,iB p=0:=by
 induction l with
 | nil=>intro i _;exact⟨rfl,by simp⟩
 | cons p l ih=>
  intro i h;rw [mw]at h ⊢;by_cases h1:iB p=0
  ·rw [if_pos h1]at h ⊢;obtain⟨h2,h3⟩:=ih (i+1) h;refine⟨h2,fun q hq=>?_⟩;rcases List.mem_cons.1 hq with rfl | hq;exact h1;exact h3 q hq
  rw [if_neg h1]at h;exact absurd h h1
theorem OK {l:List aK} (h:(fX l).1=0):l.length≤200∧fX l=(0,0)∧∀ p∈l,iB p=0:=by
 unfold fX at h ⊢;by_cases h2:200<l.length
 ·rw [if_pos h2]at h;cases h
 rw [if_neg h2]at h ⊢;obtain⟨h3,h4⟩:=J5 0 h;exact⟨by omega,h3,h4⟩
theorem Gl (name:ByteArray) (left right:cG) (A:Option Addr) (n c:Nat) (L1 L2 L3 R1 R2 R3:Option Addr) (a1 a2 a3 x1 x2 x3 b1 b2 b3 y1 y2 y3:Nat) (w:World) (l1:ck w w.heap.size L1 a1 left.before) (l2:ck w w.heap.size L2 a2 left.source) (l3:ck w w.heap.size L3 a3 left.after) (AH:a1≤maxLen) (yp:a2≤maxLen) (Bu:a3≤maxLen) (r1:ck w w.heap.size R1 b1 right.before) (r2:ck w w.heap.size R2 b2 right.source) (r3:ck w w.heap.size R3 b3 right.after) (AB:b1≤maxLen) (yo:b2≤maxLen) (Bz:b3≤maxLen) :
    Calls Tryz.prog 68 #[.agg #[.int .i64 2,.string name,.slice A n c,.int .i64 1,.bool left.start,.bool left.fin,.slice L1 a1 x1,.slice L2 a2 x2,.slice L3 a3 x3,.int .i64 left.ai,.bool right.start,.bool right.fin,.slice R1 b1 y1,.slice R2 b2 y2,.slice R3 b3 y3,.int .i64 right.ai]] w fun e w'=>e=.returned (.int .i64 (dA 1 left right))∧Below w.heap.size w w':=by
 have SL:=qqh (fun w' (hb:Below w.heap.size w w') gy=>ir left gy L1 L2 L3 a1 a2 a3 x1 x2 x3 w' (aU l1 hb) (aU l2 hb) (aU l3 hb) AH yp Bu);have TL:=qqh (fun w' (hb:Below w.heap.size w w')=>iu left L1 L2 L3 a1 a2 a3 x1 x2 x3 w' (aU l2 hb) yp);have BL:=qqh (fun w' gy (h0:b7 left gy=0)=>iq left L1 L2 L3 a1 a2 a3 x1 x2 x3 w' (kL.len l1) (kL.len l3) (by rw [← kL.len l1];exact(eu h0).1) (by rw [← kL.len l3];exact(eu h0).2.2));have SR:=qqh (fun w' (hb:Below w.heap.size w w') gy=>ir right gy R1 R2 R3 b1 b2 b3 y1 y2 y3 w' (aU r1 hb) (aU r2 hb) (aU r3 hb) AB yo Bz);have TR:=qqh (fun w' (hb:Below w.heap.size w w')=>iu right R1 R2 R3 b1 b2 b3 y1 y2 y3 w' (aU r2 hb) yo);have BR:=qqh (fun w' gy (h0:b7 right gy=0)=>iq right R1 R2 R3 b1 b2 b3 y1 y2 y3 w' (kL.len r1) (kL.len r3) (by rw [← kL.len r1];exact(eu h0).1) (by rw [← kL.len r3];exact(eu h0).2.2));clear l1 l2 l3 r1 r2 r3 AH yp Bu AB yo Bz;have cy:=qqh ((Below.refl w.heap.size w).alloc qql (.cells #[.int .i64 2,.string name,.slice A n c,.int .i64 1,.bool left.start,.bool left.fin,.slice L1 a1 x1,.slice L2 a2 x2,.slice L3 a3 x3,.int .i64 left.ai,.bool right.start,.bool right.fin,.slice R1 b1 y1,.slice R2 b2 y2,.slice R3 b3 y3,.int .i64 right.ai] 83));have gS:=qqh (an.new w 83 #[.int .i64 2,.string name,.slice A n c,.int .i64 1,.bool left.start,.bool left.fin,.slice L1 a1 x1,.slice L2 a2 x2,.slice L3 a3 x3,.int .i64 left.ai,.bool right.start,.bool right.fin,.slice R1 b1 y1,.slice R2 b2 y2,.slice R3 b3 y3,.int .i64 right.ai]);go_enter Tryz.func68,Tryz.ntmps68;go_wp2_with fail
 generalize w.alloc (.cells #[.int .i64 2,.string name,.slice A n c,.int .i64 1,.bool left.start,.bool left.fin,.slice L1 a1 x1,.slice L2 a2 x2,.slice L3 a3 x3,.int .i64 left.ai,.bool right.start,.bool right.fin,.slice R1 b1 y1,.slice R2 b2 y2,.slice R3 b3 y3,.int .i64 right.ai] 83)=W0 at *;have c0:W0.cell? ⟨w.heap.size,0,none⟩=some (.int .i64 2):=gS.out.cell 0;have c3:W0.cell? ⟨w.heap.size,3,none⟩=some (.int .i64 1):=gS.out.cell 3;have c4:W0.cell? ⟨w.heap.size,4,none⟩=some (.bool left.start):=gS.out.cell 4;have c5:W0.cell? ⟨w.heap.size,5,none⟩=some (.bool left.fin):=gS.out.cell 5;have c6:W0.cell? ⟨w.heap.size,6,none⟩=some (.slice L1 a1 x1):=gS.out.cell 6;have c7:W0.cell? ⟨w.heap.size,7,none⟩=some (.slice L2 a2 x2):=gS.out.cell 7;have c8:W0.cell? ⟨w.heap.size,8,none⟩=some (.slice L3 a3 x3):=gS.out.cell 8;have c9:W0.cell? ⟨w.heap.size,9,none⟩=some (.int .i64 left.ai):=gS.out.cell 9;have c10:W0.cell? ⟨w.heap.size,10,none⟩=some (.bool right.start):=gS.out.cell 10;have c11:W0.cell? ⟨w.heap.size,11,none⟩=some (.bool right.fin):=gS.out.cell 11;have c12:W0.cell? ⟨w.heap.size,12,none⟩=some (.slice R1 b1 y1):=gS.out.cell 12;have c13:W0.cell? ⟨w.heap.size,13,none⟩=some (.slice R2 b2 y2):=gS.out.cell 13;have c14:W0.cell? ⟨w.heap.size,14,none⟩=some (.slice R3 b3 y3):=gS.out.cell 14;have c15:W0.cell? ⟨w.heap.size,15,none⟩=some (.int .i64 right.ai):=gS.out.cell 15;go_quiet (fail);go_wp2_with fail;refine(SL.out _ (below_drewN cy.out _) true).mono ?_;rintro e w1 ⟨rfl,hb⟩;have rS:=qqh (cy.out.trans (Below.trans (below_drewN qqb _) (hb.mono (by exact qql)) |>.mono cy.out.size));have j5:=qqh (an.below (an.drewN gS.out _) hb gS.out.lt);clear hb;have d10:w1.cell? ⟨w.heap.size,10,none⟩=some (.bool right.start):=j5.out.cell 10
 have d11:w1.cell? ⟨w.heap.size,11,none⟩=some (.bool right.fin):=j5.out.cell 11;have d12:w1.cell? ⟨w.heap.size,12,none⟩=some (.slice R1 b1 y1):=j5.out.cell 12;have d13:w1.cell? ⟨w.heap.size,13,none⟩=some (.slice R2 b2 y2):=j5.out.cell 13;have d14:w1.cell? ⟨w.heap.size,14,none⟩=some (.slice R3 b3 y3):=j5.out.cell 14;have d15:w1.cell? ⟨w.heap.size,15,none⟩=some (.int .i64 right.ai):=j5.out.cell 15;by_cases e1:b7 left true=0
 ·have Xf:(b7 left true != 0)=false:=(by simp [e1]);go_wp2_with fail;refine(SR.out w1 rS.out false).mono ?_;rintro e w2 ⟨rfl,hb⟩;have jG:=qqh (an.below j5.out hb j5.out.lt);have sD:=qqh (rS.out.trans (hb.mono rS.out.size));clear hb;have d10:w2.cell? ⟨w.heap.size,10,none⟩=some (.bool right.start):=jG.out.cell 10;have d11:w2.cell? ⟨w.heap.size,11,none⟩=some (.bool right.fin):=jG.out.cell 11;have d12:w2.cell? ⟨w.heap.size,12,none⟩=some (.slice R1 b1 y1):=jG.out.cell 12;have d13:w2.cell? ⟨w.heap.size,13,none⟩=some (.slice R2 b2 y2):=jG.out.cell 13;have d14:w2.cell? ⟨w.heap.size,14,none⟩=some (.slice R3 b3 y3):=jG.out.cell 14;have d15:w2.cell? ⟨w.heap.size,15,none⟩=some (.int .i64 right.ai):=jG.out.cell 15;by_cases e2:b7 right false=0
  ·have U3:(b7 right false != 0)=false:=(by simp [e2]);go_wp2_with fail;refine(TR.out w2 sD.out).mono ?_;rintro e w3 ⟨rfl,hb⟩;have jI:=qqh (an.below jG.out hb jG.out.lt);have uU:=qqh (sD.out.trans (hb.mono sD.out.size));clear hb;have d10:w3.cell? ⟨w.heap.size,10,none⟩=some (.bool right.start):=jI.out.cell 10;have d11:w3.cell? ⟨w.heap.size,11,none⟩=some (.bool right.fin):=jI.out.cell 11;have d12:w3.cell? ⟨w.heap.size,12,none⟩=some (.slice R1 b1 y1):=jI.out.cell 12;have d13:w3.cell? ⟨w.heap.size,13,none⟩=some (.slice R2 b2 y2):=jI.out.cell 13;have d14:w3.cell? ⟨w.heap.size,14,none⟩=some (.slice R3 b3 y3):=jI.out.cell 14;have d15:w3.cell? ⟨w.heap.size,15,none⟩=some (.int .i64 right.ai):=jI.out.cell 15;cases hp:gZ right.source
   ·have HV:=qqh (show dA 1 left right=8 by simp [dA,uX,e1,e2,hp]);clear e1 e2 hp;go_wp2_with fail;go_ret;rw [HV.out];exact⟨rfl,uU.out⟩
   go_wp2_with fail;refine(BR.out w3 false e2).mono ?_;rintro e w4 ⟨rfl,hb⟩;have Pg:=qqh (an.below jI.out hb jI.out.lt);have yX:=qqh (uU.out.trans (hb.mono uU.out.size));clear hb;have d9:w4.cell? ⟨w.heap.size,9,none⟩=some (.int .i64 left.ai):=Pg.out.cell 9;cases ha:nu right
   ·by_cases BY:left.ai<0
    ·have HV:=qqh (show dA 1 left right=0 by simp [dA,uX,e1,e2,hp,ha,BY]);clear e1 e2 hp ha;go_wp2_with fail;go_ret;rw [HV.out];exact⟨rfl,yX.out⟩
    have HV:=qqh (show dA 1 left right=8 by simp [dA,uX,e1,e2,hp,ha,BY]);clear e1 e2 hp ha;go_wp2_with fail;go_ret;rw [HV.out];exact⟨rfl,yX.out⟩
   have HV:=qqh (show dA 1 left right=8 by simp [dA,uX,e1,e2,hp,ha]);clear e1 e2 hp ha;go_wp2_with fail;go_ret;rw [HV.out];exact⟨rfl,yX.out⟩
  have U3:(b7 right false != 0)=true:=(by simpa using e2);have HV:=qqh (show dA 1 left right=b7 right false by simp [dA,e1,e2]);clear e1 e2;go_wp2_with fail;go_ret;rw [HV.out];exact⟨rfl,sD.out⟩
 have Xf:(b7 left true != 0)=true:=(by simpa using e1);have HV:=qqh (show dA 1 left right=b7 left true by simp [dA,e1]);clear e1;go_wp2_with fail;go_ret;rw [HV.out];exact⟨rfl,rS.out⟩
theorem Gy (name:ByteArray) (left right:cG) (A:Option Addr) (n c:Nat) (L1 L2 L3 R1 R2 R3:Option Addr) (a1 a2 a3 x1 x2 x3 b1 b2 b3 y1 y2 y3:Nat) (w:World) (l1:ck w w.heap.size L1 a1 left.before) (l2:ck w w.heap.size L2 a2 left.source) (l3:ck w w.heap.size L3 a3 left.after) (AH:a1≤maxLen) (yp:a2≤maxLen) (Bu:a3≤maxLen) (r1:ck w w.heap.size R1 b1 right.before) (r2:ck w w.heap.size R2 b2 right.source) (r3:ck w w.heap.size R3 b3 right.after) (AB:b1≤maxLen) (yo:b2≤maxLen) (Bz:b3≤maxLen) :
    Calls Tryz.prog 68 #[.agg #[.int .i64 2,.string name,.slice A n c,.int .i64 2,.bool left.start,.bool left.fin,.slice L1 a1 x1,.slice L2 a2 x2,.slice L3 a3 x3,.int .i64 left.ai,.bool right.start,.bool right.fin,.slice R1 b1 y1,.slice R2 b2 y2,.slice R3 b3 y3,.int .i64 right.ai]] w fun e w'=>e=.returned (.int .i64 (dA 2 left right))∧Below w.heap.size w w':=by
 have SL:=qqh (fun w' (hb:Below w.heap.size w w') gy=>ir left gy L1 L2 L3 a1 a2 a3 x1 x2 x3 w' (aU l1 hb) (aU l2 hb) (aU l3 hb) AH yp Bu);have TL:=qqh (fun w' (hb:Below w.heap.size w w')=>iu left L1 L2 L3 a1 a2 a3 x1 x2 x3 w' (aU l2 hb) yp);have BL:=qqh (fun w' gy (h0:b7 left gy=0)=>iq left L1 L2 L3 a1 a2 a3 x1 x2 x3 w' (kL.len l1) (kL.len l3) (by rw [← kL.len l1];exact(eu h0).1) (by rw [← kL.len l3];exact(eu h0).2.2));have SR:=qqh (fun w' (hb:Below w.heap.size w w') gy=>ir right gy R1 R2 R3 b1 b2 b3 y1 y2 y3 w' (aU r1 hb) (aU r2 hb) (aU r3 hb) AB yo Bz);have TR:=qqh (fun w' (hb:Below w.heap.size w w')=>iu right R1 R2 R3 b1 b2 b3 y1 y2 y3 w' (aU r2 hb) yo);have BR:=qqh (fun w' gy (h0:b7 right gy=0)=>iq right R1 R2 R3 b1 b2 b3 y1 y2 y3 w' (kL.len r1) (kL.len r3) (by rw [← kL.len r1];exact(eu h0).1) (by rw [← kL.len r3];exact(eu h0).2.2));clear l1 l2 l3 r1 r2 r3 AH yp Bu AB yo Bz;have cy:=qqh ((Below.refl w.heap.size w).alloc qql (.cells #[.int .i64 2,.string name,.slice A n c,.int .i64 2,.bool left.start,.bool left.fin,.slice L1 a1 x1,.slice L2 a2 x2,.slice L3 a3 x3,.int .i64 left.ai,.bool right.start,.bool right.fin,.slice R1 b1 y1,.slice R2 b2 y2,.slice R3 b3 y3,.int .i64 right.ai] 83));have gS:=qqh (an.new w 83 #[.int .i64 2,.string name,.slice A n c,.int .i64 2,.bool left.start,.bool left.fin,.slice L1 a1 x1,.slice L2 a2 x2,.slice L3 a3 x3,.int .i64 left.ai,.bool right.start,.bool right.fin,.slice R1 b1 y1,.slice R2 b2 y2,.slice R3 b3 y3,.int .i64 right.ai]);go_enter Tryz.func68,Tryz.ntmps68;go_wp2_with fail
 generalize w.alloc (.cells #[.int .i64 2,.string name,.slice A n c,.int .i64 2,.bool left.start,.bool left.fin,.slice L1 a1 x1,.slice L2 a2 x2,.slice L3 a3 x3,.int .i64 left.ai,.bool right.start,.bool right.fin,.slice R1 b1 y1,.slice R2 b2 y2,.slice R3 b3 y3,.int .i64 right.ai] 83)=W0 at *;have c0:W0.cell? ⟨w.heap.size,0,none⟩=some (.int .i64 2):=gS.out.cell 0;have c3:W0.cell? ⟨w.heap.size,3,none⟩=some (.int .i64 2):=gS.out.cell 3;have c4:W0.cell? ⟨w.heap.size,4,none⟩=some (.bool left.start):=gS.out.cell 4;have c5:W0.cell? ⟨w.heap.size,5,none⟩=some (.bool left.fin):=gS.out.cell 5;have c6:W0.cell? ⟨w.heap.size,6,none⟩=some (.slice L1 a1 x1):=gS.out.cell 6;have c7:W0.cell? ⟨w.heap.size,7,none⟩=some (.slice L2 a2 x2):=gS.out.cell 7;have c8:W0.cell? ⟨w.heap.size,8,none⟩=some (.slice L3 a3 x3):=gS.out.cell 8;have c9:W0.cell? ⟨w.heap.size,9,none⟩=some (.int .i64 left.ai):=gS.out.cell 9;have c10:W0.cell? ⟨w.heap.size,10,none⟩=some (.bool right.start):=gS.out.cell 10;have c11:W0.cell? ⟨w.heap.size,11,none⟩=some (.bool right.fin):=gS.out.cell 11;have c12:W0.cell? ⟨w.heap.size,12,none⟩=some (.slice R1 b1 y1):=gS.out.cell 12;have c13:W0.cell? ⟨w.heap.size,13,none⟩=some (.slice R2 b2 y2):=gS.out.cell 13;have c14:W0.cell? ⟨w.heap.size,14,none⟩=some (.slice R3 b3 y3):=gS.out.cell 14;have c15:W0.cell? ⟨w.heap.size,15,none⟩=some (.int .i64 right.ai):=gS.out.cell 15;go_quiet (fail);go_wp2_with fail;refine(SL.out _ (below_drewN cy.out _) false).mono ?_;rintro e w1 ⟨rfl,hb⟩;have rS:=qqh (cy.out.trans (Below.trans (below_drewN qqb _) (hb.mono (by exact qql)) |>.mono cy.out.size));have j5:=qqh (an.below (an.drewN gS.out _) hb gS.out.lt);clear hb;have d10:w1.cell? ⟨w.heap.size,10,none⟩=some (.bool right.start):=j5.out.cell 10
 have d11:w1.cell? ⟨w.heap.size,11,none⟩=some (.bool right.fin):=j5.out.cell 11;have d12:w1.cell? ⟨w.heap.size,12,none⟩=some (.slice R1 b1 y1):=j5.out.cell 12;have d13:w1.cell? ⟨w.heap.size,13,none⟩=some (.slice R2 b2 y2):=j5.out.cell 13;have d14:w1.cell? ⟨w.heap.size,14,none⟩=some (.slice R3 b3 y3):=j5.out.cell 14;have d15:w1.cell? ⟨w.heap.size,15,none⟩=some (.int .i64 right.ai):=j5.out.cell 15;by_cases e1:b7 left false=0
 ·have Xf:(b7 left false != 0)=false:=(by simp [e1]);go_wp2_with fail;refine(SR.out w1 rS.out true).mono ?_;rintro e w2 ⟨rfl,hb⟩;have jG:=qqh (an.below j5.out hb j5.out.lt);have sD:=qqh (rS.out.trans (hb.mono rS.out.size));clear hb;have d4:w2.cell? ⟨w.heap.size,4,none⟩=some (.bool left.start):=jG.out.cell 4;have d5:w2.cell? ⟨w.heap.size,5,none⟩=some (.bool left.fin):=jG.out.cell 5;have d6:w2.cell? ⟨w.heap.size,6,none⟩=some (.slice L1 a1 x1):=jG.out.cell 6;have d7:w2.cell? ⟨w.heap.size,7,none⟩=some (.slice L2 a2 x2):=jG.out.cell 7;have d8:w2.cell? ⟨w.heap.size,8,none⟩=some (.slice L3 a3 x3):=jG.out.cell 8;have d9:w2.cell? ⟨w.heap.size,9,none⟩=some (.int .i64 left.ai):=jG.out.cell 9;by_cases e2:b7 right true=0
  ·have U3:(b7 right true != 0)=false:=(by simp [e2]);go_wp2_with fail;refine(TL.out w2 sD.out).mono ?_;rintro e w3 ⟨rfl,hb⟩;have jI:=qqh (an.below jG.out hb jG.out.lt);have uU:=qqh (sD.out.trans (hb.mono sD.out.size));clear hb;have d4:w3.cell? ⟨w.heap.size,4,none⟩=some (.bool left.start):=jI.out.cell 4;have d5:w3.cell? ⟨w.heap.size,5,none⟩=some (.bool left.fin):=jI.out.cell 5;have d6:w3.cell? ⟨w.heap.size,6,none⟩=some (.slice L1 a1 x1):=jI.out.cell 6;have d7:w3.cell? ⟨w.heap.size,7,none⟩=some (.slice L2 a2 x2):=jI.out.cell 7;have d8:w3.cell? ⟨w.heap.size,8,none⟩=some (.slice L3 a3 x3):=jI.out.cell 8;have d9:w3.cell? ⟨w.heap.size,9,none⟩=some (.int .i64 left.ai):=jI.out.cell 9;cases hp:gZ left.source
   ·have HV:=qqh (show dA 2 left right=8 by simp [dA,uX,e1,e2,hp]);clear e1 e2 hp;go_wp2_with fail;go_ret;rw [HV.out];exact⟨rfl,uU.out⟩
   go_wp2_with fail;refine(BL.out w3 false e1).mono ?_;rintro e w4 ⟨rfl,hb⟩;have Pg:=qqh (an.below jI.out hb jI.out.lt);have yX:=qqh (uU.out.trans (hb.mono uU.out.size));clear hb;have d15:w4.cell? ⟨w.heap.size,15,none⟩=some (.int .i64 right.ai):=Pg.out.cell 15;cases ha:nu left
   ·by_cases BY:right.ai<0
    ·have HV:=qqh (show dA 2 left right=0 by simp [dA,uX,e1,e2,hp,ha,BY]);clear e1 e2 hp ha;go_wp2_with fail;go_ret;rw [HV.out];exact⟨rfl,yX.out⟩
    have HV:=qqh (show dA 2 left right=8 by simp [dA,uX,e1,e2,hp,ha,BY]);clear e1 e2 hp ha;go_wp2_with fail;go_ret;rw [HV.out];exact⟨rfl,yX.out⟩
   have HV:=qqh (show dA 2 left right=8 by simp [dA,uX,e1,e2,hp,ha]);clear e1 e2 hp ha;go_wp2_with fail;go_ret;rw [HV.out];exact⟨rfl,yX.out⟩
  have U3:(b7 right true != 0)=true:=(by simpa using e2);have HV:=qqh (show dA 2 left right=b7 right true by simp [dA,e1,e2]);clear e1 e2;go_wp2_with fail;go_ret;rw [HV.out];exact⟨rfl,sD.out⟩
 have Xf:(b7 left false != 0)=true:=(by simpa using e1);have HV:=qqh (show dA 2 left right=b7 left false by simp [dA,e1]);clear e1;go_wp2_with fail;go_ret;rw [HV.out];exact⟨rfl,rS.out⟩
theorem F3 (name:ByteArray) (left right:cG) (A:Option Addr) (n c:Nat) (L1 L2 L3 R1 R2 R3:Option Addr) (a1 a2 a3 x1 x2 x3 b1 b2 b3 y1 y2 y3:Nat) (w:World) (l1:ck w w.heap.size L1 a1 left.before) (l2:ck w w.heap.size L2 a2 left.source) (l3:ck w w.heap.size L3 a3 left.after) (AH:a1≤maxLen) (yp:a2≤maxLen) (Bu:a3≤maxLen) (r1:ck w w.heap.size R1 b1 right.before) (r2:ck w w.heap.size R2 b2 right.source) (r3:ck w w.heap.size R3 b3 right.after) (AB:b1≤maxLen) (yo:b2≤maxLen) (Bz:b3≤maxLen) :
    Calls Tryz.prog 68 #[.agg #[.int .i64 2,.string name,.slice A n c,.int .i64 3,.bool left.start,.bool left.fin,.slice L1 a1 x1,.slice L2 a2 x2,.slice L3 a3 x3,.int .i64 left.ai,.bool right.start,.bool right.fin,.slice R1 b1 y1,.slice R2 b2 y2,.slice R3 b3 y3,.int .i64 right.ai]] w fun e w'=>e=.returned (.int .i64 (dA 3 left right))∧Below w.heap.size w w':=by
 have SL:=qqh (fun w' (hb:Below w.heap.size w w') gy=>ir left gy L1 L2 L3 a1 a2 a3 x1 x2 x3 w' (aU l1 hb) (aU l2 hb) (aU l3 hb) AH yp Bu);have TL:=qqh (fun w' (hb:Below w.heap.size w w')=>iu left L1 L2 L3 a1 a2 a3 x1 x2 x3 w' (aU l2 hb) yp);have BL:=qqh (fun w' gy (h0:b7 left gy=0)=>iq left L1 L2 L3 a1 a2 a3 x1 x2 x3 w' (kL.len l1) (kL.len l3) (by rw [← kL.len l1];exact(eu h0).1) (by rw [← kL.len l3];exact(eu h0).2.2));have SR:=qqh (fun w' (hb:Below w.heap.size w w') gy=>ir right gy R1 R2 R3 b1 b2 b3 y1 y2 y3 w' (aU r1 hb) (aU r2 hb) (aU r3 hb) AB yo Bz);have TR:=qqh (fun w' (hb:Below w.heap.size w w')=>iu right R1 R2 R3 b1 b2 b3 y1 y2 y3 w' (aU r2 hb) yo);have BR:=qqh (fun w' gy (h0:b7 right gy=0)=>iq right R1 R2 R3 b1 b2 b3 y1 y2 y3 w' (kL.len r1) (kL.len r3) (by rw [← kL.len r1];exact(eu h0).1) (by rw [← kL.len r3];exact(eu h0).2.2));clear l1 l2 l3 r1 r2 r3 AH yp Bu AB yo Bz;have cy:=qqh ((Below.refl w.heap.size w).alloc qql (.cells #[.int .i64 2,.string name,.slice A n c,.int .i64 3,.bool left.start,.bool left.fin,.slice L1 a1 x1,.slice L2 a2 x2,.slice L3 a3 x3,.int .i64 left.ai,.bool right.start,.bool right.fin,.slice R1 b1 y1,.slice R2 b2 y2,.slice R3 b3 y3,.int .i64 right.ai] 83));have gS:=qqh (an.new w 83 #[.int .i64 2,.string name,.slice A n c,.int .i64 3,.bool left.start,.bool left.fin,.slice L1 a1 x1,.slice L2 a2 x2,.slice L3 a3 x3,.int .i64 left.ai,.bool right.start,.bool right.fin,.slice R1 b1 y1,.slice R2 b2 y2,.slice R3 b3 y3,.int .i64 right.ai]);go_enter Tryz.func68,Tryz.ntmps68;go_wp2_with fail
 generalize w.alloc (.cells #[.int .i64 2,.string name,.slice A n c,.int .i64 3,.bool left.start,.bool left.fin,.slice L1 a1 x1,.slice L2 a2 x2,.slice L3 a3 x3,.int .i64 left.ai,.bool right.start,.bool right.fin,.slice R1 b1 y1,.slice R2 b2 y2,.slice R3 b3 y3,.int .i64 right.ai] 83)=W0 at *;have c0:W0.cell? ⟨w.heap.size,0,none⟩=some (.int .i64 2):=gS.out.cell 0;have c3:W0.cell? ⟨w.heap.size,3,none⟩=some (.int .i64 3):=gS.out.cell 3;have c4:W0.cell? ⟨w.heap.size,4,none⟩=some (.bool left.start):=gS.out.cell 4;have c5:W0.cell? ⟨w.heap.size,5,none⟩=some (.bool left.fin):=gS.out.cell 5;have c6:W0.cell? ⟨w.heap.size,6,none⟩=some (.slice L1 a1 x1):=gS.out.cell 6;have c7:W0.cell? ⟨w.heap.size,7,none⟩=some (.slice L2 a2 x2):=gS.out.cell 7;have c8:W0.cell? ⟨w.heap.size,8,none⟩=some (.slice L3 a3 x3):=gS.out.cell 8;have c9:W0.cell? ⟨w.heap.size,9,none⟩=some (.int .i64 left.ai):=gS.out.cell 9;have c10:W0.cell? ⟨w.heap.size,10,none⟩=some (.bool right.start):=gS.out.cell 10;have c11:W0.cell? ⟨w.heap.size,11,none⟩=some (.bool right.fin):=gS.out.cell 11;have c12:W0.cell? ⟨w.heap.size,12,none⟩=some (.slice R1 b1 y1):=gS.out.cell 12;have c13:W0.cell? ⟨w.heap.size,13,none⟩=some (.slice R2 b2 y2):=gS.out.cell 13;have c14:W0.cell? ⟨w.heap.size,14,none⟩=some (.slice R3 b3 y3):=gS.out.cell 14;have c15:W0.cell? ⟨w.heap.size,15,none⟩=some (.int .i64 right.ai):=gS.out.cell 15;go_quiet (fail);go_wp2_with fail;refine(SL.out _ (below_drewN cy.out _) true).mono ?_;rintro e w1 ⟨rfl,hb⟩;have rS:=qqh (cy.out.trans (Below.trans (below_drewN qqb _) (hb.mono (by exact qql)) |>.mono cy.out.size));have j5:=qqh (an.below (an.drewN gS.out _) hb gS.out.lt);clear hb;have d10:w1.cell? ⟨w.heap.size,10,none⟩=some (.bool right.start):=j5.out.cell 10
 have d11:w1.cell? ⟨w.heap.size,11,none⟩=some (.bool right.fin):=j5.out.cell 11;have d12:w1.cell? ⟨w.heap.size,12,none⟩=some (.slice R1 b1 y1):=j5.out.cell 12;have d13:w1.cell? ⟨w.heap.size,13,none⟩=some (.slice R2 b2 y2):=j5.out.cell 13;have d14:w1.cell? ⟨w.heap.size,14,none⟩=some (.slice R3 b3 y3):=j5.out.cell 14;have d15:w1.cell? ⟨w.heap.size,15,none⟩=some (.int .i64 right.ai):=j5.out.cell 15;by_cases e1:b7 left true=0
 ·have Xf:(b7 left true != 0)=false:=(by simp [e1]);go_wp2_with fail;refine(SR.out w1 rS.out true).mono ?_;rintro e w2 ⟨rfl,hb⟩;have jG:=qqh (an.below j5.out hb j5.out.lt);have sD:=qqh (rS.out.trans (hb.mono rS.out.size));clear hb;have d10:w2.cell? ⟨w.heap.size,10,none⟩=some (.bool right.start):=jG.out.cell 10;have d11:w2.cell? ⟨w.heap.size,11,none⟩=some (.bool right.fin):=jG.out.cell 11;have d12:w2.cell? ⟨w.heap.size,12,none⟩=some (.slice R1 b1 y1):=jG.out.cell 12;have d13:w2.cell? ⟨w.heap.size,13,none⟩=some (.slice R2 b2 y2):=jG.out.cell 13;have d14:w2.cell? ⟨w.heap.size,14,none⟩=some (.slice R3 b3 y3):=jG.out.cell 14;have d15:w2.cell? ⟨w.heap.size,15,none⟩=some (.int .i64 right.ai):=jG.out.cell 15;by_cases e2:b7 right true=0
  ·have U3:(b7 right true != 0)=false:=(by simp [e2]);go_wp2_with fail;refine(TR.out w2 sD.out).mono ?_;rintro e w3 ⟨rfl,hb⟩;have jI:=qqh (an.below jG.out hb jG.out.lt);have uU:=qqh (sD.out.trans (hb.mono sD.out.size));clear hb;have d4:w3.cell? ⟨w.heap.size,4,none⟩=some (.bool left.start):=jI.out.cell 4;have d5:w3.cell? ⟨w.heap.size,5,none⟩=some (.bool left.fin):=jI.out.cell 5;have d6:w3.cell? ⟨w.heap.size,6,none⟩=some (.slice L1 a1 x1):=jI.out.cell 6;have d7:w3.cell? ⟨w.heap.size,7,none⟩=some (.slice L2 a2 x2):=jI.out.cell 7;have d8:w3.cell? ⟨w.heap.size,8,none⟩=some (.slice L3 a3 x3):=jI.out.cell 8;have d9:w3.cell? ⟨w.heap.size,9,none⟩=some (.int .i64 left.ai):=jI.out.cell 9;cases hp:gZ right.source
   ·have HV:=qqh (show dA 3 left right=8 by simp [dA,uX,e1,e2,hp]);clear e1 e2 hp;go_wp2_with fail;go_ret;rw [HV.out];exact⟨rfl,uU.out⟩
   go_wp2_with fail;refine(TL.out w3 uU.out).mono ?_;rintro e w4 ⟨rfl,hb⟩;have Pg:=qqh (an.below jI.out hb jI.out.lt);have yX:=qqh (uU.out.trans (hb.mono uU.out.size));clear hb;cases hq:gZ left.source
   ·have HV:=qqh (show dA 3 left right=8 by simp [dA,uX,e1,e2,hp,hq]);clear e1 e2 hp hq;go_wp2_with fail;go_ret;rw [HV.out];exact⟨rfl,yX.out⟩
   have HV:=qqh (show dA 3 left right=0 by simp [dA,uX,e1,e2,hp,hq]);clear e1 e2 hp hq;go_wp2_with fail;go_ret;rw [HV.out];exact⟨rfl,yX.out⟩
  have U3:(b7 right true != 0)=true:=(by simpa using e2);have HV:=qqh (show dA 3 left right=b7 right true by simp [dA,e1,e2]);clear e1 e2;go_wp2_with fail;go_ret;rw [HV.out];exact⟨rfl,sD.out⟩
 have Xf:(b7 left true != 0)=true:=(by simpa using e1);have HV:=qqh (show dA 3 left right=b7 left true by simp [dA,e1]);clear e1;go_wp2_with fail;go_ret;rw [HV.out];exact⟨rfl,rS.out⟩
theorem LD (name:ByteArray) (left right:cG) (dir:Int) (A:Option Addr) (n c:Nat) (L1 L2 L3 R1 R2 R3:Option Addr) (a1 a2 a3 x1 x2 x3 b1 b2 b3 y1 y2 y3:Nat) (w:World) (h:dir<1∨3<dir) :
    Calls Tryz.prog 68 #[.agg #[.int .i64 2,.string name,.slice A n c,.int .i64 dir,.bool left.start,.bool left.fin,.slice L1 a1 x1,.slice L2 a2 x2,.slice L3 a3 x3,.int .i64 left.ai,.bool right.start,.bool right.fin,.slice R1 b1 y1,.slice R2 b2 y2,.slice R3 b3 y3,.int .i64 right.ai]] w fun e w'=>e=.returned (.int .i64 1)∧Below w.heap.size w w':=by
 have HB:=qqh ((Below.refl w.heap.size w).alloc qql (.cells #[.int .i64 2,.string name,.slice A n c,.int .i64 dir,.bool left.start,.bool left.fin,.slice L1 a1 x1,.slice L2 a2 x2,.slice L3 a3 x3,.int .i64 left.ai,.bool right.start,.bool right.fin,.slice R1 b1 y1,.slice R2 b2 y2,.slice R3 b3 y3,.int .i64 right.ai] 83));rcases h with h | h
 all_goals
   go_enter Tryz.func68,Tryz.ntmps68
   go_wp2_with fail
   go_ret
   exact⟨rfl,HB.out⟩
end Go.Proofs.YtamkjeipdjbemaaGreatDoor
