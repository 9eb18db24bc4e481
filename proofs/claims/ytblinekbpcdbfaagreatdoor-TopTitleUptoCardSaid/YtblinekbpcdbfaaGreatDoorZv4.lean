/- Mem + Append + FlatGet -/
import Derived.WalkKit
import Derived.WalkLawsBesides
import Derived.WalkSpells
import Derived.Deep.Draws
import Derived.Lib.Hide
import Derived.Maps.AppendAt
import Derived.Deep.AppendLies
import Derived.RegionTactic
import Derived.OwnWalk
namespace Go.Proofs.YtblinekbpcdbfaaGreatDoor
open Go.RowKit
theorem bH {a b:Bool} (h:a=b):Ending.returned (.bool a)=.returned (.bool b):=by rw [h]
theorem uT {k:IntKind} {a b:Int} (h:a=b):Ending.returned (.int k a)=.returned (.int k b):=by rw [h]
theorem gz (b off n:Nat):(⟨b,off,none⟩:Addr).add n=⟨b,off+n,none⟩:=by unfold Addr.add;split <;> simp_all
def Rd (w:World) (B sz:Nat) (A:Option Addr) (n:Nat) (xs:List Value):Prop :=
  xs.length=n*sz∧(0<n→∃ b off:Nat,A=some ⟨b,off,none⟩∧b<B∧∀ (j:Nat) (u:Value),xs[j]? = some u→w.cell? ⟨b,off+j,none⟩=some u)
section
variable {w w' : World} {B B' sz n : Nat} {A : Option Addr} {xs : List Value}
theorem Rd.nil:Rd w B sz A 0 []:=⟨by simp,fun h=>absurd h (by omega)⟩
theorem Rd.keep (h:Rd w B sz A n xs) (hk:∀ p:Addr,p.block<B→w'.cell? p=w.cell? p):Rd w' B sz A n xs :=
  ⟨h.1,fun hn=>let ⟨b,off,e,hb,hc⟩:=h.2 hn;⟨b,off,e,hb,fun j u hu=>(hk _ hb).trans (hc j u hu)⟩⟩
theorem Rd.below (h:Rd w B sz A n xs) (hb:Below B w w'):Rd w' B sz A n xs:=h.keep fun _ hp=>hb.cell hp
theorem Rd.more (h:Rd w B sz A n xs) (hB:B≤B'):Rd w B' sz A n xs :=
  ⟨h.1,fun hn=>let ⟨b,off,e,hb,hc⟩:=h.2 hn;⟨b,off,e,Nat.lt_of_lt_of_le hb hB,hc⟩⟩
theorem Rd.setCell (h:Rd w B sz A n xs) {p:Addr} (hB:B≤p.block) (u:Value):Rd (w.setCell p u) B sz A n xs :=
  h.keep fun q hq=>World.cell?_setCell_other w p q u (fun e=>by subst e;omega)
theorem Rd.at1 (h:Rd w B 1 A n xs) {k:Nat} (hk:k<n):∃ b off:Nat,∃ u:Value,A=some ⟨b,off,none⟩∧b<B∧xs[k]? = some u∧w.cell? ⟨b,off+k,none⟩=some u:=by
 obtain⟨b,off,e,hb,hc⟩:=h.2 (by omega);have hl:k<xs.length:=(by have:=h.1;omega);exact⟨b,off,xs[k],e,hb,List.getElem?_eq_getElem hl,hc k _ (List.getElem?_eq_getElem hl)⟩
theorem Rd.cC {base:Nat} {e:TypeId} {c:Nat} (h:w.ownsRow base e sz (.slice A n c) n xs):Rd w w.heap.size sz A n xs:=by
 refine⟨h.1,fun hn=>?_⟩;rcases h.2 with ⟨_,h0⟩ | ⟨g,cap,cur,hv,_,hg,_⟩;omega;have hA:A=some ⟨g,0,none⟩:=(by injection hv);subst hA;exact⟨g,0,rfl,(Array.getElem?_eq_some_iff.1 hg).1,fun j u hu=>(gz g 0 j) ▸ World.ownsRow.cells h (g:=g) rfl j u hu⟩
end
def aj (w:World) (g:Nat) (t:TypeId) (cs:Array Value):Prop:=w.heap[g]? = some (.cells cs t (0,0))
section
variable {w w' : World} {g : Nat} {t : TypeId} {cs : Array Value}
theorem aj.lt (h:aj w g t cs):g<w.heap.size:=by
 rcases Nat.lt_or_ge g w.heap.size with hlt | hge;exact hlt;unfold aj at h;rw [Array.getElem?_eq_none hge]at h;cases h
theorem aj.cell (h:aj w g t cs) (i:Nat):w.cell? ⟨g,i,none⟩=cs[i]?:=cell_of_row w g i cs t (0,0) h
theorem aj.frozen (h:aj w g t cs) (i:Nat):w.frozen? ⟨g,i,none⟩=false:=by
 unfold aj at h;simp [World.frozen?,h]
theorem aj.new (w:World) (t:TypeId) (cs:Array Value):aj (w.alloc (.cells cs t)) w.heap.size t cs:=heap_alloc_new w _
theorem aj.drewN (h:aj w g t cs) (n:Nat):aj (w.drewN n) g t cs:=h
theorem aj.alloc (h:aj w g t cs) (o:Obj):aj (w.alloc o) g t cs:=(Below.heap_alloc w o g h.lt).trans h
theorem aj.put (h:aj w g t cs) (i:Nat) (u:Value):aj (w.setCell ⟨g,i,none⟩ u) g t (cs.setIfInBounds i u):=by
 unfold aj at h ⊢;simp [World.setCell,Array.getElem?_modify,h]
theorem aj.below {B:Nat} (h:aj w g t cs) (hb:Below B w w') (hg:g<B):aj w' g t cs:=(hb.block g hg).trans h
end
theorem aJ {w:World} {base sz n:Nat} {e:TypeId} {v:Value} {xs:List Value} (h:w.ownsRow base e sz v n xs):∃ A c,v=.slice A n c∧n≤c:=by
 rcases h.2 with ⟨rfl,rfl⟩ | ⟨g,cap,cur,rfl,_,_,hn,_⟩;exact⟨none,0,rfl,Nat.le_refl _⟩;exact⟨_,_,rfl,hn⟩
theorem mz {w:World} {base sz n:Nat} {e:TypeId} {v:Value} {xs:List Value} (h:w.ownsRow base e sz v n xs) (hn:0<n) :
    ∃ g c,v=.slice (some ⟨g,0,none⟩) n c∧n≤c∧base≤g∧g<w.heap.size:=by
 rcases h.2 with ⟨rfl,rfl⟩ | ⟨g,cap,cur,rfl,hb,hg,hn,_⟩;omega;exact⟨_,_,rfl,hn,hb,(Array.getElem?_eq_some_iff.1 hg).1⟩
theorem mg {w:World} {base base' sz n:Nat} {e:TypeId} {v:Value} {xs:List Value} (h:w.ownsRow base e sz v n xs) (hb:base'≤base):w.ownsRow base' e sz v n xs:=by
 refine⟨h.1,?_⟩;rcases h.2 with h2 | ⟨g,cap,cur,hv,hg,r⟩;exact .inl h2;exact .inr ⟨g,cap,cur,hv,by omega,r⟩
theorem dF {w w':World} {base sz n:Nat} {e:TypeId} {v:Value} {xs:List Value} (h:w.ownsRow base e sz v n xs) (hb:Below w.heap.size w w'):w'.ownsRow base e sz v n xs:=by
 refine⟨h.1,?_⟩;rcases h.2 with h2 | ⟨g,cap,cur,hv,hg,hh,r⟩;exact .inl h2;exact .inr ⟨g,cap,cur,hv,hg,(hb.block g (Array.getElem?_eq_some_iff.1 hh).1).trans hh,r⟩
def runeCells (l:List Int):List Value:=l.map (Value.int .i32)
theorem runeCells_length (l:List Int):(runeCells l).length=l.length:=by simp [runeCells]
theorem dU (l:List Int) (k:Nat):(runeCells l)[k]? =(l[k]?).map (Value.int .i32):=by simp [runeCells]
def nK (w:World) (B:Nat) (A:Option Addr) (n:Nat) (l:List Int):Prop:=Rd w B 1 A n (runeCells l)
theorem nK.len {w:World} {B n:Nat} {A:Option Addr} {l:List Int} (h:nK w B A n l):l.length=n:=by
 have:=h.1;rw [runeCells_length]at this;omega
theorem nK.at {w:World} {B n:Nat} {A:Option Addr} {l:List Int} (h:nK w B A n l) {k:Nat} (hk:k<n) :
    ∃ b off:Nat,A=some ⟨b,off,none⟩∧b<B∧w.cell? ⟨b,off+k,none⟩=some (.int .i32 (l.getD k 0)):=by
 obtain⟨b,off,u,e,hb,hx,hc⟩:=Rd.at1 h hk;refine⟨b,off,e,hb,hc.trans ?_⟩;rw [← hx,dU];have:=h.len;simp [List.getD,List.getElem?_eq_getElem (show k<l.length by omega)]
def aP (base:Nat) (e:TypeId) (sz:Nat) (v:Value) (w:World) (n:Nat) (xs:List Value) (v':Value) (w':World):Prop :=
  w'.ownsRow base e sz v' n xs∧w.grownBy w' v.ownBlock∧(v'.ownBlock=v.ownBlock∨v'.ownBlock=some w.heap.size)
section
variable {P : Program} (w : World)
theorem qg (base:Nat) (t ty e:TypeId) (i:TypeInfo) (sz:Nat) (ht:P.underlying t=some (.slice e)) (hi:P.info? e=some i)
    (v:Value) (n:Nat) (xs:List Value) (hown:w.ownsRow base e sz v n xs) (c:Nat):(Builtin.append_ #[t,t] ty #[v,.slice none 0 c]).run P w=.ok v w:=by
 rcases hown.2 with ⟨rfl,rfl⟩ | ⟨g,cap,cur,rfl,_,_,hnc,_⟩
 ·simp [Builtin.append_,run_underlying ht,sizeOf,typeInfo,hi,Builtin.lenOf,Builtin.firstCells]
 simp [Builtin.append_,run_underlying ht,sizeOf,typeInfo,hi,Builtin.lenOf,Builtin.firstCells,hnc,storeCells]
theorem yM (base:Nat) (t ty e:TypeId) (i:TypeInfo) (z:Value) (sz bytes:Nat) (ht:P.underlying t=some (.slice e)) (hi:P.info? e=some i) (hz:i.zero=some z)
    (hsize:i.size=sz) (hby:i.bytes=bytes) (hzs:z.cells.size=sz) (hsz:0<sz)
    (v:Value) (n:Nat) (xs:List Value) (hown:w.ownsRow base e sz v n xs)
    (B:Nat) (A:Option Addr) (m c:Nat) (news:List Value) (hr:Rd w B sz A m news) (h1:∀ u∈news,u.oneCell'=true)
    (h63:n+m≤maxLen) (hbytes:(n+m)*bytes≤140737488355328) (hbase:base≤w.heap.size) :
    ∃ v' w',(Builtin.append_ #[t,t] ty #[v,.slice A m c]).run P w=.ok v' w'∧aP base e sz v w (n+m) (xs++news) v' w':=by
 rcases A with _ | ad
 ·have hm:m=0:=by
   rcases Nat.eq_zero_or_pos m with h0 | h0;exact h0;obtain⟨b,o,h,_⟩:=hr.2 h0;cases h
  subst hm;have hn:news = []:=List.eq_nil_of_length_eq_zero (by simpa using hr.1);subst hn;exact⟨v,w,qg w base t ty e i sz ht hi v n xs hown c,by simpa using hown,World.grownBy.refl w _,.inl rfl⟩
 have hcells:∀ j u,news[j]? = some u→w.cell? (ad.add j)=some u:=by
  intro j u hu;rcases Nat.eq_zero_or_pos m with h0 | h0
  ·subst h0;have hn:news = []:=List.eq_nil_of_length_eq_zero (by simpa using hr.1);subst hn;simp at hu
  obtain⟨b,o,h,_,hc⟩:=hr.2 h0;injection h with h;subst h;rw [gz];exact hc j u hu
 obtain⟨v',w',hrun,h2,h3,_,h5⟩:=run_append_own_at (P:=P) w base t ty e i z sz bytes ht hi hz hsize hby hzs hsz v n xs hown ad m c news hr.1 hcells h1 h63 hbytes hbase;exact⟨v',w',hrun,h2,h3,h5⟩
theorem rC {o:Oper} {a:Act} {K:Act→World→Prop} {Q:Exit→Act→World→Prop} (s x:Operand) (t:TypeId)
    (ho:o.op=.call { callee:=.builtin .append,args:=#[s,x],argTypes:=#[t,t] })
    (base:Nat) (e:TypeId) (i:TypeInfo) (z:Value) (sz bytes:Nat) (ht:P.underlying t=some (.slice e)) (hi:P.info? e=some i) (hz:i.zero=some z)
    (hsize:i.size=sz) (hby:i.bytes=bytes) (hzs:z.cells.size=sz) (hsz:0<sz)
    (v:Value) (n:Nat) (xs:List Value) (hs:a.eval s=v) (hown:w.ownsRow base e sz v n xs)
    (B:Nat) (A:Option Addr) (m c:Nat) (news:List Value) (hx:a.eval x=.slice A m c) (hr:Rd w B sz A m news) (h1:∀ u∈news,u.oneCell'=true)
    (h63:n+m≤maxLen) (hbytes:(n+m)*bytes≤140737488355328) (hbase:base≤w.heap.size)
    (h:∀ v' w',aP base e sz v w (n+m) (xs++news) v' w'→K (a.put o.dst v') w'):o.wp P a w K Q:=by
 obtain⟨v',w',hrun,h2⟩:=yM (P:=P) w base t o.type e i z sz bytes ht hi hz hsize hby hzs hsz v n xs hown B A m c news hr h1 h63 hbytes hbase;unfold Oper.wp execOp;simp only [ho,resolve,invoke,builtin,Sem.run_bind,Sem.run_pure,Result.andThen_ok,List.map_toArray,List.map_cons,List.map_nil,hs,hx,hrun];exact h v' w' h2
theorem ai {ops:Array Oper} {rest:List Oper} {o:Oper} {a:Act} {Q:Exit→Act→World→Prop} (hgd:o.guard=none) (s x:Operand) (t:TypeId)
    (ho:o.op=.call { callee:=.builtin .append,args:=#[s,x],argTypes:=#[t,t] })
    (base:Nat) (e:TypeId) (i:TypeInfo) (z:Value) (sz bytes:Nat) (ht:P.underlying t=some (.slice e)) (hi:P.info? e=some i) (hz:i.zero=some z)
    (hsize:i.size=sz) (hby:i.bytes=bytes) (hzs:z.cells.size=sz) (hsz:0<sz)
    (v:Value) (n:Nat) (xs:List Value) (hs:a.eval s=v) (hown:w.ownsRow base e sz v n xs)
    (B:Nat) (A:Option Addr) (m c:Nat) (news:List Value) (hx:a.eval x=.slice A m c) (hr:Rd w B sz A m news) (h1:∀ u∈news,u.oneCell'=true)
    (h63:n+m≤maxLen) (hbytes:(n+m)*bytes≤140737488355328) (hbase:base≤w.heap.size)
    (h:∀ v' w',aP base e sz v w (n+m) (xs++news) v' w'→wpList P ops Q rest (a.put o.dst v') w'):wpList P ops Q (o::rest) a w :=
  wpList_plain hgd fun _ hK=>rC w s x t ho base e i z sz bytes ht hi hz hsize hby hzs hsz v n xs hs hown B A m c news hx hr h1 h63 hbytes hbase fun v' w' h2=>hK _ _ (h v' w' h2)
theorem bD {ops:Array Oper} {o:Oper} {a:Act} {K:Act→World→Prop} {Q:Exit→Act→World→Prop} {E:Prop} (hgd:o.guard=none) (s x:Operand) (t:TypeId)
    (ho:o.op=.call { callee:=.builtin .append,args:=#[s,x],argTypes:=#[t,t] })
    (base:Nat) (e:TypeId) (i:TypeInfo) (z:Value) (sz bytes:Nat) (ht:P.underlying t=some (.slice e)) (hi:P.info? e=some i) (hz:i.zero=some z)
    (hsize:i.size=sz) (hby:i.bytes=bytes) (hzs:z.cells.size=sz) (hsz:0<sz)
    (v:Value) (n:Nat) (xs:List Value) (hs:a.eval s=v) (hown:w.ownsRow base e sz v n xs)
    (B:Nat) (A:Option Addr) (m c:Nat) (news:List Value) (hx:a.eval x=.slice A m c) (hr:Rd w B sz A m news) (h1:∀ u∈news,u.oneCell'=true)
    (h63:n+m≤maxLen) (hbytes:(n+m)*bytes≤140737488355328) (hbase:base≤w.heap.size)
    (h:∀ v' w',aP base e sz v w (n+m) (xs++news) v' w'→K (a.put o.dst v') w') :
    if Region.wanted o (yielded ops a.tmps)=true then Oper.wp P o a w K Q else E:=by
 have hw:Region.wanted o (yielded ops a.tmps)=true:=(by simp [Region.wanted,hgd]);rw [if_pos hw];exact rC w s x t ho base e i z sz bytes ht hi hz hsize hby hzs hsz v n xs hs hown B A m c news hx hr h1 h63 hbytes hbase h
end
section
variable {w w' : World} {base e sz n : Nat} {v v' : Value} {xs : List Value}
theorem aP.own (h:aP base e sz v w n xs v' w'):w'.ownsRow base e sz v' n xs:=h.1
theorem aP.below (h:aP base e sz v w n xs v' w') {B:Nat} (hB:B≤w.heap.size) {m:Nat} {ys:List Value} (ho:w.ownsRow B e sz v m ys):Below B w w' :=
  (Below.refl _ _).grown h.2.1 hB (fun k hk=>(World.ownsRow.lt ho k hk).1)
theorem aP.Kh (h:aP base e sz (.slice none 0 0) w n xs v' w'):Below w.heap.size w w' :=
  (Below.refl _ _).grown h.2.1 (Nat.le_refl _) (fun k hk=>by simp [Value.ownBlock]at hk)
end
theorem sU (w:World) (e:TypeId) (sz g base:Nat) (hg:g=w.heap.size) (hb:base≤g):(w.alloc (.cells #[] e)).ownsRow base e sz (.slice (some ⟨g,0,none⟩) 0 0) 0 []:=by
 subst hg;exact World.ownsRow_made w #[] 0 hb (Nat.zero_le _) (by simp)
theorem Rd.new (w:World) (t:TypeId) (sz n:Nat) (cs:List Value) (hl:cs.length=n*sz):Rd (w.alloc (.cells cs.toArray t)) (w.heap.size+1) sz (some ⟨w.heap.size,0,none⟩) n cs:=by
 refine⟨hl,fun _=>⟨_,_,rfl,Nat.lt_succ_self _,fun j u hu=>?_⟩⟩;rw [(aj.new w t cs.toArray).cell,Nat.zero_add];simpa using hu
theorem dV {css:List (List Value)} {sz:Nat} (h:∀ cs∈css,cs.length=sz):∀ (k:Nat) (cs:List Value),css[k]? = some cs→∀ j u,cs[j]? = some u→css.flatten[k*sz+j]? = some u:=by
 induction css with
 | nil=>intro k cs hk;simp at hk
 | cons c css ih=>
  intro k cs hk j u hu;have hc:c.length=sz:=h c (by simp);cases k with
  | zero=>
   simp at hk;subst hk;rw [List.flatten_cons,Nat.zero_mul,Nat.zero_add,List.getElem?_append_left (List.getElem?_eq_some_iff.1 hu).1];exact hu
  | succ k=>
   rw [List.flatten_cons,List.getElem?_append_right (by rw [hc,Nat.succ_mul];omega),hc,show(k+1)*sz+j - sz=k*sz+j by rw [Nat.succ_mul];omega];exact ih (fun x hx=>h x (by simp [hx])) k cs (by simpa using hk) j u hu
end Go.Proofs.YtblinekbpcdbfaaGreatDoor
