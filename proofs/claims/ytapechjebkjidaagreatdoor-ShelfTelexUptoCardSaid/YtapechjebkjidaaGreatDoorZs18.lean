/- Has + Begin + TextI + Heads + HeadsMem -/
import Derived.Test.YtapechjebkjidaaGreatDoorZs16
import Derived.Test.YtapechjebkjidaaGreatDoorZs8
import Derived.Test.YtapechjebkjidaaGreatDoorZs2
import Derived.Shelf.Abstract
import Derived.Deep.DeepCutAuto
import Derived.Deep.CutBlock
import Derived.Test.YtapechjebkjidaaGreatDoorZs11
set_option maxHeartbeats 1600000
set_option maxRecDepth 100000
namespace Go.Proofs.YtapechjebkjidaaGreatDoor
open Go.RowKit
theorem uO (g:Nat) (cb:Array Value) (n:Nat) (p:Nat→Bool) (w:World) (eg:∀ args w,(callFunc g args).run Tryz.prog w=.ok (.enter g args) w) (hsz:n<4611686018427387904)
    (hf:∀ (w':World) (i:Nat),Below w.heap.size w w'→i<n→Calls Tryz.prog g (#[.int .i64 i]++cb) w' fun e w2=>e=.returned (.bool (p i))∧Below w'.heap.size w' w2)
    (hmono:∀ a b,a≤b→b<n→p a=true→p b=true) :
    Calls Tryz.prog 68 #[.int .i64 n,.func (.func g) #[] cb] w fun e w'=>∃ k:Nat,e=.returned (.int .i64 k)∧k≤n∧(∀ t,t<k→p t=false)∧(∀ t,k≤t→t<n→p t=true)∧Below w.heap.size w w':=by
 have HF:=Lib.hid hf;have M:=Lib.hid hmono;clear hf hmono;go_enter Tryz.func68,Tryz.ntmps68;go_wp2_with fail;go_loopw [5,6] (fun s5 s6 wr=>∃ lo hi:Nat,s5=.int .i64 lo∧s6=.int .i64 hi∧lo≤hi∧hi≤n∧Below w.heap.size w wr∧(∀ t,t<lo→p t=false)∧(∀ t,hi≤t→t<n→p t=true)) (fun s5 s6 _=>(intOf s6).toNat - (intOf s5).toNat);(case atStart=>exact⟨0,n,rfl,rfl,Nat.zero_le _,Nat.le_refl _,Below.refl _ _,fun t ht=>absurd ht (Nat.not_lt_zero _),fun t h1 h2=>by omega⟩);obtain⟨lo,hi,rfl,rfl,hlh,hin,hb,h1,h2⟩:=hrel;have HL:=Lib.hid h1;have HH:=Lib.hid h2;clear h1 h2;by_cases hlt:lo<hi
 ·have hc:=HF.out wr ((lo+hi) / 2) hb (by omega);rw [show(((lo+hi) / 2:Nat):Int)=((lo:Int)+(hi:Int)) / 2 by omega]at hc;cases hp:p ((lo+hi) / 2) <;> rw [hp]at hc
  ·have HP:=Lib.hid hp;have HC:=Lib.hid hc;clear hp hc;go_wp2_with (go_at_fn g;refine HC.out.mono ?_;rintro e w' ⟨rfl,hb'⟩);refine⟨⟨(lo+hi) / 2+1,hi,by rw [show((lo:Int)+(hi:Int)) / 2+1=(((lo+hi) / 2+1:Nat):Int) by omega],rfl,by omega,hin,hb.trans (hb'.mono hb.size),fun t ht=>?_,HH.out⟩,by simp [intOf];omega⟩;cases h:p t with
   | false=>rfl
   | true=>
    have:=M.out t ((lo+hi) / 2) (by omega) (by omega) h;rw [HP.out]at this;cases this
  have HP:=Lib.hid hp;have HC:=Lib.hid hc;clear hp hc;go_wp2_with (go_at_fn g;refine HC.out.mono ?_;rintro e w' ⟨rfl,hb'⟩);exact⟨⟨lo,(lo+hi) / 2,rfl,by rw [show((lo:Int)+(hi:Int)) / 2=(((lo+hi) / 2:Nat):Int) by omega],by omega,by omega,hb.trans (hb'.mono hb.size),HL.out,fun t ht htn=>M.out _ t ht htn HP.out⟩,by simp [intOf];omega⟩
 obtain rfl:hi=lo:=(by omega);go_wp2_with fail;go_ret;exact⟨_,rfl,hin,HL.out,HH.out,hb⟩
theorem Ed (ga gr blk off n c i:Nat) (r y:Int) (w:World) (hi:i<n) (ha:w.cell? ⟨ga,0,none⟩=some (.slice (some ⟨blk,off,none⟩) n c)) (hr:w.cell? ⟨gr,0,none⟩=some (.int .i32 r)) (hc:w.cell? ⟨blk,off+i*2+1,none⟩=some (.int .i32 y)) :
    Calls Tryz.prog 69 (#[.int .i64 i] ++ #[.pointer (some ⟨ga,0,none⟩),.pointer (some ⟨gr,0,none⟩)]) w fun e w'=>e=.returned (.bool (decide (r≤y)))∧Below w.heap.size w w':=by
 have hiz:(i:Int)<(n:Int):=(by omega);go_enter Tryz.func69,Tryz.ntmps69;go_wp2_with fail;go_quiet (fail);go_wp2_with fail;go_ret;exact⟨rfl,below_drewN (Below.refl _ _) _⟩
theorem Hr:∀ args w,(callFunc 69 args).run Tryz.prog w=.ok (.enter 69 args) w:=enters_of Tryz.func69 (by kernel_rfl) rfl
theorem wV (A:Option Addr) (n c:Nat) (s:af) (r:Int) (w:World) (hs:aJ s) (hl:mX w w.heap.size A n s) :
    Calls Tryz.prog 45 #[.slice A n c,.int .i32 r] w fun e w'=>e=.returned (.bool (bk s r))∧Below w.heap.size w w':=by
 have aY:=Lib.hid hl.len;have hn2:n≤200:=(by rw [← hl.len];exact hs.size);have HL:=Lib.hid hl;have HS:=Lib.hid hs;have ek:=Lib.hid (((Below.refl w.heap.size w).alloc (Nat.le_refl _) (.cells #[.slice A n c] 44)).alloc (by simp) (.cells #[.int .i32 r] 21));have HA:=Lib.hid (ak.alloc (ak.new w 44 #[.slice A n c]) (.cells #[.int .i32 r] 21));have HR:=Lib.hid (show ak ((w.alloc (.cells #[.slice A n c] 44)).alloc (.cells #[.int .i32 r] 21)) (w.heap.size+1) 21 #[.int .i32 r] by
  have:=ak.new (w.alloc (.cells #[.slice A n c] 44)) 21 #[.int .i32 r];simpa using this)
 have O1:=Lib.hid (uO 69 #[.pointer (some ⟨w.heap.size,0,none⟩),.pointer (some ⟨w.heap.size+1,0,none⟩)] n (fun i=>decide (r≤(s[i]?.getD (0,0)).2))
   ((w.alloc (.cells #[.slice A n c] 44)).alloc (.cells #[.int .i32 r] 21)) Hr (by omega)
   (fun w' i hb hi=>by
     obtain⟨z,hz⟩:∃ z,s[i]? = some z:=⟨_,List.getElem?_eq_getElem (by rw [aY.out];exact hi)⟩
     obtain⟨b,off,rfl,dL,_,c1⟩:=HL.out.at (x:=z.1) (y:=z.2) hz
     rw [hz]
     exact Ed w.heap.size (w.heap.size+1) b off n c i r z.2 w' hi ((ak.below HA.out hb HA.out.lt).cell 0) ((ak.below HR.out hb HR.out.lt).cell 0)
       (((ek.out.trans (hb.mono ek.out.size)).cell (p:=⟨b,off+i*2+1,none⟩) dL).trans c1))
   (fun a b hab hb h=>by
     obtain⟨x,hx⟩:∃ z,s[a]? = some z:=⟨_,List.getElem?_eq_getElem (by rw [aY.out];omega)⟩
     obtain⟨y,hy⟩:∃ z,s[b]? = some z:=⟨_,List.getElem?_eq_getElem (by rw [aY.out];omega)⟩
     simp only [hx,hy,Option.getD_some,decide_eq_true_eq]at h ⊢
     rcases Nat.lt_or_ge a b with hlt | hge
     · have:=HS.out.lt hx hy hlt
       have:=HS.out.each y (List.mem_of_getElem? hy)
       omega
     · obtain rfl:a=b:=by omega
       rw [hx]at hy
       cases hy
       exact h))
 clear hl hs;go_enter Tryz.func45,Tryz.ntmps45;go_wp2_with fail;refine O1.out.mono ?_;rintro e w1 ⟨k,rfl,hk,h1,h2,hb⟩;have HH:=Lib.hid (QD HS.out r (k:=k) (fun t x ht hx=>by
  have:=h1 t ht;rw [hx]at this;simpa using this) (fun t x ht hx=>by
  have:=h2 t ht (by rw [← aY.out];exact(List.getElem?_eq_some_iff.1 hx).1);rw [hx]at this;simpa using this))
 have a0:w1.cell? ⟨w.heap.size,0,none⟩=some (.slice A n c):=(ak.below HA.out hb HA.out.lt).cell 0;have r0:w1.cell? ⟨w.heap.size+1,0,none⟩=some (.int .i32 r):=(ak.below HR.out hb HR.out.lt).cell 0;have HB:=Lib.hid (ek.out.trans (hb.mono ek.out.size));clear h1 h2 hb;by_cases hlt:k<n
 ·obtain⟨⟨x,y⟩,hx⟩:∃ z,s[k]? = some z:=⟨_,List.getElem?_eq_getElem (by rw [aY.out];exact hlt)⟩;obtain⟨b,off,rfl,dL,c0,_⟩:=HL.out.at hx;have d0:=(HB.out.cell (p:=⟨b,off+k*2,none⟩) dL).trans c0;have HE:=Lib.hid (show bk s r=decide (x≤r) by rw [HH.out,hx]);have hlt2:decide ((k:Int)<(n:Int))=true:=decide_eq_true (by omega);clear hx c0;go_wp2_with fail;go_quiet (fail);go_wp2_with fail;go_ret;rw [HE.out];exact⟨rfl,below_drewN HB.out _⟩
 have HE:=Lib.hid (show bk s r=false by rw [HH.out,List.getElem?_eq_none (by rw [aY.out];omega)]);have hlt2:decide ((k:Int)<(n:Int))=false:=decide_eq_false (by omega);go_wp2_with fail;go_quiet (fail);go_wp2_with fail;go_ret;rw [HE.out];exact⟨rfl,below_drewN HB.out _⟩
def bO (r:au):af:=r.source.headD []
def vF (l:List au) (r:Int) (i:Nat):Bool:=match l[i]? with | some x=>bk (bO x) r | none=>false
def dz (l:List au) (r:Int) (k:Nat):List Int:=((List.range k).filter (vF l r)).map (fun i:Nat=>(i:Int))
def cJ (l:List au) (r:Int):List Int:=dz l r l.length
theorem zn {l:List au} {r:Int} {k:Nat} (h:vF l r k=true):dz l r (k+1)=dz l r k++[(k:Int)]:=by
 simp [dz,List.range_succ,List.filter_append,h]
theorem BX {l:List au} {r:Int} {k:Nat} (h:vF l r k=false):dz l r (k+1)=dz l r k:=by
 simp [dz,List.range_succ,List.filter_append,h]
theorem zm (l:List au) (r:Int) (k:Nat):(dz l r k).length≤k:=by
 unfold dz;rw [List.length_map];have:=List.length_filter_le (vF l r) (List.range k);simpa using this
structure xK (l:List au):Prop where
  size:l.length≤200
  src:∀ x∈l,x.source ≠ []
  set:∀ x∈l,aJ (bO x)
theorem ke {l:List Int} (h:cF l=0):∀ x∈l,x=0:=by
 induction l with
 | nil=>simp
 | cons y l ih=>
  intro x hx;by_cases hy:y=0
  ·rw [mj _ hy]at h;rcases List.mem_cons.1 hx with rfl | hx;exact hy;exact ih h x hx
  rw [kA _ hy]at h;exact absurd h hy
theorem wW {r:au} (h:kZ r=0):r.source ≠ []∧aJ (bO r):=by
 unfold kZ at h;by_cases h0:cF ((eI r).map jC)=0
 ·rw [if_neg (by rw [h0];decide)]at h;have hne:r.source ≠ []:=by
   intro e;rw [qf,e,if_pos (show([]:List af).length=0 from rfl)]at h;cases h
  refine⟨hne,?_⟩;have hs:=ke h0 (jC r.source) (by simp [eI]);unfold jC at hs;by_cases h20:20<r.source.length
  ·rw [if_pos h20]at hs;cases hs
  rw [if_neg h20]at hs;apply oZ;refine ke hs _ (List.mem_map.2 ⟨bO r,?_,rfl⟩);unfold bO;cases hr:r.source with
  | nil=>exact absurd hr hne
  | cons a t=>simp
 rw [if_pos h0]at h;exact absurd h h0
theorem sM:∀ (l:List au) (i:Nat),(j8 i l).1=0→∀ x∈l,kZ x=0:=by
 intro l;induction l with
 | nil=>intro i _ x hx;cases hx
 | cons y l ih=>
  intro i h x hx;rw [j8]at h;by_cases hy:kZ y=0
  ·rw [if_neg (by rw [hy];decide)]at h;rcases List.mem_cons.1 hx with rfl | hx;exact hy;exact ih _ h x hx
  rw [if_pos hy]at h;exact absurd h hy
theorem oy {l:List au} (h:(dY l).1=0):xK l:=by
 unfold dY at h;by_cases h2:200<l.length
 ·rw [if_pos h2]at h;cases h
 rw [if_neg h2]at h;have:=sM l 0 h;exact⟨by omega,fun x hx=>(wW (this x hx)).1,fun x hx=>(wW (this x hx)).2⟩
theorem EO {w:World} {X:Nat→Prop} {u:Value} {l:List af} (h:gj w X l u) (hne:l ≠ []) :
    ∃ (b off n c:Nat) (A':Option Addr) (n' c':Nat),u=.slice (some ⟨b,off,none⟩) n c∧0<n∧n≤maxLen∧X b∧b<w.heap.size∧w.cell? ⟨b,off,none⟩=some (.slice A' n' c')∧mX w w.heap.size A' n' (l.headD [])∧di w X 2 A' n' (aj (l.headD []))∧n'≤maxLen:=by
 obtain⟨A,n,c,rfl,h1,h2⟩:=h;cases l with
 | nil=>exact absurd rfl hne
 | cons s t=>
  obtain⟨b,off,A',n',c',rfl,hx,hb,hc,h3,h4,h5⟩:=wu h1 (k:=0) rfl;exact⟨b,off,n,c,A',n',c',rfl,by have:=h1.len;simp at this;omega,h2,hx,hb,hc,h3,h4,h5⟩
def ir (lo:Nat) (w:World) (b:Nat):Prop:=lo≤b∧∃ cs fz,w.heap[b]? = some (.cells cs 3 fz)
theorem Ou {w:World} {lo base n:Nat} {v:Value} {xs:List Value} (h:w.ownsRow base 3 1 v n xs) (hlo:lo≤base):∀ b,v.ownBlock=some b→ir lo w b:=by
 intro b hb;rcases h.2 with ⟨rfl,_⟩ | ⟨g,cap,cur,rfl,hg,hh,_⟩
 ·simp [Value.ownBlock]at hb
 simp only [Value.ownBlock,Option.some.injEq]at hb;subst hb;exact⟨Nat.le_trans hlo hg,cur,_,hh⟩
theorem Pn:(Tryz.prog.info? 3).map (fun i=>(i.zero,i.size,i.bytes))=some (some (.int .i64 0),1,8):=by kernel_rfl
def bJ:List af→List Int→Bool
  | [],_=>true
  | _::_,[]=>false
  | s::l,x::t=>bk s x && bJ l t
def jl (t:List Int) (p:Int) (l:List af):Bool:=if p<0∨(t.length:Int) - (l.length:Int)<p then false else bJ l (t.drop p.toNat)
structure Mg (tI:TypeId) (xI recv:Value) (fL fR:FuncId) (T:List Int) (R:World→Prop):Prop where
  enterL:∀ args w,(callFunc fL args).run Tryz.prog w=.ok (.enter fL args) w
  enterR:∀ args w,(callFunc fR args).run Tryz.prog w=.ok (.enter fR args) w
  ml:∀ w,R w→(method 390 tI xI "Len").run Tryz.prog w=.ok (fL,recv) w
  mr:∀ w,R w→(method 390 tI xI "Rune").run Tryz.prog w=.ok (fR,recv) w
  len:∀ w,R w→Calls Tryz.prog fL #[recv] w fun e w'=>e=.returned (.int .i64 T.length)∧∃ k,w'=w.drewN k
  rune:∀ w (k:Nat) x,R w→T[k]? = some x→Calls Tryz.prog fR #[recv,.int .i64 k] w fun e w'=>e=.returned (.int .i32 x)∧∃ k,w'=w.drewN k
  keep:∀ w w',R w→Below w.heap.size w w'→R w'
theorem Nn {t:List Int} {p:Int} {l:List af} (h:p<0):jl t p l=false:=by unfold jl;rw [if_pos (.inl h)]
theorem MY {t:List Int} {p:Int} {l:List af} (h:(t.length:Int) - (l.length:Int)<p):jl t p l=false:=by unfold jl;rw [if_pos (.inr h)]
theorem QH {t:List Int} {q:Nat} {l:List af} (h:q+l.length≤t.length):jl t q l=bJ l (t.drop q):=by
 unfold jl;rw [if_neg (by omega)];rfl
theorem Dz {l:List af} {t:List Int} {j q:Nat} {s:af} {x:Int} (hs:l[j]? = some s) (hx:t[q+j]? = some x):bJ (l.drop j) (t.drop (q+j))=(bk s x && bJ (l.drop (j+1)) (t.drop (q+(j+1)))):=by
 rw [dN hs,dN hx];rfl
def WQ (w:World) (R:World→Prop) (T:List Int) (l:List af) (q n:Nat) (i:Value) (wr:World):Prop :=
  ∃ j:Nat,j≤n∧i=.int .i64 j∧bJ l (T.drop q)=bJ (l.drop j) (T.drop (q+j))∧R wr∧Below w.heap.size w wr
theorem tT {tI:TypeId} {xI recv:Value} {fL fR:FuncId} {T:List Int} {R:World→Prop} (I:Mg tI xI recv fL fR T R) (p:Int) (X:Nat→Prop) (l:List af) (A:Option Addr) (n c:Nat) (w:World)
    (hT:T.length≤1000000) (hp : -1000000≤p∧p≤1000000) (hn:n≤20) (hS:∀ s∈l,aJ s) (hl:cm (mV w X) w X 1 A n l) (hR:R w) :
    Calls Tryz.prog 190 #[.iface tI xI,.int .i64 p,.slice A n c] w fun e w'=>e=.returned (.bool (jl T p l))∧Below w.heap.size w w':=by
 have aY:=Lib.hid (show l.length=n from hl.len);have HL:=Lib.hid hl;have HS:=Lib.hid hS;have HI:=Lib.hid I;have HR:=Lib.hid hR;have eL:=I.enterL;have eR:=I.enterR;have mL:=I.ml w hR;have PG:=Lib.hid (I.len w hR);clear hl hS I hR;by_cases h0:p<0
 ·have hd:decide (p<0)=true:=decide_eq_true h0;have HP:=Lib.hid (Nn (t:=T) (l:=l) h0);go_enter Tryz.func190,Tryz.ntmps190;go_wp2_with fail;go_ret;exact⟨bI HP.out.symm,Below.refl _ _⟩
 obtain⟨q,rfl⟩:∃ q:Nat,p=(q:Int):=⟨p.toNat,by omega⟩;have hd:decide ((q:Int)<0)=false:=decide_eq_false h0;by_cases ag8:T.length<q+n
 ·have mY:decide ((T.length:Int) - (n:Int)<(q:Int))=true:=decide_eq_true (by omega);have HP:=Lib.hid (MY (t:=T) (p:=(q:Int)) (l:=l) (by rw [aY.out];omega));go_enter Tryz.func190,Tryz.ntmps190;go_wp2_with fail;refine PG.out.mono ?_;rintro e w1 ⟨rfl,k1,rfl⟩;go_wp2_with fail;go_ret;exact⟨bI HP.out.symm,below_drewN (Below.refl _ _) k1⟩
 have mY:decide ((T.length:Int) - (n:Int)<(q:Int))=false:=decide_eq_false (by omega);have HP:=Lib.hid (QH (t:=T) (q:=q) (l:=l) (by rw [aY.out];omega));go_enter Tryz.func190,Tryz.ntmps190;go_wp2_with fail;refine PG.out.mono ?_;rintro e w1 ⟨rfl,k1,rfl⟩;go_wp2_with fail;clear mL;go_loopw [22] (WQ w R T l q n) (fun i _=>n - (intOf i).toNat);(case atStart=>exact⟨0,Nat.zero_le _,rfl,rfl,HI.out.keep _ _ HR.out (below_drewN (Below.refl _ _) k1),below_drewN (Below.refl _ _) k1⟩);obtain⟨j,hj,rfl,bf,VS,hb⟩:=hrel;by_cases hlt:j<n
 ·obtain⟨s,hs⟩:∃ z,l[j]? = some z:=⟨_,List.getElem?_eq_getElem (by rw [aY.out];exact hlt)⟩;obtain⟨x,hx⟩:∃ z,T[q+j]? = some z:=⟨_,List.getElem?_eq_getElem (by omega)⟩;obtain⟨b,off,A',n',c',rfl,_,dL,rz,hrd,_,_⟩:=wu (HL.out.keep (ag.any hb) (fun _ _=>mV.keep (ag.any hb))) hs;rw [Dz hs hx]at bf;have fh:=Lib.hid bf;have HB:=Lib.hid hb;have vT:=Lib.hid (HS.out s (List.mem_of_getElem? hs));have mR:=HI.out.mr wr VS;have mq:=Lib.hid (HI.out.rune wr (q+j) x VS hx);have Be:=Lib.hid VS;have qn:=Lib.hid hrd;clear hs hx bf hb hrd VS;go_wp2_with fail;refine mq.out.mono ?_;rintro e w2 ⟨rfl,k2,rfl⟩;have aW:=Lib.hid (below_drewN HB.out k2);have Yi:=Lib.hid (wV A' n' c' s x (wr.drewN k2) vT.out qn.out);clear mq qn;go_wp2_with fail;refine Yi.out.mono ?_;rintro e w3 ⟨rfl,bQ⟩;have bW:=Lib.hid (aW.out.trans (bQ.mono aW.out.size));have uc:=Lib.hid (HI.out.keep _ _ Be.out ((below_drewN (Below.refl wr.heap.size wr) k2).trans bQ));clear bQ Yi;cases hh:bk s x
  ·have xg:=Lib.hid (HP.out.trans (fh.out.trans (by rw [hh,Bool.false_and])));clear hh;go_wp2_with fail;go_ret;exact⟨bI xg.out.symm,bW.out⟩
  have xg:=Lib.hid (fh.out.trans (by rw [hh,Bool.true_and]));clear hh;go_wp2_with fail;exact⟨⟨j+1,by omega,by go_num,xg.out,uc.out,bW.out⟩,by simp [intOf];omega⟩
 obtain rfl:j=n:=(by omega);rw [show l.drop j = [] from List.drop_of_length_le (by rw [aY.out];exact Nat.le_refl _)]at bf;have fh:=Lib.hid (HP.out.trans (bf.trans (show bJ [] (T.drop (q+j))=true from rfl)));have HB:=Lib.hid hb;clear bf hb VS;go_wp2_with fail;go_ret;exact⟨bI fh.out.symm,HB.out⟩
def dS (l:List au):List Int:=l.flatMap fun r=>eT (bO r)
def bg (l:List au):List Int:=(dS l).foldl pP [0]
theorem fq (l:List au) (x:Int):x∈bg l↔x=0∨(x∈dS l∧x≤1114111):=by
 unfold bg;rw [uE];simp
theorem kJ (l:List au):(bg l).Pairwise (· < ·):=rG _ _ (by simp)
theorem H9 {l:List au} (h:∀ x∈l,aJ (bO x)):(dS l).length≤400*l.length:=by
 induction l with
 | nil=>simp [dS]
 | cons x l ih=>
  have h1:=ih (fun y hy=>h y (by simp [hy]));have h2:=(h x (by simp)).size;unfold dS at h1 ⊢;rw [List.flatMap_cons,List.length_append,Gq,List.length_cons];omega
theorem kR {l:List au} (h:∀ x∈l,aJ (bO x)):∀ e∈dS l,0≤e∧e≤1114112:=by
 intro e he;unfold dS at he;obtain⟨r,hr,he⟩:=List.mem_flatMap.1 he;unfold eT at he;obtain⟨x,hx,he⟩:=List.mem_flatMap.1 he;have:=(h r hr).each x hx;simp at he;omega
def wH (acc:List bF) (h:Int):List bF:=match acc.getLast? with | some x=>acc.dropLast++[{ x with high:=h }] | none=>[]
def o8 (acc:List bF) (b:List Int):Bool:=match acc.getLast? with | some x=>x.rules == b | none=>false
def yo (acc:List bF) (low high:Int) (b:List Int):List bF:=if o8 acc b=true then wH acc high else acc++[⟨low,high,b⟩]
def bA (l:List au) (E:List Int):Nat→List bF
  | 0=>[]
  | j+1=>match E[j]? with | some a=>yo (bA l E j) a (dr E j) (cJ l a) | none=>bA l E j
def jX (l:List au) (E:List Int):List bF:=bA l E E.length
theorem mZ (acc:List bF) (x:bF) (h:Int):wH (acc++[x]) h=acc++[{ x with high:=h }]:=by
 simp [wH]
theorem kX (acc:List bF) (x:bF) (b:List Int):o8 (acc++[x]) b=(x.rules == b):=by simp [o8]
theorem iU {l:List au} {E:List Int} {j:Nat} {a:Int} (h:E[j]? = some a):bA l E (j+1)=yo (bA l E j) a (dr E j) (cJ l a):=by
 rw [bA,h]
theorem iu (l:List au) (E:List Int):∀ j,(bA l E j).length≤j:=by
 intro j;induction j with
 | zero=>simp [bA]
 | succ j ih=>
  rw [bA];split
  ·unfold yo;split
   ·rcases List.eq_nil_or_concat (bA l E j)with e | ⟨i,x,e⟩
    ·rw [e];simp [wH]
    rw [e]at ih ⊢;rw [List.concat_eq_append]at ih ⊢;rw [mZ];simp at ih ⊢;omega
   simp;omega
  omega
structure gx (l:List au) (acc:List bF) (lo:Int):Prop where
  start:∀ x,acc[0]? = some x→x.low=0
  next:∀ i x y,acc[i]? = some x→acc[i+1]? = some y→y.low=x.high+1∧x.rules≠y.rules
  each:∀ x∈acc,x.low≤x.high∧∀ r,x.low≤r→r≤x.high→cJ l r=x.rules
  fin:∀ x,acc.getLast? = some x→x.high+1=lo
  none:acc = []→lo=0
theorem gx.nil (l:List au):gx l [] 0:=⟨by simp,by simp,by simp,by simp,fun _=>rfl⟩
theorem gx.step {l:List au} {acc:List bF} {lo hi:Int} (h:gx l acc lo) (hlh:lo≤hi) (hb:∀ r,lo≤r→r≤hi→cJ l r=cJ l lo):gx l (yo acc lo hi (cJ l lo)) (hi+1):=by
 unfold yo;rcases List.eq_nil_or_concat acc with rfl | ⟨i,x,rfl⟩
 ·rw [if_neg (by simp [o8])];have h0:=h.none rfl;refine⟨?_,?_,?_,?_,?_⟩
  ·intro x hx;simp at hx;subst hx;exact h0
  ·intro k x y hx hy;have:=(List.getElem?_eq_some_iff.1 hy).1;simp at this
  ·intro x hx;simp at hx;subst hx;exact⟨hlh,hb⟩
  ·intro x hx;simp at hx;subst hx;rfl
  intro e;simp at e
 rw [List.concat_eq_append]at h ⊢;have rL:x.high+1=lo:=h.fin x (by simp);have hx:=h.each x (by simp);rw [kX];by_cases he:x.rules=cJ l lo
 ·rw [if_pos (by rw [beq_iff_eq];exact he),mZ];refine⟨?_,?_,?_,?_,?_⟩
  ·intro y hy;cases i with
   | nil=>simp at hy;subst hy;exact h.start x (by simp)
   | cons z i=>simp at hy;subst hy;exact h.start z (by simp)
  ·intro k y z hy hz;have hk:k+1<(i++[x]).length:=(by have:=(List.getElem?_eq_some_iff.1 hz).1;simpa using this);simp at hk;rw [List.getElem?_append_left (by omega)]at hy;rcases Nat.lt_or_ge (k+1) i.length with hlt | hge
   ·rw [List.getElem?_append_left hlt]at hz;exact h.next k y z (by rw [List.getElem?_append_left (by omega)];exact hy) (by rw [List.getElem?_append_left hlt];exact hz)
   rw [List.getElem?_append_right hge,show k+1 - i.length=0 by omega]at hz;simp at hz;subst hz;have:=h.next k y x (by rw [List.getElem?_append_left (by omega)];exact hy) (by rw [List.getElem?_append_right hge,show k+1 - i.length=0 by omega];rfl);exact this
  ·intro y hy;rcases List.mem_append.1 hy with hy | hy;exact h.each y (by simp [hy]);simp at hy;subst hy;refine⟨show x.low≤hi by omega,fun r h1 h2=>?_⟩;show cJ l r=x.rules;rcases Int.lt_or_le r lo with h3 | h3;exact hx.2 r h1 (by omega);rw [he];exact hb r h3 h2
  ·intro y hy;simp at hy;subst hy;rfl
  intro e;simp at e
 rw [if_neg (by rw [beq_iff_eq];exact he)];refine⟨?_,?_,?_,?_,?_⟩
 ·intro y hy;rw [List.getElem?_append_left (by simp)]at hy;exact h.start y hy
 ·intro k y z hy hz;have hk:k+1<((i++[x])++[(⟨lo,hi,cJ l lo⟩:bF)]).length:=(List.getElem?_eq_some_iff.1 hz).1;rw [List.length_append,List.length_singleton]at hk;rw [List.getElem?_append_left (by omega)]at hy;rcases Nat.lt_or_ge (k+1) (i++[x]).length with hlt | hge
  ·rw [List.getElem?_append_left hlt]at hz;exact h.next k y z hy hz
  rw [List.getElem?_append_right hge,show k+1 - (i++[x]).length=0 by omega]at hz;simp at hz;subst hz;have hkk:k=i.length:=(by simp at hk hge;omega);rw [hkk]at hy;simp at hy;subst hy;exact⟨rL.symm,he⟩
 ·intro y hy;rcases List.mem_append.1 hy with hy | hy;exact h.each y hy;simp at hy;subst hy;exact⟨hlh,hb⟩
 ·intro y hy;simp at hy;subst hy;rfl
 intro e;simp at e
theorem CL {l:List au} {a r:Int} (O0:a≤r) (h:∀ e∈dS l,¬(a<e∧e≤r)):cJ l r=cJ l a:=by
 have hm:∀ i,vF l r i=vF l a i:=by
  intro i;unfold vF;cases hi:l[i]? with
  | none=>rfl
  | some x=>
   refine yx O0 (fun e he=>h e ?_);unfold dS;exact List.mem_flatMap.2 ⟨x,List.mem_of_getElem? hi,he⟩
 unfold cJ dz;rw [show vF l r=vF l a from funext hm]
theorem On {l:List au} {j:Nat} {a:Int} (hj:(bg l)[j]? = some a):∀ r,a≤r→r≤dr (bg l) j→∀ e∈dS l,¬(a<e∧e≤r):=by
 intro r h1 h2 e he ⟨h3,h4⟩;have Db:=kJ l;by_cases hm:e≤1114111
 ·obtain⟨k,hk⟩:=List.mem_iff_getElem?.1 ((fq l e).2 (.inr ⟨he,hm⟩));have hjk:j<k:=by
   rcases Nat.lt_or_ge j k with h | h;exact h;rcases Nat.lt_or_ge k j with h' | h'
   ·have:=ku Db hk hj h';omega
   obtain rfl:j=k:=(by omega);rw [hk]at hj;injection hj;omega
  obtain⟨y,hy⟩:∃ y,(bg l)[j+1]? = some y:=⟨_,List.getElem?_eq_getElem (by have:=(List.getElem?_eq_some_iff.1 hk).1;omega)⟩;unfold dr at h2;rw [hy]at h2;simp only at h2;rcases Nat.lt_or_ge (j+1) k with h | h
  ·have:=ku Db hy hk h;omega
  obtain rfl:k=j+1:=(by omega);rw [hy]at hk;injection hk;omega
 unfold dr at h2;split at h2
 ·rename_i y hy;have:=(fq l y).1 (List.mem_of_getElem? hy);omega
 omega
theorem FX {l:List au} (h:∀ x∈l,aJ (bO x)):(bg l)[0]? = some 0:=by
 obtain⟨k,hk⟩:=List.mem_iff_getElem?.1 ((fq l 0).2 (.inl rfl));obtain⟨y,hy⟩:∃ y,(bg l)[0]? = some y:=⟨_,List.getElem?_eq_getElem (by have:=(List.getElem?_eq_some_iff.1 hk).1;omega)⟩;have h0:0≤y:=by
  rcases (fq l y).1 (List.mem_of_getElem? hy)with rfl | ⟨h1,_⟩;exact Int.le_refl _;exact(kR h y h1).1
 rcases Nat.eq_zero_or_pos k with rfl | hk0;exact hk;have:=ku (kJ l) hy hk hk0;omega
theorem Gw {l:List au} (h:∀ x∈l,aJ (bO x)):∀ j,j≤(bg l).length→gx l (bA l (bg l) j) ((bg l)[j]?.getD 1114112):=by
 intro j;induction j with
 | zero=>intro _;rw [FX h];exact gx.nil l
 | succ j ih=>
  intro hj;have h1:=ih (by omega);have hj2:j<(bg l).length:=(by omega);have PX:=List.getElem?_eq_getElem hj2;rw [PX]at h1;rw [iU PX];have hg:(bg l)[j+1]?.getD 1114112=dr (bg l) j+1:=by
   unfold dr;cases (bg l)[j+1]? with
   | none=>rfl
   | some y=>simp
  rw [hg];refine gx.step h1 ?_ (fun r h2 h3=>CL h2 (On PX r h2 h3));unfold dr;split
  ·rename_i y hy;have:=ku (kJ l) PX hy (Nat.lt_succ_self j);show(bg l)[j]≤y - 1;omega
  rcases (fq l _).1 (List.mem_of_getElem? PX)with e | ⟨_,e⟩
  ·show(bg l)[j]≤1114111;rw [e];decide
  exact e
theorem KX {l:List au} (h:∀ x∈l,aJ (bO x)):gx l (jX l (bg l)) 1114112:=by
 have:=Gw h _ (Nat.le_refl _);rw [List.getElem?_eq_none (Nat.le_refl _)]at this;exact this
def UT (hs:List bF):Prop:=∀ (i j:Nat) (x y:bF),i≤j→hs[i]? = some x→hs[j]? = some y→x.high≤y.high
def foundAt (hs:List bF) (r:Int) (k:Nat):List Int:=match hs[k]? with | some x=>if r<x.low then []else x.rules | none=>[]
theorem gx.nK {l:List au} {hs:List bF} {lo:Int} (h:gx l hs lo):∀ (d i:Nat) (x y:bF),hs[i]? = some x→hs[i+d]? = some y→x.high≤y.high∧(0<d→x.high<y.low):=by
 intro d;induction d with
 | zero=>intro i x y hx hy;rw [Nat.add_zero,hx]at hy;cases hy;exact⟨Int.le_refl _,fun h=>absurd h (Nat.lt_irrefl 0)⟩
 | succ d ih=>
  intro i x y hx hy;obtain⟨z,hz⟩:∃ z,hs[i+d]? = some z:=⟨_,List.getElem?_eq_getElem (by have:=(List.getElem?_eq_some_iff.1 hy).1;omega)⟩;have h1:=ih i x z hx hz;have h2:=(h.next (i+d) z y hz hy).1;have h3:=(h.each y (List.mem_of_getElem? hy)).1;omega
theorem gx.X5 {l:List au} {hs:List bF} {lo:Int} (h:gx l hs lo):UT hs:=by
 intro i j x y hij hx hy;obtain⟨d,rfl⟩:∃ d,j=i+d:=⟨j - i,by omega⟩;exact(h.nK d i x y hx hy).1
theorem gx.found {l:List au} {hs:List bF} (h:gx l hs 1114112) {r:Int} {k:Nat} (h1:∀ t x,t<k→hs[t]? = some x→x.high<r) (h2:∀ t x,k≤t→hs[t]? = some x→r≤x.high) :
    (0≤r→r≤1114111→foundAt hs r k=cJ l r)∧(r<0∨1114111<r→foundAt hs r k = []):=by
 have hne:hs ≠ []:=fun e=>absurd (h.none e) (by decide);have uI:∀ x,hs.getLast? = some x→x.high=1114111:=fun x hx=>(by have:=h.fin x hx;omega);have hlen:=List.length_pos_iff.2 hne;obtain⟨z,hz⟩:∃ z,hs[hs.length - 1]? = some z:=⟨_,List.getElem?_eq_getElem (by omega)⟩;have hzl:z.high=1114111:=uI z (by rw [List.getLast?_eq_getElem?];exact hz);have rT:∀ (k:Nat) (x:bF),hs[k]? = some x→0≤x.low∧x.high≤1114111:=by
  intro k x hx;obtain⟨x0,hx0⟩:∃ z,hs[0]? = some z:=⟨_,List.getElem?_eq_getElem (by omega)⟩;have h0:=h.start x0 hx0;have h00:=(h.each x0 (List.mem_of_getElem? hx0)).1;have hk:=(List.getElem?_eq_some_iff.1 hx).1;have ha:=h.nK k 0 x0 x hx0 (by rw [Nat.zero_add];exact hx);have hb:=h.nK (hs.length - 1 - k) k x z hx (by rw [show k+(hs.length - 1 - k)=hs.length - 1 by omega];exact hz);refine⟨?_,by omega⟩;rcases Nat.eq_zero_or_pos k with rfl | hk0
  ·rw [hx0]at hx;cases hx;omega
  have:=ha.2 hk0;omega
 refine⟨fun Up Lr=>?_,fun hr=>?_⟩
 ·have hk:k<hs.length:=by
   rcases Nat.lt_or_ge k hs.length with hlt | hge;exact hlt;have:=h1 (hs.length - 1) z (by omega) hz;omega
  obtain⟨x,hx⟩:∃ z,hs[k]? = some z:=⟨_,List.getElem?_eq_getElem hk⟩;have zJ:=h2 k x (Nat.le_refl _) hx;have Zo:x.low≤r:=by
   cases k with
   | zero=>rw [h.start x hx];exact Up
   | succ k=>
    obtain⟨y,hy⟩:∃ z,hs[k]? = some z:=⟨_,List.getElem?_eq_getElem (by omega)⟩;have:=(h.next k y x hy hx).1;have:=h1 k y (by omega) hy;omega
  unfold foundAt;rw [hx];simp only;rw [if_neg (by omega)];exact((h.each x (List.mem_of_getElem? hx)).2 r Zo zJ).symm
 unfold foundAt;cases hx:hs[k]? with
 | none=>rfl
 | some x=>
  have h3:=rT k x hx;have h4:=h2 k x (Nat.le_refl _) hx;simp only;rw [if_pos (by omega)]
theorem Jv (l:List au) (r:Int):(cJ l r).length≤l.length:=zm l r _
theorem gx.head {l:List au} {hs:List bF} (h:gx l hs 1114112) {r:Int} {k:Nat} (h1:∀ t x,t<k→hs[t]? = some x→x.high<r) (h2:∀ t x,k≤t→hs[t]? = some x→r≤x.high) (h0:0≤r) (hm:r≤1114111) :
    ∃ x,hs[k]? = some x∧x.rules=cJ l r:=by
 have hne:hs ≠ []:=fun e=>absurd (h.none e) (by decide);have hlen:=List.length_pos_iff.2 hne;obtain⟨z,hz⟩:∃ z,hs[hs.length - 1]? = some z:=⟨_,List.getElem?_eq_getElem (by omega)⟩;have hzl:=h.fin z (by rw [List.getLast?_eq_getElem?];exact hz);have hk:k<hs.length:=by
  rcases Nat.lt_or_ge k hs.length with hlt | hge;exact hlt;have:=h1 (hs.length - 1) z (by omega) hz;omega
 obtain⟨x,hx⟩:∃ z,hs[k]? = some z:=⟨_,List.getElem?_eq_getElem hk⟩;have hf:=(h.found h1 h2).1 h0 hm;have zJ:=h2 k x (Nat.le_refl _) hx;have Zo:x.low≤r:=by
  cases k with
  | zero=>rw [h.start x hx];exact h0
  | succ k=>
   obtain⟨y,hy⟩:∃ z,hs[k]? = some z:=⟨_,List.getElem?_eq_getElem (by omega)⟩;have:=(h.next k y x hy hx).1;have:=h1 k y (by omega) hy;omega
 exact⟨x,hx,((h.each x (List.mem_of_getElem? hx)).2 r Zo zJ).symm⟩
def gE (l:List au):List bF × (Int × Int) :=
  if (dY l).1≠0 then ([],dY l)else if 400<(jX l (bg l)).length then ([],(5,0))else (jX l (bg l),(0,0))
theorem I1 {l:List au} (h:(gE l).2.1=0):(gE l).1=jX l (bg l)∧xK l∧(gE l).1.length≤400:=by
 unfold gE at h ⊢;by_cases h1:(dY l).1=0
 ·rw [if_neg (by rw [h1];decide)]at h ⊢;by_cases h2:400<(jX l (bg l)).length
  ·rw [if_pos h2]at h;cases h
  rw [if_neg h2];exact⟨rfl,oy h1,by show(jX l (bg l)).length≤400;omega⟩
 rw [if_pos h1]at h;exact absurd h h1
theorem Hy {l:List au} (h:(gE l).2.1=0):gx l (gE l).1 1114112:=by
 obtain⟨h1,h2,_⟩:=I1 h;rw [h1];exact KX h2.set
def dK (lo:Nat) (w:World) (v:Value) (hs:List bF):Prop:=dD (iw w (ir lo w)) 205 3 w lo v hs
theorem ir.keeps {lo:Nat} {w w':World} (h:∀ b,ir lo w b→b<w.heap.size→w'.heap[b]? = w.heap[b]?) (hs:w.heap.size≤w'.heap.size):ag w (ir lo w) w' (ir lo w'):=by
 intro b hb hl;have he:=h b hb hl;refine⟨he,⟨hb.1,?_⟩,Nat.lt_of_lt_of_le hl hs⟩;obtain⟨cs,fz,hc⟩:=hb.2;exact⟨cs,fz,he.trans hc⟩
theorem ir.below {lo:Nat} {w w':World} (hb:Below w.heap.size w w'):ag w (ir lo w) w' (ir lo w'):=ir.keeps (fun b _ hl=>hb.block b hl) hb.size
theorem dK.nil (lo:Nat) (w:World):dK lo w (.slice none 0 0) []:=dD.nil _ _
theorem dK.below {lo:Nat} {w w':World} {v:Value} {hs:List bF} (h:dK lo w v hs) (hb:Below w.heap.size w w'):dK lo w' v hs :=
  dD.kept (fun _ _ ho=>cS ho hb) (fun _ _=>iw.keep (ir.below hb)) h
theorem dK.form {lo:Nat} {w:World} {v:Value} {hs:List bF} (h:dK lo w v hs):∃ A c,v=.slice A hs.length c∧hs.length≤c:=dD.form h
theorem DG:(205 : TypeId) ≠ 3:=by decide
theorem ir.ne {lo:Nat} {w:World} {v:Value} {n:Nat} {xs:List Value} (h:w.ownsRow lo 205 3 v n xs) {b:Nat} (hb:ir lo w b):v.ownBlock≠some b:=by
 obtain⟨cs,fz,hc⟩:=hb.2;rcases h.2 with ⟨rfl,_⟩ | ⟨g,cap,cur,rfl,_,hg,_⟩
 ·simp [Value.ownBlock]
 simp only [Value.ownBlock,ne_eq,Option.some.injEq];rintro rfl;rw [hc]at hg;injection hg with hg;injection hg with _ ht;exact DG ht.symm
theorem mI.form {w:World} {X:Nat→Prop} {l:List Int} {u:Value} (h:mI w X l u):∃ A c,u=.slice A l.length c∧LB w w.heap.size A l.length l∧di w X 1 A l.length (intCells l)∧l.length≤maxLen:=by
 obtain⟨A,n,c,rfl,h1,h2⟩:=h;obtain rfl:l.length=n:=(mI.len ⟨A,n,c,rfl,h1,h2⟩).1;exact⟨A,c,rfl,h1.of,h1,h2⟩
theorem dK.push {lo n:Nat} {w w':World} {v v':Value} {hs:List bF} {css:List (List Value)} {low high:Int} {b:List Int} {u:Value}
    (h1:css.length=hs.length) (h2:∀ (i:Nat) (a:bF) (cs:List Value),hs[i]? = some a→css[i]? = some cs→iw w (ir lo w) a cs) (h3:∀ cs∈css,cs.length=3)
    (h4:w.ownsRow lo 205 3 v hs.length css.flatten) (hu:mI w (ir lo w) b u) (hlo:lo≤w.heap.size) (hn:n=hs.length+1)
    (an:aS lo 205 3 v w n (css.flatten++[.int .i32 low,.int .i32 high,u]) v' w'):dK lo w' v' (hs++[⟨low,high,b⟩])∧Below lo w w':=by
 subst hn;have hk:ag w (ir lo w) w' (ir lo w'):=ir.keeps (fun x hx hl=>an.2.1.block x hl (fun e=>ir.ne h4 hx e.symm)) an.2.1.size;exact⟨dD.push h1 h2 h3 (fun _ _=>iw.keep hk) ⟨u,rfl,hu.keep hk⟩ rfl an,an.below hlo h4⟩
theorem dK.ready {lo:Nat} {w:World} {v:Value} {hs:List bF} (h:dK lo w v hs) {b:List Int} {u:Value} {lo':Nat} (hu:mI w (ir lo' w) b u) (hlo:lo≤w.heap.size) (abq:lo≤lo') (low high:Int) :
    ∃ xs:List Value,(w.alloc (.cells #[.int .i32 low,.int .i32 high,u] 205)).ownsRow lo 205 3 v hs.length xs ∧
      ∀ v' w' n,n=hs.length+1→aS lo 205 3 v (w.alloc (.cells #[.int .i32 low,.int .i32 high,u] 205)) n (xs++[.int .i32 low,.int .i32 high,u]) v' w'→dK lo w' v' (hs++[⟨low,high,b⟩])∧Below lo w w':=by
 obtain⟨css,h1,h2,h3,h4⟩:=h;have eO:=(Below.refl w.heap.size w).alloc (Nat.le_refl _) (.cells #[.int .i32 low,.int .i32 high,u] 205);refine⟨css.flatten,World.ownsRow.alloc h4 _,fun v' w' n hn an=>?_⟩
 have Qr:mI (w.alloc (.cells #[.int .i32 low,.int .i32 high,u] 205)) (ir lo (w.alloc (.cells #[.int .i32 low,.int .i32 high,u] 205))) b u :=
   (hu.keep (ag.refl (X':=ir lo w) (fun _ h=>⟨Nat.le_trans abq h.1,h.2⟩))).keep (ir.below eO)
 have:=dK.push h1 (fun i a cs ha hc=>iw.keep (ir.below eO) (h2 i a cs ha hc)) h3 (World.ownsRow.alloc h4 _) Qr (by simp;omega) hn an;exact⟨this.1,(eO.mono hlo).trans this.2⟩
theorem Kh {css:List (List Value)} (h:∀ cs∈css,cs.length=3) (a b c b':Value):(css++[[a,b,c]]).flatten.set (css.length*3+1) b'=(css++[[a,b',c]]).flatten:=by
 have hl:css.flatten.length=css.length*3:=by
  clear a b c b';induction css with
  | nil=>rfl
  | cons x css ih=>
   have:=h x (by simp);have:=ih (fun y hy=>h y (by simp [hy]));rw [List.flatten_cons,List.length_append,List.length_cons];omega
 rw [List.flatten_append,List.flatten_append,← hl,List.set_append_right _ _ (by omega),show css.flatten.length+1 - css.flatten.length=1 by omega];rfl
theorem dK.PK {lo g n c:Nat} {w:World} {i:List bF} {x:bF} (h:dK lo w (.slice (some ⟨g,0,none⟩) n c) (i++[x])) (y:Int) :
    dK lo (w.setCell ⟨g,i.length*3+1,none⟩ (.int .i32 y)) (.slice (some ⟨g,0,none⟩) n c) (i++[{ x with high:=y }])∧Below lo w (w.setCell ⟨g,i.length*3+1,none⟩ (.int .i32 y)):=by
 obtain⟨css,h1,h2,h3,h4⟩:=h;obtain⟨A',c',e,_⟩:=aH h4;cases e;have hlo:lo≤g:=(bG h4 rfl).1;refine⟨?_,(Below.refl _ _).setCell hlo _⟩;rcases List.eq_nil_or_concat css with rfl | ⟨cs,z,rfl⟩
 ·simp at h1
 rw [List.concat_eq_append]at h1 h2 h3 h4;have Ga:cs.length=i.length:=(by simpa using h1);obtain⟨u,rfl,hu⟩:=h2 i.length x z (by simp) (by rw [← Ga];simp);have hst:=h4.stored (i.length*3+1) (.int .i32 y);rw [← Ga,Kh (fun q hq=>h3 q (by simp [hq]))]at hst;rw [← Ga]
 have hk:ag w (ir lo w) (w.setCell ⟨g,cs.length*3+1,none⟩ (.int .i32 y)) (ir lo (w.setCell ⟨g,cs.length*3+1,none⟩ (.int .i32 y))) :=
   ir.keeps (fun b hb hl=>hst.2.block b hl (fun e=>ir.ne h4 hb e.symm)) (by simp)
 refine⟨cs++[[.int .i32 x.low,.int .i32 y,u]],by simp [Ga],?_,?_,?_⟩
 ·intro k a ks ha hks;rcases Nat.lt_or_ge k i.length with hlt | hge
  ·rw [List.getElem?_append_left hlt]at ha;rw [List.getElem?_append_left (by omega)]at hks;exact iw.keep hk (h2 k a ks (by rw [List.getElem?_append_left hlt];exact ha) (by rw [List.getElem?_append_left (by omega)];exact hks))
  rw [List.getElem?_append_right hge]at ha;rw [List.getElem?_append_right (by omega),Ga]at hks;have hk0:k - i.length=0:=by
   have:=(List.getElem?_eq_some_iff.1 ha).1;simp at this;omega
  rw [hk0]at ha hks;simp at ha hks;subst ha hks;exact⟨u,rfl,hu.keep hk⟩
 ·intro ks hks;rcases List.mem_append.1 hks with hks | hks;exact h3 ks (by simp [hks]);simp at hks;subst hks;rfl
 have:=hst.1;simpa using this
theorem dK.last {lo:Nat} {w:World} {v:Value} {i:List bF} {x:bF} (h:dK lo w v (i++[x])) :
    ∃ (g c:Nat) (A':Option Addr) (c':Nat),v=.slice (some ⟨g,0,none⟩) (i.length+1) c∧i.length+1≤c∧lo≤g∧g<w.heap.size ∧
      w.cell? ⟨g,i.length*3+1,none⟩=some (.int .i32 x.high)∧w.frozen? ⟨g,i.length*3+1,none⟩=false∧w.cell? ⟨g,i.length*3+2,none⟩=some (.slice A' x.rules.length c')∧LB w w.heap.size A' x.rules.length x.rules∧x.rules.length≤maxLen:=by
 obtain⟨css,h1,h2,h3,h4⟩:=h;have hlen:(i++[x]).length=i.length+1:=(by simp);rw [hlen]at h4 h1;obtain⟨g,c,rfl,hc,hg,Rv⟩:=oA h4 (by omega);obtain⟨cs,hcs⟩:∃ cs,css[i.length]? = some cs:=⟨_,List.getElem?_eq_getElem (by omega)⟩;obtain⟨u,rfl,hu⟩:=h2 i.length x cs (by simp) hcs;obtain⟨A',c',rfl,hr,_,hrl⟩:=hu.form;refine⟨g,c,A',c',rfl,hc,hg,Rv,?_,h4.frozenAt _,?_,hr,hrl⟩
 ·rw [h4.cellAt _ (by omega)];exact dG h3 _ _ hcs 1 _ rfl
 rw [h4.cellAt _ (by omega)];exact dG h3 _ _ hcs 2 _ rfl
theorem dK.done {lo:Nat} {w:World} {v:Value} {hs:List bF} (h:dK lo w v hs) (hl:hs.length≤maxLen):qE w (fun b=>lo≤b) hs v:=by
 obtain⟨A,c,rfl,_⟩:=h.form;refine⟨A,_,c,rfl,?_,hl⟩;obtain⟨css,h1,h2,h3,h4⟩:=h;exact⟨css,rfl,h1,fun i a cs ha hc=>iw.keep (ag.refl (fun _ h=>h.1)) (h2 i a cs ha hc),h3,di.cj h4 (fun b hb=>(bG h4 hb).1)⟩
theorem qE.form {w:World} {X:Nat→Prop} {hs:List bF} {u:Value} (h:qE w X hs u):∃ A c,u=.slice A hs.length c∧cm (iw w X) w X 3 A hs.length hs∧hs.length≤maxLen:=by
 obtain⟨A,n,c,rfl,h1,h2⟩:=h;obtain rfl:hs.length=n:=h1.len;exact⟨A,c,rfl,h1,h2⟩
theorem Ii {w:World} {X:Nat→Prop} {A:Option Addr} {n:Nat} {l:List bF} (h:cm (iw w X) w X 3 A n l) {k:Nat} {x:bF} (hk:l[k]? = some x) :
    ∃ (b off:Nat) (A':Option Addr) (c':Nat),A=some ⟨b,off,none⟩∧X b∧b<w.heap.size∧w.cell? ⟨b,off+k*3,none⟩=some (.int .i32 x.low)∧w.cell? ⟨b,off+k*3+1,none⟩=some (.int .i32 x.high) ∧
      w.cell? ⟨b,off+k*3+2,none⟩=some (.slice A' x.rules.length c')∧LB w w.heap.size A' x.rules.length x.rules∧di w X 1 A' x.rules.length (intCells x.rules)∧x.rules.length≤maxLen:=by
 obtain⟨b,off,cs,e,hx,hb,⟨u,rfl,hu⟩,_,hc⟩:=h.at hk;obtain⟨A',c',rfl,h1,h2,h3⟩:=hu.form;exact⟨b,off,A',c',e,hx,hb,hc 0 _ rfl,hc 1 _ rfl,hc 2 _ rfl,h1,h2,h3⟩
theorem NY:(Tryz.prog.info? 205).map (fun i=>(i.zero,i.size,i.bytes))=some (some (.agg #[.int .i32 0,.int .i32 0,.slice none 0 0]),3,32):=by kernel_rfl
end Go.Proofs.YtapechjebkjidaaGreatDoor
