/- Has + Begin + TextI + Heads + HeadsMem -/
import Derived.Test.YtblinekbpcdbfaaGreatDoorZv16
import Derived.Test.YtblinekbpcdbfaaGreatDoorZv9
import Derived.Test.YtblinekbpcdbfaaGreatDoorZv4
import Derived.Shelf.Abstract
import Derived.Deep.DeepCutAuto
import Derived.Deep.CutBlock
import Derived.Test.YtblinekbpcdbfaaGreatDoorZv12
set_option maxHeartbeats 1600000
set_option maxRecDepth 100000
namespace Go.Proofs.YtblinekbpcdbfaaGreatDoor
open Go.RowKit
theorem tD (g:Nat) (cb:Array Value) (n:Nat) (p:Nat→Bool) (w:World) (eg:∀ args w,(callFunc g args).run Tryz.prog w=.ok (.enter g args) w) (hsz:n<4611686018427387904)
    (hf:∀ (w':World) (i:Nat),Below w.heap.size w w'→i<n→Calls Tryz.prog g (#[.int .i64 i]++cb) w' fun e w2=>e=.returned (.bool (p i))∧Below w'.heap.size w' w2)
    (hmono:∀ a b,a≤b→b<n→p a=true→p b=true) :
    Calls Tryz.prog 69 #[.int .i64 n,.func (.func g) #[] cb] w fun e w'=>∃ k:Nat,e=.returned (.int .i64 k)∧k≤n∧(∀ t,t<k→p t=false)∧(∀ t,k≤t→t<n→p t=true)∧Below w.heap.size w w':=by
 have HF:=qqh hf;have M:=qqh hmono;clear hf hmono;go_enter Tryz.func69,Tryz.ntmps69;go_wp2_with fail;go_loopw [5,6] (fun s5 s6 wr=>∃ lo hi:Nat,s5=.int .i64 lo∧s6=.int .i64 hi∧lo≤hi∧hi≤n∧Below w.heap.size w wr∧(∀ t,t<lo→p t=false)∧(∀ t,hi≤t→t<n→p t=true)) (fun s5 s6 _=>(intOf s6).toNat - (intOf s5).toNat);(case atStart=>exact⟨0,n,rfl,rfl,Nat.zero_le _,qql,qqb,fun t ht=>absurd ht (Nat.not_lt_zero _),fun t h1 h2=>by omega⟩);obtain⟨lo,hi,rfl,rfl,hlh,hin,hb,h1,h2⟩:=hrel;have HL:=qqh h1;have HH:=qqh h2;clear h1 h2;by_cases hlt:lo<hi
 ·have hc:=HF.out wr ((lo+hi) / 2) hb (by omega);rw [show(((lo+hi) / 2:Nat):Int)=((lo:Int)+(hi:Int)) / 2 by omega]at hc;cases hp:p ((lo+hi) / 2) <;> rw [hp]at hc
  ·have HP:=qqh hp;have HC:=qqh hc;clear hp hc;go_wp2_with (go_at_fn g;refine HC.out.mono ?_;rintro e w' ⟨rfl,hb'⟩);refine⟨⟨(lo+hi) / 2+1,hi,by rw [show((lo:Int)+(hi:Int)) / 2+1=(((lo+hi) / 2+1:Nat):Int) by omega],rfl,by omega,hin,hb.trans (hb'.mono hb.size),fun t ht=>?_,HH.out⟩,by simp [intOf];omega⟩;cases h:p t with
   | false=>rfl
   | true=>
    have:=M.out t ((lo+hi) / 2) (by omega) (by omega) h;rw [HP.out]at this;cases this
  have HP:=qqh hp;have HC:=qqh hc;clear hp hc;go_wp2_with (go_at_fn g;refine HC.out.mono ?_;rintro e w' ⟨rfl,hb'⟩);exact⟨⟨lo,(lo+hi) / 2,rfl,by rw [show((lo:Int)+(hi:Int)) / 2=(((lo+hi) / 2:Nat):Int) by omega],by omega,by omega,hb.trans (hb'.mono hb.size),HL.out,fun t ht htn=>M.out _ t ht htn HP.out⟩,by simp [intOf];omega⟩
 obtain rfl:hi=lo:=(by omega);go_wp2_with fail;go_ret;exact⟨_,rfl,hin,HL.out,HH.out,hb⟩
theorem DA (ga gr blk off n c i:Nat) (r y:Int) (w:World) (hi:i<n) (ha:w.cell? ⟨ga,0,none⟩=some (.slice (some ⟨blk,off,none⟩) n c)) (hr:w.cell? ⟨gr,0,none⟩=some (.int .i32 r)) (hc:w.cell? ⟨blk,off+i*2+1,none⟩=some (.int .i32 y)) :
    Calls Tryz.prog 70 (#[.int .i64 i] ++ #[.pointer (some ⟨ga,0,none⟩),.pointer (some ⟨gr,0,none⟩)]) w fun e w'=>e=.returned (.bool (decide (r≤y)))∧Below w.heap.size w w':=by
 have hiz:(i:Int)<(n:Int):=(by omega);go_enter Tryz.func70,Tryz.ntmps70;go_wp2_with fail;go_quiet (fail);go_wp2_with fail;go_ret;exact⟨rfl,below_drewN qqb _⟩
theorem Gj:∀ args w,(callFunc 70 args).run Tryz.prog w=.ok (.enter 70 args) w:=enters_of Tryz.func70 (by kernel_rfl) rfl
theorem rO (A:Option Addr) (n c:Nat) (s:aa) (r:Int) (w:World) (hs:aH s) (hl:kM w w.heap.size A n s) :
    Calls Tryz.prog 36 #[.slice A n c,.int .i32 r] w fun e w'=>e=.returned (.bool (aO s r))∧Below w.heap.size w w':=by
 have aW:=qqh hl.len;have hn2:n≤200:=(by rw [← hl.len];exact hs.size);have HL:=qqh hl;have HS:=qqh hs;have ep:=qqh (((Below.refl w.heap.size w).alloc qql (.cells #[.slice A n c] 22)).alloc (by simp) (.cells #[.int .i32 r] 21));have HA:=qqh (aj.alloc (aj.new w 22 #[.slice A n c]) (.cells #[.int .i32 r] 21));have HR:=qqh (show aj ((w.alloc (.cells #[.slice A n c] 22)).alloc (.cells #[.int .i32 r] 21)) (w.heap.size+1) 21 #[.int .i32 r] by
  have:=aj.new (w.alloc (.cells #[.slice A n c] 22)) 21 #[.int .i32 r];simpa using this)
 have OA:=qqh (tD 70 #[.pointer (some ⟨w.heap.size,0,none⟩),.pointer (some ⟨w.heap.size+1,0,none⟩)] n (fun i=>decide (r≤(s[i]?.getD (0,0)).2))
   ((w.alloc (.cells #[.slice A n c] 22)).alloc (.cells #[.int .i32 r] 21)) Gj (by omega)
   (fun w' i hb hi=>by
     obtain⟨z,hz⟩:∃ z,s[i]? = some z:=⟨_,List.getElem?_eq_getElem (by rw [aW.out];exact hi)⟩
     obtain⟨b,off,rfl,ey,_,c1⟩:=HL.out.at (x:=z.1) (y:=z.2) hz
     rw [hz]
     exact DA w.heap.size (w.heap.size+1) b off n c i r z.2 w' hi ((aj.below HA.out hb HA.out.lt).cell 0) ((aj.below HR.out hb HR.out.lt).cell 0)
       (((ep.out.trans (hb.mono ep.out.size)).cell (p:=⟨b,off+i*2+1,none⟩) ey).trans c1))
   (fun a b hab hb h=>by
     obtain⟨x,hx⟩:∃ z,s[a]? = some z:=⟨_,List.getElem?_eq_getElem (by rw [aW.out];omega)⟩
     obtain⟨y,hy⟩:∃ z,s[b]? = some z:=⟨_,List.getElem?_eq_getElem (by rw [aW.out];omega)⟩
     simp only [hx,hy,Option.getD_some,decide_eq_true_eq]at h ⊢
     rcases Nat.lt_or_ge a b with hlt | hge
     · have:=HS.out.lt hx hy hlt
       have:=HS.out.each y (List.mem_of_getElem? hy)
       omega
     · obtain rfl:a=b:=by omega
       rw [hx]at hy
       cases hy
       exact h))
 clear hl hs;go_enter Tryz.func36,Tryz.ntmps36;go_wp2_with fail;refine OA.out.mono ?_;rintro e w1 ⟨k,rfl,hk,h1,h2,hb⟩;have HH:=qqh (P7 HS.out r (k:=k) (fun t x ht hx=>by
  have:=h1 t ht;rw [hx]at this;simpa using this) (fun t x ht hx=>by
  have:=h2 t ht (by rw [← aW.out];exact(List.getElem?_eq_some_iff.1 hx).1);rw [hx]at this;simpa using this))
 have a0:w1.cell? ⟨w.heap.size,0,none⟩=some (.slice A n c):=(aj.below HA.out hb HA.out.lt).cell 0;have r0:w1.cell? ⟨w.heap.size+1,0,none⟩=some (.int .i32 r):=(aj.below HR.out hb HR.out.lt).cell 0;have HB:=qqh (ep.out.trans (hb.mono ep.out.size));clear h1 h2 hb;by_cases hlt:k<n
 ·obtain⟨⟨x,y⟩,hx⟩:∃ z,s[k]? = some z:=⟨_,List.getElem?_eq_getElem (by rw [aW.out];exact hlt)⟩;obtain⟨b,off,rfl,ey,c0,_⟩:=HL.out.at hx;have d0:=(HB.out.cell (p:=⟨b,off+k*2,none⟩) ey).trans c0;have HE:=qqh (show aO s r=decide (x≤r) by rw [HH.out,hx]);have hlt2:decide ((k:Int)<(n:Int))=true:=decide_eq_true (by omega);clear hx c0;go_wp2_with fail;go_quiet (fail);go_wp2_with fail;go_ret;rw [HE.out];exact⟨rfl,below_drewN HB.out _⟩
 have HE:=qqh (show aO s r=false by rw [HH.out,List.getElem?_eq_none (by rw [aW.out];omega)]);have hlt2:decide ((k:Int)<(n:Int))=false:=decide_eq_false (by omega);go_wp2_with fail;go_quiet (fail);go_wp2_with fail;go_ret;rw [HE.out];exact⟨rfl,below_drewN HB.out _⟩
def bI (r:aB):aa:=r.source.headD []
def uv (l:List aB) (r:Int) (i:Nat):Bool:=match l[i]? with | some x=>aO (bI x) r | none=>false
def cY (l:List aB) (r:Int) (k:Nat):List Int:=((List.range k).filter (uv l r)).map (fun i:Nat=>(i:Int))
def cE (l:List aB) (r:Int):List Int:=cY l r l.length
theorem yd {l:List aB} {r:Int} {k:Nat} (h:uv l r k=true):cY l r (k+1)=cY l r k++[(k:Int)]:=by
 simp [cY,List.range_succ,List.filter_append,h]
theorem AE {l:List aB} {r:Int} {k:Nat} (h:uv l r k=false):cY l r (k+1)=cY l r k:=by
 simp [cY,List.range_succ,List.filter_append,h]
theorem y8 (l:List aB) (r:Int) (k:Nat):(cY l r k).length≤k:=by
 unfold cY;rw [List.length_map];have:=List.length_filter_le (uv l r) (List.range k);simpa using this
structure wu (l:List aB):Prop where
  size:l.length≤200
  src:∀ x∈l,x.source ≠ []
  set:∀ x∈l,aH (bI x)
theorem j4 {l:List Int} (h:cz l=0):∀ x∈l,x=0:=by
 induction l with
 | nil=>simp
 | cons y l ih=>
  intro x hx;by_cases hy:y=0
  ·rw [lT _ hy]at h;rcases List.mem_cons.1 hx with rfl | hx;exact hy;exact ih h x hx
  rw [jW _ hy]at h;exact absurd h hy
theorem vT {r:aB} (h:kT r=0):r.source ≠ []∧aH (bI r):=by
 unfold kT at h;by_cases h0:cz ((eE r).map jw)=0
 ·rw [if_neg (by rw [h0];decide)]at h;have hne:r.source ≠ []:=by
   intro e;rw [pL,e,if_pos (show([]:List aa).length=0 from rfl)]at h;cases h
  refine⟨hne,?_⟩;have hs:=j4 h0 (jw r.source) (by simp [eE]);unfold jw at hs;by_cases h20:20<r.source.length
  ·rw [if_pos h20]at hs;cases hs
  rw [if_neg h20]at hs;apply mB;refine j4 hs _ (List.mem_map.2 ⟨bI r,?_,rfl⟩);unfold bI;cases hr:r.source with
  | nil=>exact absurd hr hne
  | cons a t=>simp
 rw [if_pos h0]at h;exact absurd h h0
theorem qU:∀ (l:List aB) (i:Nat),(jX i l).1=0→∀ x∈l,kT x=0:=by
 intro l;induction l with
 | nil=>intro i _ x hx;cases hx
 | cons y l ih=>
  intro i h x hx;rw [jX]at h;by_cases hy:kT y=0
  ·rw [if_neg (by rw [hy];decide)]at h;rcases List.mem_cons.1 hx with rfl | hx;exact hy;exact ih _ h x hx
  rw [if_pos hy]at h;exact absurd h hy
theorem nJ {l:List aB} (h:(eC l).1=0):wu l:=by
 unfold eC at h;by_cases h2:200<l.length
 ·rw [if_pos h2]at h;cases h
 rw [if_neg h2]at h;have:=qU l 0 h;exact⟨by omega,fun x hx=>(vT (this x hx)).1,fun x hx=>(vT (this x hx)).2⟩
theorem CY {w:World} {X:Nat→Prop} {u:Value} {l:List aa} (h:gO w X l u) (hne:l ≠ []) :
    ∃ (b off n c:Nat) (A':Option Addr) (n' c':Nat),u=.slice (some ⟨b,off,none⟩) n c∧0<n∧n≤maxLen∧X b∧b<w.heap.size∧w.cell? ⟨b,off,none⟩=some (.slice A' n' c')∧kM w w.heap.size A' n' (l.headD [])∧cV w X 2 A' n' (an (l.headD []))∧n'≤maxLen:=by
 obtain⟨A,n,c,rfl,h1,h2⟩:=h;cases l with
 | nil=>exact absurd rfl hne
 | cons s t=>
  obtain⟨b,off,A',n',c',rfl,hx,hb,hc,h3,h4,h5⟩:=uX h1 (k:=0) rfl;exact⟨b,off,n,c,A',n',c',rfl,by have:=h1.len;simp at this;omega,h2,hx,hb,hc,h3,h4,h5⟩
def gY (lo:Nat) (w:World) (b:Nat):Prop:=lo≤b∧∃ cs fz,w.heap[b]? = some (.cells cs 3 fz)
theorem KY {w:World} {lo base n:Nat} {v:Value} {xs:List Value} (h:w.ownsRow base 3 1 v n xs) (hlo:lo≤base):∀ b,v.ownBlock=some b→gY lo w b:=by
 intro b hb;rcases h.2 with ⟨rfl,_⟩ | ⟨g,cap,cur,rfl,hg,hh,_⟩
 ·simp [Value.ownBlock]at hb
 simp only [Value.ownBlock,Option.some.injEq]at hb;subst hb;exact⟨Nat.le_trans hlo hg,cur,_,hh⟩
theorem Qu:(Tryz.prog.info? 3).map (fun i=>(i.zero,i.size,i.bytes))=some (some (.int .i64 0),1,8):=by kernel_rfl
def mT:List aa→List Int→Bool
  | [],_=>true
  | _::_,[]=>false
  | s::l,x::t=>aO s x && mT l t
def mD (t:List Int) (p:Int) (l:List aa):Bool:=if p<0∨(t.length:Int) - (l.length:Int)<p then false else mT l (t.drop p.toNat)
structure Mz (tI:TypeId) (xI recv:Value) (fL fR:FuncId) (T:List Int) (R:World→Prop):Prop where
  enterL:∀ args w,(callFunc fL args).run Tryz.prog w=.ok (.enter fL args) w
  enterR:∀ args w,(callFunc fR args).run Tryz.prog w=.ok (.enter fR args) w
  ml:∀ w,R w→(method 402 tI xI "Len").run Tryz.prog w=.ok (fL,recv) w
  mr:∀ w,R w→(method 402 tI xI "Rune").run Tryz.prog w=.ok (fR,recv) w
  len:∀ w,R w→Calls Tryz.prog fL #[recv] w fun e w'=>e=.returned (.int .i64 T.length)∧∃ k,w'=w.drewN k
  rune:∀ w (k:Nat) x,R w→T[k]? = some x→Calls Tryz.prog fR #[recv,.int .i64 k] w fun e w'=>e=.returned (.int .i32 x)∧∃ k,w'=w.drewN k
  keep:∀ w w',R w→Below w.heap.size w w'→R w'
theorem Lx {t:List Int} {p:Int} {l:List aa} (h:p<0):mD t p l=false:=by unfold mD;rw [if_pos (.inl h)]
theorem Nz {t:List Int} {p:Int} {l:List aa} (h:(t.length:Int) - (l.length:Int)<p):mD t p l=false:=by unfold mD;rw [if_pos (.inr h)]
theorem O9 {t:List Int} {q:Nat} {l:List aa} (h:q+l.length≤t.length):mD t q l=mT l (t.drop q):=by
 unfold mD;rw [if_neg (by omega)];rfl
theorem CC {l:List aa} {t:List Int} {j q:Nat} {s:aa} {x:Int} (hs:l[j]? = some s) (hx:t[q+j]? = some x):mT (l.drop j) (t.drop (q+j))=(aO s x && mT (l.drop (j+1)) (t.drop (q+(j+1)))):=by
 rw [cT hs,cT hx];rfl
def Xv (w:World) (R:World→Prop) (T:List Int) (l:List aa) (q n:Nat) (i:Value) (wr:World):Prop :=
  ∃ j:Nat,j≤n∧i=.int .i64 j∧mT l (T.drop q)=mT (l.drop j) (T.drop (q+j))∧R wr∧Below w.heap.size w wr
theorem sM {tI:TypeId} {xI recv:Value} {fL fR:FuncId} {T:List Int} {R:World→Prop} (I:Mz tI xI recv fL fR T R) (p:Int) (X:Nat→Prop) (l:List aa) (A:Option Addr) (n c:Nat) (w:World)
    (hT:T.length≤1000000) (hp : -1000000≤p∧p≤1000000) (hn:n≤20) (hS:∀ s∈l,aH s) (hl:ck (nS w X) w X 1 A n l) (hR:R w) :
    Calls Tryz.prog 188 #[.iface tI xI,.int .i64 p,.slice A n c] w fun e w'=>e=.returned (.bool (mD T p l))∧Below w.heap.size w w':=by
 have aW:=qqh (show l.length=n from hl.len);have HL:=qqh hl;have HS:=qqh hS;have HI:=qqh I;have HR:=qqh hR;have eL:=I.enterL;have eR:=I.enterR;have mL:=I.ml w hR;have Pt:=qqh (I.len w hR);clear hl hS I hR;by_cases h0:p<0
 ·have hd:decide (p<0)=true:=decide_eq_true h0;have HP:=qqh (Lx (t:=T) (l:=l) h0);go_enter Tryz.func188,Tryz.ntmps188;go_wp2_with fail;go_ret;exact⟨bH HP.out.symm,qqb⟩
 obtain⟨q,rfl⟩:∃ q:Nat,p=(q:Int):=⟨p.toNat,by omega⟩;have hd:decide ((q:Int)<0)=false:=decide_eq_false h0;by_cases afx:T.length<q+n
 ·have mI:decide ((T.length:Int) - (n:Int)<(q:Int))=true:=decide_eq_true (by omega);have HP:=qqh (Nz (t:=T) (p:=(q:Int)) (l:=l) (by rw [aW.out];omega));go_enter Tryz.func188,Tryz.ntmps188;go_wp2_with fail;refine Pt.out.mono ?_;rintro e w1 ⟨rfl,k1,rfl⟩;go_wp2_with fail;go_ret;exact⟨bH HP.out.symm,below_drewN qqb k1⟩
 have mI:decide ((T.length:Int) - (n:Int)<(q:Int))=false:=decide_eq_false (by omega);have HP:=qqh (O9 (t:=T) (q:=q) (l:=l) (by rw [aW.out];omega));go_enter Tryz.func188,Tryz.ntmps188;go_wp2_with fail;refine Pt.out.mono ?_;rintro e w1 ⟨rfl,k1,rfl⟩;go_wp2_with fail;clear mL;go_loopw [22] (Xv w R T l q n) (fun i _=>n - (intOf i).toNat);(case atStart=>exact⟨0,Nat.zero_le _,rfl,rfl,HI.out.keep _ _ HR.out (below_drewN qqb k1),below_drewN qqb k1⟩);obtain⟨j,hj,rfl,aZ,U6,hb⟩:=hrel;by_cases hlt:j<n
 ·obtain⟨s,hs⟩:∃ z,l[j]? = some z:=⟨_,List.getElem?_eq_getElem (by rw [aW.out];exact hlt)⟩;obtain⟨x,hx⟩:∃ z,T[q+j]? = some z:=⟨_,List.getElem?_eq_getElem (by omega)⟩;obtain⟨b,off,A',n',c',rfl,_,ey,qF,hrd,_,_⟩:=uX (HL.out.keep (ag.any hb) (fun _ _=>nS.keep (ag.any hb))) hs;rw [CC hs hx]at aZ;have eU:=qqh aZ;have HB:=qqh hb;have tH:=qqh (HS.out s (List.mem_of_getElem? hs));have mR:=HI.out.mr wr U6;have lV:=qqh (HI.out.rune wr (q+j) x U6 hx);have Br:=qqh U6;have pJ:=qqh hrd;clear hs hx aZ hb hrd U6;go_wp2_with fail;refine lV.out.mono ?_;rintro e w2 ⟨rfl,k2,rfl⟩;have bL:=qqh (below_drewN HB.out k2);have Y1:=qqh (rO A' n' c' s x (wr.drewN k2) tH.out pJ.out);clear lV pJ;go_wp2_with fail;refine Y1.out.mono ?_;rintro e w3 ⟨rfl,bP⟩;have bM:=qqh (bL.out.trans (bP.mono bL.out.size));have pO:=qqh (HI.out.keep _ _ Br.out ((below_drewN (Below.refl wr.heap.size wr) k2).trans bP));clear bP Y1;cases hh:aO s x
  ·have xM:=qqh (HP.out.trans (eU.out.trans (by rw [hh,Bool.false_and])));clear hh;go_wp2_with fail;go_ret;exact⟨bH xM.out.symm,bM.out⟩
  have xM:=qqh (eU.out.trans (by rw [hh,Bool.true_and]));clear hh;go_wp2_with fail;exact⟨⟨j+1,by omega,by go_num,xM.out,pO.out,bM.out⟩,by simp [intOf];omega⟩
 obtain rfl:j=n:=(by omega);rw [show l.drop j = [] from List.drop_of_length_le (by rw [aW.out];exact qql)]at aZ;have eU:=qqh (HP.out.trans (aZ.trans (show mT [] (T.drop (q+j))=true from rfl)));have HB:=qqh hb;clear aZ hb U6;go_wp2_with fail;go_ret;exact⟨bH eU.out.symm,HB.out⟩
def dJ (l:List aB):List Int:=l.flatMap fun r=>eT (bI r)
def bf (l:List aB):List Int:=(dJ l).foldl oS [0]
theorem fh (l:List aB) (x:Int):x∈bf l↔x=0∨(x∈dJ l∧x≤1114111):=by
 unfold bf;rw [tf];simp
theorem kL (l:List aB):(bf l).Pairwise (· < ·):=qX _ _ (by simp)
theorem EN {l:List aB} (h:∀ x∈l,aH (bI x)):(dJ l).length≤400*l.length:=by
 induction l with
 | nil=>simp [dJ]
 | cons x l ih=>
  have h1:=ih (fun y hy=>h y (by simp [hy]));have h2:=(h x (by simp)).size;unfold dJ at h1 ⊢;rw [List.flatMap_cons,List.length_append,FP,List.length_cons];omega
theorem kF {l:List aB} (h:∀ x∈l,aH (bI x)):∀ e∈dJ l,0≤e∧e≤1114112:=by
 intro e he;unfold dJ at he;obtain⟨r,hr,he⟩:=List.mem_flatMap.1 he;unfold eT at he;obtain⟨x,hx,he⟩:=List.mem_flatMap.1 he;have:=(h r hr).each x hx;simp at he;omega
def uM (acc:List bB) (h:Int):List bB:=match acc.getLast? with | some x=>acc.dropLast++[{ x with high:=h }] | none=>[]
def oL (acc:List bB) (b:List Int):Bool:=match acc.getLast? with | some x=>x.rules == b | none=>false
def vV (acc:List bB) (low high:Int) (b:List Int):List bB:=if oL acc b=true then uM acc high else acc++[⟨low,high,b⟩]
def bu (l:List aB) (E:List Int):Nat→List bB
  | 0=>[]
  | j+1=>match E[j]? with | some a=>vV (bu l E j) a (dh E j) (cE l a) | none=>bu l E j
def jI (l:List aB) (E:List Int):List bB:=bu l E E.length
theorem mX (acc:List bB) (x:bB) (h:Int):uM (acc++[x]) h=acc++[{ x with high:=h }]:=by
 simp [uM]
theorem kO (acc:List bB) (x:bB) (b:List Int):oL (acc++[x]) b=(x.rules == b):=by simp [oL]
theorem iP {l:List aB} {E:List Int} {j:Nat} {a:Int} (h:E[j]? = some a):bu l E (j+1)=vV (bu l E j) a (dh E j) (cE l a):=by
 rw [bu,h]
theorem gZ (l:List aB) (E:List Int):∀ j,(bu l E j).length≤j:=by
 intro j;induction j with
 | zero=>simp [bu]
 | succ j ih=>
  rw [bu];split
  ·unfold vV;split
   ·rcases List.eq_nil_or_concat (bu l E j)with e | ⟨i,x,e⟩
    ·rw [e];simp [uM]
    rw [e]at ih ⊢;rw [List.concat_eq_append]at ih ⊢;rw [mX];simp at ih ⊢;omega
   simp;omega
  omega
structure fS (l:List aB) (acc:List bB) (lo:Int):Prop where
  start:∀ x,acc[0]? = some x→x.low=0
  next:∀ i x y,acc[i]? = some x→acc[i+1]? = some y→y.low=x.high+1∧x.rules≠y.rules
  each:∀ x∈acc,x.low≤x.high∧∀ r,x.low≤r→r≤x.high→cE l r=x.rules
  fin:∀ x,acc.getLast? = some x→x.high+1=lo
  none:acc = []→lo=0
theorem fS.nil (l:List aB):fS l [] 0:=⟨by simp,by simp,by simp,by simp,fun _=>rfl⟩
theorem fS.step {l:List aB} {acc:List bB} {lo hi:Int} (h:fS l acc lo) (hlh:lo≤hi) (hb:∀ r,lo≤r→r≤hi→cE l r=cE l lo):fS l (vV acc lo hi (cE l lo)) (hi+1):=by
 unfold vV;rcases List.eq_nil_or_concat acc with rfl | ⟨i,x,rfl⟩
 ·rw [if_neg (by simp [oL])];have h0:=h.none rfl;refine⟨?_,?_,?_,?_,?_⟩
  ·intro x hx;simp at hx;subst hx;exact h0
  ·intro k x y hx hy;have:=(List.getElem?_eq_some_iff.1 hy).1;simp at this
  ·intro x hx;simp at hx;subst hx;exact⟨hlh,hb⟩
  ·intro x hx;simp at hx;subst hx;rfl
  intro e;simp at e
 rw [List.concat_eq_append]at h ⊢;have Qq:x.high+1=lo:=h.fin x (by simp);have hx:=h.each x (by simp);rw [kO];by_cases he:x.rules=cE l lo
 ·rw [if_pos (by rw [beq_iff_eq];exact he),mX];refine⟨?_,?_,?_,?_,?_⟩
  ·intro y hy;cases i with
   | nil=>simp at hy;subst hy;exact h.start x (by simp)
   | cons z i=>simp at hy;subst hy;exact h.start z (by simp)
  ·intro k y z hy hz;have hk:k+1<(i++[x]).length:=(by have:=(List.getElem?_eq_some_iff.1 hz).1;simpa using this);simp at hk;rw [List.getElem?_append_left (by omega)]at hy;rcases Nat.lt_or_ge (k+1) i.length with hlt | hge
   ·rw [List.getElem?_append_left hlt]at hz;exact h.next k y z (by rw [List.getElem?_append_left (by omega)];exact hy) (by rw [List.getElem?_append_left hlt];exact hz)
   rw [List.getElem?_append_right hge,show k+1 - i.length=0 by omega]at hz;simp at hz;subst hz;have:=h.next k y x (by rw [List.getElem?_append_left (by omega)];exact hy) (by rw [List.getElem?_append_right hge,show k+1 - i.length=0 by omega];rfl);exact this
  ·intro y hy;rcases List.mem_append.1 hy with hy | hy;exact h.each y (by simp [hy]);simp at hy;subst hy;refine⟨show x.low≤hi by omega,fun r h1 h2=>?_⟩;show cE l r=x.rules;rcases Int.lt_or_le r lo with h3 | h3;exact hx.2 r h1 (by omega);rw [he];exact hb r h3 h2
  ·intro y hy;simp at hy;subst hy;rfl
  intro e;simp at e
 rw [if_neg (by rw [beq_iff_eq];exact he)];refine⟨?_,?_,?_,?_,?_⟩
 ·intro y hy;rw [List.getElem?_append_left (by simp)]at hy;exact h.start y hy
 ·intro k y z hy hz;have hk:k+1<((i++[x])++[(⟨lo,hi,cE l lo⟩:bB)]).length:=(List.getElem?_eq_some_iff.1 hz).1;rw [List.length_append,List.length_singleton]at hk;rw [List.getElem?_append_left (by omega)]at hy;rcases Nat.lt_or_ge (k+1) (i++[x]).length with hlt | hge
  ·rw [List.getElem?_append_left hlt]at hz;exact h.next k y z hy hz
  rw [List.getElem?_append_right hge,show k+1 - (i++[x]).length=0 by omega]at hz;simp at hz;subst hz;have hkk:k=i.length:=(by simp at hk hge;omega);rw [hkk]at hy;simp at hy;subst hy;exact⟨Qq.symm,he⟩
 ·intro y hy;rcases List.mem_append.1 hy with hy | hy;exact h.each y hy;simp at hy;subst hy;exact⟨hlh,hb⟩
 ·intro y hy;simp at hy;subst hy;rfl
 intro e;simp at e
theorem Al {l:List aB} {a r:Int} (On:a≤r) (h:∀ e∈dJ l,¬(a<e∧e≤r)):cE l r=cE l a:=by
 have hm:∀ i,uv l r i=uv l a i:=by
  intro i;unfold uv;cases hi:l[i]? with
  | none=>rfl
  | some x=>
   refine wV On (fun e he=>h e ?_);unfold dJ;exact List.mem_flatMap.2 ⟨x,List.mem_of_getElem? hi,he⟩
 unfold cE cY;rw [show uv l r=uv l a from funext hm]
theorem Ny {l:List aB} {j:Nat} {a:Int} (hj:(bf l)[j]? = some a):∀ r,a≤r→r≤dh (bf l) j→∀ e∈dJ l,¬(a<e∧e≤r):=by
 intro r h1 h2 e he ⟨h3,h4⟩;have Dk:=kL l;by_cases hm:e≤1114111
 ·obtain⟨k,hk⟩:=List.mem_iff_getElem?.1 ((fh l e).2 (.inr ⟨he,hm⟩));have hjk:j<k:=by
   rcases Nat.lt_or_ge j k with h | h;exact h;rcases Nat.lt_or_ge k j with h' | h'
   ·have:=j5 Dk hk hj h';omega
   obtain rfl:j=k:=(by omega);rw [hk]at hj;injection hj;omega
  obtain⟨y,hy⟩:∃ y,(bf l)[j+1]? = some y:=⟨_,List.getElem?_eq_getElem (by have:=(List.getElem?_eq_some_iff.1 hk).1;omega)⟩;unfold dh at h2;rw [hy]at h2;simp only at h2;rcases Nat.lt_or_ge (j+1) k with h | h
  ·have:=j5 Dk hy hk h;omega
  obtain rfl:k=j+1:=(by omega);rw [hy]at hk;injection hk;omega
 unfold dh at h2;split at h2
 ·rename_i y hy;have:=(fh l y).1 (List.mem_of_getElem? hy);omega
 omega
theorem Fb {l:List aB} (h:∀ x∈l,aH (bI x)):(bf l)[0]? = some 0:=by
 obtain⟨k,hk⟩:=List.mem_iff_getElem?.1 ((fh l 0).2 (.inl rfl));obtain⟨y,hy⟩:∃ y,(bf l)[0]? = some y:=⟨_,List.getElem?_eq_getElem (by have:=(List.getElem?_eq_some_iff.1 hk).1;omega)⟩;have h0:0≤y:=by
  rcases (fh l y).1 (List.mem_of_getElem? hy)with rfl | ⟨h1,_⟩;exact Int.le_refl _;exact(kF h y h1).1
 rcases Nat.eq_zero_or_pos k with rfl | hk0;exact hk;have:=j5 (kL l) hy hk hk0;omega
theorem EB {l:List aB} (h:∀ x∈l,aH (bI x)):∀ j,j≤(bf l).length→fS l (bu l (bf l) j) ((bf l)[j]?.getD 1114112):=by
 intro j;induction j with
 | zero=>intro _;rw [Fb h];exact fS.nil l
 | succ j ih=>
  intro hj;have h1:=ih (by omega);have hj2:j<(bf l).length:=(by omega);have KZ:=List.getElem?_eq_getElem hj2;rw [KZ]at h1;rw [iP KZ];have hg:(bf l)[j+1]?.getD 1114112=dh (bf l) j+1:=by
   unfold dh;cases (bf l)[j+1]? with
   | none=>rfl
   | some y=>simp
  rw [hg];refine fS.step h1 ?_ (fun r h2 h3=>Al h2 (Ny KZ r h2 h3));unfold dh;split
  ·rename_i y hy;have:=j5 (kL l) KZ hy (Nat.lt_succ_self j);show(bf l)[j]≤y - 1;omega
  rcases (fh l _).1 (List.mem_of_getElem? KZ)with e | ⟨_,e⟩
  ·show(bf l)[j]≤1114111;rw [e];decide
  exact e
theorem J0 {l:List aB} (h:∀ x∈l,aH (bI x)):fS l (jI l (bf l)) 1114112:=by
 have:=EB h _ qql;rw [List.getElem?_eq_none qql]at this;exact this
def Xc (hs:List bB):Prop:=∀ (i j:Nat) (x y:bB),i≤j→hs[i]? = some x→hs[j]? = some y→x.high≤y.high
def foundAt (hs:List bB) (r:Int) (k:Nat):List Int:=match hs[k]? with | some x=>if r<x.low then []else x.rules | none=>[]
theorem fS.mQ {l:List aB} {hs:List bB} {lo:Int} (h:fS l hs lo):∀ (d i:Nat) (x y:bB),hs[i]? = some x→hs[i+d]? = some y→x.high≤y.high∧(0<d→x.high<y.low):=by
 intro d;induction d with
 | zero=>intro i x y hx hy;rw [Nat.add_zero,hx]at hy;cases hy;exact⟨Int.le_refl _,fun h=>absurd h (Nat.lt_irrefl 0)⟩
 | succ d ih=>
  intro i x y hx hy;obtain⟨z,hz⟩:∃ z,hs[i+d]? = some z:=⟨_,List.getElem?_eq_getElem (by have:=(List.getElem?_eq_some_iff.1 hy).1;omega)⟩;have h1:=ih i x z hx hz;have h2:=(h.next (i+d) z y hz hy).1;have h3:=(h.each y (List.mem_of_getElem? hy)).1;omega
theorem fS.Wk {l:List aB} {hs:List bB} {lo:Int} (h:fS l hs lo):Xc hs:=by
 intro i j x y hij hx hy;obtain⟨d,rfl⟩:∃ d,j=i+d:=⟨j - i,by omega⟩;exact(h.mQ d i x y hx hy).1
theorem fS.found {l:List aB} {hs:List bB} (h:fS l hs 1114112) {r:Int} {k:Nat} (h1:∀ t x,t<k→hs[t]? = some x→x.high<r) (h2:∀ t x,k≤t→hs[t]? = some x→r≤x.high) :
    (0≤r→r≤1114111→foundAt hs r k=cE l r)∧(r<0∨1114111<r→foundAt hs r k = []):=by
 have hne:hs ≠ []:=fun e=>absurd (h.none e) (by decide);have GK:∀ x,hs.getLast? = some x→x.high=1114111:=fun x hx=>(by have:=h.fin x hx;omega);have hlen:=List.length_pos_iff.2 hne;obtain⟨z,hz⟩:∃ z,hs[hs.length - 1]? = some z:=⟨_,List.getElem?_eq_getElem (by omega)⟩;have hzl:z.high=1114111:=GK z (by rw [List.getLast?_eq_getElem?];exact hz);have rz:∀ (k:Nat) (x:bB),hs[k]? = some x→0≤x.low∧x.high≤1114111:=by
  intro k x hx;obtain⟨x0,hx0⟩:∃ z,hs[0]? = some z:=⟨_,List.getElem?_eq_getElem (by omega)⟩;have h0:=h.start x0 hx0;have TQ:=(h.each x0 (List.mem_of_getElem? hx0)).1;have hk:=(List.getElem?_eq_some_iff.1 hx).1;have ha:=h.mQ k 0 x0 x hx0 (by rw [Nat.zero_add];exact hx);have hb:=h.mQ (hs.length - 1 - k) k x z hx (by rw [show k+(hs.length - 1 - k)=hs.length - 1 by omega];exact hz);refine⟨?_,by omega⟩;rcases Nat.eq_zero_or_pos k with rfl | hk0
  ·rw [hx0]at hx;cases hx;omega
  have:=ha.2 hk0;omega
 refine⟨fun Ql Qn=>?_,fun hr=>?_⟩
 ·have hk:k<hs.length:=by
   rcases Nat.lt_or_ge k hs.length with hlt | hge;exact hlt;have:=h1 (hs.length - 1) z (by omega) hz;omega
  obtain⟨x,hx⟩:∃ z,hs[k]? = some z:=⟨_,List.getElem?_eq_getElem hk⟩;have yy:=h2 k x qql hx;have Y7:x.low≤r:=by
   cases k with
   | zero=>rw [h.start x hx];exact Ql
   | succ k=>
    obtain⟨y,hy⟩:∃ z,hs[k]? = some z:=⟨_,List.getElem?_eq_getElem (by omega)⟩;have:=(h.next k y x hy hx).1;have:=h1 k y (by omega) hy;omega
  unfold foundAt;rw [hx];simp only;rw [if_neg (by omega)];exact((h.each x (List.mem_of_getElem? hx)).2 r Y7 yy).symm
 unfold foundAt;cases hx:hs[k]? with
 | none=>rfl
 | some x=>
  have h3:=rz k x hx;have h4:=h2 k x qql hx;simp only;rw [if_pos (by omega)]
theorem Ic (l:List aB) (r:Int):(cE l r).length≤l.length:=y8 l r _
theorem fS.head {l:List aB} {hs:List bB} (h:fS l hs 1114112) {r:Int} {k:Nat} (h1:∀ t x,t<k→hs[t]? = some x→x.high<r) (h2:∀ t x,k≤t→hs[t]? = some x→r≤x.high) (h0:0≤r) (hm:r≤1114111) :
    ∃ x,hs[k]? = some x∧x.rules=cE l r:=by
 have hne:hs ≠ []:=fun e=>absurd (h.none e) (by decide);have hlen:=List.length_pos_iff.2 hne;obtain⟨z,hz⟩:∃ z,hs[hs.length - 1]? = some z:=⟨_,List.getElem?_eq_getElem (by omega)⟩;have hzl:=h.fin z (by rw [List.getLast?_eq_getElem?];exact hz);have hk:k<hs.length:=by
  rcases Nat.lt_or_ge k hs.length with hlt | hge;exact hlt;have:=h1 (hs.length - 1) z (by omega) hz;omega
 obtain⟨x,hx⟩:∃ z,hs[k]? = some z:=⟨_,List.getElem?_eq_getElem hk⟩;have hf:=(h.found h1 h2).1 h0 hm;have yy:=h2 k x qql hx;have Y7:x.low≤r:=by
  cases k with
  | zero=>rw [h.start x hx];exact h0
  | succ k=>
   obtain⟨y,hy⟩:∃ z,hs[k]? = some z:=⟨_,List.getElem?_eq_getElem (by omega)⟩;have:=(h.next k y x hy hx).1;have:=h1 k y (by omega) hy;omega
 exact⟨x,hx,((h.each x (List.mem_of_getElem? hx)).2 r Y7 yy).symm⟩
def iB (l:List aB):List bB × (Int × Int) :=
  if (eC l).1≠0 then ([],eC l)else if 400<(jI l (bf l)).length then ([],(5,0))else (jI l (bf l),(0,0))
theorem GW {l:List aB} (h:(iB l).2.1=0):(iB l).1=jI l (bf l)∧wu l∧(iB l).1.length≤400:=by
 unfold iB at h ⊢;by_cases h1:(eC l).1=0
 ·rw [if_neg (by rw [h1];decide)]at h ⊢;by_cases h2:400<(jI l (bf l)).length
  ·rw [if_pos h2]at h;cases h
  rw [if_neg h2];exact⟨rfl,nJ h1,by show(jI l (bf l)).length≤400;omega⟩
 rw [if_pos h1]at h;exact absurd h h1
theorem Gk {l:List aB} (h:(iB l).2.1=0):fS l (iB l).1 1114112:=by
 obtain⟨h1,h2,_⟩:=GW h;rw [h1];exact J0 h2.set
def dB (lo:Nat) (w:World) (v:Value) (hs:List bB):Prop:=dy (hJ w (gY lo w)) 219 3 w lo v hs
theorem gY.keeps {lo:Nat} {w w':World} (h:∀ b,gY lo w b→b<w.heap.size→w'.heap[b]? = w.heap[b]?) (hs:w.heap.size≤w'.heap.size):ag w (gY lo w) w' (gY lo w'):=by
 intro b hb hl;have he:=h b hb hl;refine⟨he,⟨hb.1,?_⟩,Nat.lt_of_lt_of_le hl hs⟩;obtain⟨cs,fz,hc⟩:=hb.2;exact⟨cs,fz,he.trans hc⟩
theorem gY.below {lo:Nat} {w w':World} (hb:Below w.heap.size w w'):ag w (gY lo w) w' (gY lo w'):=gY.keeps (fun b _ hl=>hb.block b hl) hb.size
theorem dB.nil (lo:Nat) (w:World):dB lo w (.slice none 0 0) []:=dy.nil _ _
theorem dB.below {lo:Nat} {w w':World} {v:Value} {hs:List bB} (h:dB lo w v hs) (hb:Below w.heap.size w w'):dB lo w' v hs :=
  dy.kept (fun _ _ ho=>dF ho hb) (fun _ _=>hJ.keep (gY.below hb)) h
theorem dB.form {lo:Nat} {w:World} {v:Value} {hs:List bB} (h:dB lo w v hs):∃ A c,v=.slice A hs.length c∧hs.length≤c:=dy.form h
theorem Cg:(219 : TypeId) ≠ 3:=by decide
theorem gY.ne {lo:Nat} {w:World} {v:Value} {n:Nat} {xs:List Value} (h:w.ownsRow lo 219 3 v n xs) {b:Nat} (hb:gY lo w b):v.ownBlock≠some b:=by
 obtain⟨cs,fz,hc⟩:=hb.2;rcases h.2 with ⟨rfl,_⟩ | ⟨g,cap,cur,rfl,_,hg,_⟩
 ·simp [Value.ownBlock]
 simp only [Value.ownBlock,ne_eq,Option.some.injEq];rintro rfl;rw [hc]at hg;injection hg with hg;injection hg with _ ht;exact Cg ht.symm
theorem mo.form {w:World} {X:Nat→Prop} {l:List Int} {u:Value} (h:mo w X l u):∃ A c,u=.slice A l.length c∧xZ w w.heap.size A l.length l∧cV w X 1 A l.length (intCells l)∧l.length≤maxLen:=by
 obtain⟨A,n,c,rfl,h1,h2⟩:=h;obtain rfl:l.length=n:=(mo.len ⟨A,n,c,rfl,h1,h2⟩).1;exact⟨A,c,rfl,h1.of,h1,h2⟩
theorem dB.push {lo n:Nat} {w w':World} {v v':Value} {hs:List bB} {css:List (List Value)} {low high:Int} {b:List Int} {u:Value}
    (h1:css.length=hs.length) (h2:∀ (i:Nat) (a:bB) (cs:List Value),hs[i]? = some a→css[i]? = some cs→hJ w (gY lo w) a cs) (h3:∀ cs∈css,cs.length=3)
    (h4:w.ownsRow lo 219 3 v hs.length css.flatten) (hu:mo w (gY lo w) b u) (hlo:lo≤w.heap.size) (hn:n=hs.length+1)
    (ak:aP lo 219 3 v w n (css.flatten++[.int .i32 low,.int .i32 high,u]) v' w'):dB lo w' v' (hs++[⟨low,high,b⟩])∧Below lo w w':=by
 subst hn;have hk:ag w (gY lo w) w' (gY lo w'):=gY.keeps (fun x hx hl=>ak.2.1.block x hl (fun e=>gY.ne h4 hx e.symm)) ak.2.1.size;exact⟨dy.push h1 h2 h3 (fun _ _=>hJ.keep hk) ⟨u,rfl,hu.keep hk⟩ rfl ak,ak.below hlo h4⟩
theorem dB.ready {lo:Nat} {w:World} {v:Value} {hs:List bB} (h:dB lo w v hs) {b:List Int} {u:Value} {lo':Nat} (hu:mo w (gY lo' w) b u) (hlo:lo≤w.heap.size) (aaN:lo≤lo') (low high:Int) :
    ∃ xs:List Value,(w.alloc (.cells #[.int .i32 low,.int .i32 high,u] 219)).ownsRow lo 219 3 v hs.length xs ∧
      ∀ v' w' n,n=hs.length+1→aP lo 219 3 v (w.alloc (.cells #[.int .i32 low,.int .i32 high,u] 219)) n (xs++[.int .i32 low,.int .i32 high,u]) v' w'→dB lo w' v' (hs++[⟨low,high,b⟩])∧Below lo w w':=by
 obtain⟨css,h1,h2,h3,h4⟩:=h;have fq:=(Below.refl w.heap.size w).alloc qql (.cells #[.int .i32 low,.int .i32 high,u] 219);refine⟨css.flatten,World.ownsRow.alloc h4 _,fun v' w' n hn ak=>?_⟩
 have Py:mo (w.alloc (.cells #[.int .i32 low,.int .i32 high,u] 219)) (gY lo (w.alloc (.cells #[.int .i32 low,.int .i32 high,u] 219))) b u :=
   (hu.keep (ag.refl (X':=gY lo w) (fun _ h=>⟨Nat.le_trans aaN h.1,h.2⟩))).keep (gY.below fq)
 have:=dB.push h1 (fun i a cs ha hc=>hJ.keep (gY.below fq) (h2 i a cs ha hc)) h3 (World.ownsRow.alloc h4 _) Py (by simp;omega) hn ak;exact⟨this.1,(fq.mono hlo).trans this.2⟩
theorem IA {css:List (List Value)} (h:∀ cs∈css,cs.length=3) (a b c b':Value):(css++[[a,b,c]]).flatten.set (css.length*3+1) b'=(css++[[a,b',c]]).flatten:=by
 have hl:css.flatten.length=css.length*3:=by
  clear a b c b';induction css with
  | nil=>rfl
  | cons x css ih=>
   have:=h x (by simp);have:=ih (fun y hy=>h y (by simp [hy]));rw [List.flatten_cons,List.length_append,List.length_cons];omega
 rw [List.flatten_append,List.flatten_append,← hl,List.set_append_right _ _ (by omega),show css.flatten.length+1 - css.flatten.length=1 by omega];rfl
theorem dB.OQ {lo g n c:Nat} {w:World} {i:List bB} {x:bB} (h:dB lo w (.slice (some ⟨g,0,none⟩) n c) (i++[x])) (y:Int) :
    dB lo (w.setCell ⟨g,i.length*3+1,none⟩ (.int .i32 y)) (.slice (some ⟨g,0,none⟩) n c) (i++[{ x with high:=y }])∧Below lo w (w.setCell ⟨g,i.length*3+1,none⟩ (.int .i32 y)):=by
 obtain⟨css,h1,h2,h3,h4⟩:=h;obtain⟨A',c',e,_⟩:=aJ h4;cases e;have hlo:lo≤g:=(bk h4 rfl).1;refine⟨?_,qqb.setCell hlo _⟩;rcases List.eq_nil_or_concat css with rfl | ⟨cs,z,rfl⟩
 ·simp at h1
 rw [List.concat_eq_append]at h1 h2 h3 h4;have FX:cs.length=i.length:=(by simpa using h1);obtain⟨u,rfl,hu⟩:=h2 i.length x z (by simp) (by rw [← FX];simp);have hst:=h4.stored (i.length*3+1) (.int .i32 y);rw [← FX,IA (fun q hq=>h3 q (by simp [hq]))]at hst;rw [← FX]
 have hk:ag w (gY lo w) (w.setCell ⟨g,cs.length*3+1,none⟩ (.int .i32 y)) (gY lo (w.setCell ⟨g,cs.length*3+1,none⟩ (.int .i32 y))) :=
   gY.keeps (fun b hb hl=>hst.2.block b hl (fun e=>gY.ne h4 hb e.symm)) (by simp)
 refine⟨cs++[[.int .i32 x.low,.int .i32 y,u]],by simp [FX],?_,?_,?_⟩
 ·intro k a ks ha hks;rcases Nat.lt_or_ge k i.length with hlt | hge
  ·rw [List.getElem?_append_left hlt]at ha;rw [List.getElem?_append_left (by omega)]at hks;exact hJ.keep hk (h2 k a ks (by rw [List.getElem?_append_left hlt];exact ha) (by rw [List.getElem?_append_left (by omega)];exact hks))
  rw [List.getElem?_append_right hge]at ha;rw [List.getElem?_append_right (by omega),FX]at hks;have hk0:k - i.length=0:=by
   have:=(List.getElem?_eq_some_iff.1 ha).1;simp at this;omega
  rw [hk0]at ha hks;simp at ha hks;subst ha hks;exact⟨u,rfl,hu.keep hk⟩
 ·intro ks hks;rcases List.mem_append.1 hks with hks | hks;exact h3 ks (by simp [hks]);simp at hks;subst hks;rfl
 have:=hst.1;simpa using this
theorem dB.last {lo:Nat} {w:World} {v:Value} {i:List bB} {x:bB} (h:dB lo w v (i++[x])) :
    ∃ (g c:Nat) (A':Option Addr) (c':Nat),v=.slice (some ⟨g,0,none⟩) (i.length+1) c∧i.length+1≤c∧lo≤g∧g<w.heap.size ∧
      w.cell? ⟨g,i.length*3+1,none⟩=some (.int .i32 x.high)∧w.frozen? ⟨g,i.length*3+1,none⟩=false∧w.cell? ⟨g,i.length*3+2,none⟩=some (.slice A' x.rules.length c')∧xZ w w.heap.size A' x.rules.length x.rules∧x.rules.length≤maxLen:=by
 obtain⟨css,h1,h2,h3,h4⟩:=h;have hlen:(i++[x]).length=i.length+1:=(by simp);rw [hlen]at h4 h1;obtain⟨g,c,rfl,hc,hg,Qd⟩:=mz h4 (by omega);obtain⟨cs,hcs⟩:∃ cs,css[i.length]? = some cs:=⟨_,List.getElem?_eq_getElem (by omega)⟩;obtain⟨u,rfl,hu⟩:=h2 i.length x cs (by simp) hcs;obtain⟨A',c',rfl,hr,_,hrl⟩:=hu.form;refine⟨g,c,A',c',rfl,hc,hg,Qd,?_,h4.frozenAt _,?_,hr,hrl⟩
 ·rw [h4.cellAt _ (by omega)];exact dV h3 _ _ hcs 1 _ rfl
 rw [h4.cellAt _ (by omega)];exact dV h3 _ _ hcs 2 _ rfl
theorem dB.done {lo:Nat} {w:World} {v:Value} {hs:List bB} (h:dB lo w v hs) (hl:hs.length≤maxLen):qp w (fun b=>lo≤b) hs v:=by
 obtain⟨A,c,rfl,_⟩:=h.form;refine⟨A,_,c,rfl,?_,hl⟩;obtain⟨css,h1,h2,h3,h4⟩:=h;exact⟨css,rfl,h1,fun i a cs ha hc=>hJ.keep (ag.refl (fun _ h=>h.1)) (h2 i a cs ha hc),h3,cV.cC h4 (fun b hb=>(bk h4 hb).1)⟩
theorem qp.form {w:World} {X:Nat→Prop} {hs:List bB} {u:Value} (h:qp w X hs u):∃ A c,u=.slice A hs.length c∧ck (hJ w X) w X 3 A hs.length hs∧hs.length≤maxLen:=by
 obtain⟨A,n,c,rfl,h1,h2⟩:=h;obtain rfl:hs.length=n:=h1.len;exact⟨A,c,rfl,h1,h2⟩
theorem Hx {w:World} {X:Nat→Prop} {A:Option Addr} {n:Nat} {l:List bB} (h:ck (hJ w X) w X 3 A n l) {k:Nat} {x:bB} (hk:l[k]? = some x) :
    ∃ (b off:Nat) (A':Option Addr) (c':Nat),A=some ⟨b,off,none⟩∧X b∧b<w.heap.size∧w.cell? ⟨b,off+k*3,none⟩=some (.int .i32 x.low)∧w.cell? ⟨b,off+k*3+1,none⟩=some (.int .i32 x.high) ∧
      w.cell? ⟨b,off+k*3+2,none⟩=some (.slice A' x.rules.length c')∧xZ w w.heap.size A' x.rules.length x.rules∧cV w X 1 A' x.rules.length (intCells x.rules)∧x.rules.length≤maxLen:=by
 obtain⟨b,off,cs,e,hx,hb,⟨u,rfl,hu⟩,_,hc⟩:=h.at hk;obtain⟨A',c',rfl,h1,h2,h3⟩:=hu.form;exact⟨b,off,A',c',e,hx,hb,hc 0 _ rfl,hc 1 _ rfl,hc 2 _ rfl,h1,h2,h3⟩
theorem LR:(Tryz.prog.info? 219).map (fun i=>(i.zero,i.size,i.bytes))=some (some (.agg #[.int .i32 0,.int .i32 0,.slice none 0 0]),3,32):=by kernel_rfl
end Go.Proofs.YtblinekbpcdbfaaGreatDoor
