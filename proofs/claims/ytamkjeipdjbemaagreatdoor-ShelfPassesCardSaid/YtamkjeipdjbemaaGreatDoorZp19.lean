import Derived.Test.YtamkjeipdjbemaaGreatDoorZp17
import Derived.Shelf.Abstract
import Derived.Deep.DeepCutAuto
import Derived.Deep.CutBlock
import Derived.Test.YtamkjeipdjbemaaGreatDoorZp13
set_option maxHeartbeats 1600000
set_option maxRecDepth 100000
namespace Go.Proofs.YtamkjeipdjbemaaGreatDoor
open Go.RowKit
theorem ur (g:Nat) (cb:Array Value) (n:Nat) (p:Nat→Bool) (w:World) (eg:∀ args w,(callFunc g args).run Tryz.prog w=.ok (.enter g args) w) (hsz:n<4611686018427387904)
    (hf:∀ (w':World) (i:Nat),Below w.heap.size w w'→i<n→Calls Tryz.prog g (#[.int .i64 i]++cb) w' fun e w2=>e=.returned (.bool (p i))∧Below w'.heap.size w' w2)
    (hmono:∀ a b,a≤b→b<n→p a=true→p b=true) :
    Calls Tryz.prog 46 #[.int .i64 n,.func (.func g) #[] cb] w fun e w'=>∃ k:Nat,e=.returned (.int .i64 k)∧k≤n∧(∀ t,t<k→p t=false)∧(∀ t,k≤t→t<n→p t=true)∧Below w.heap.size w w':=by
 have HF:=qqh hf;have M:=qqh hmono;clear hf hmono;go_enter Tryz.func46,Tryz.ntmps46;go_wp2_with fail;go_loopw [5,6] (fun s5 s6 wr=>∃ lo hi:Nat,s5=.int .i64 lo∧s6=.int .i64 hi∧lo≤hi∧hi≤n∧Below w.heap.size w wr∧(∀ t,t<lo→p t=false)∧(∀ t,hi≤t→t<n→p t=true)) (fun s5 s6 _=>(intOf s6).toNat - (intOf s5).toNat);(case atStart=>exact⟨0,n,rfl,rfl,Nat.zero_le _,qql,qqb,fun t ht=>absurd ht (Nat.not_lt_zero _),fun t h1 h2=>by omega⟩);obtain⟨lo,hi,rfl,rfl,hlh,hin,hb,h1,h2⟩:=hrel;have HL:=qqh h1;have HH:=qqh h2;clear h1 h2;by_cases hlt:lo<hi
 ·have hc:=HF.out wr ((lo+hi) / 2) hb (by omega);rw [show(((lo+hi) / 2:Nat):Int)=((lo:Int)+(hi:Int)) / 2 by omega]at hc;cases hp:p ((lo+hi) / 2) <;> rw [hp]at hc
  ·have HP:=qqh hp;have HC:=qqh hc;clear hp hc;go_wp2_with (go_at_fn g;refine HC.out.mono ?_;rintro e w' ⟨rfl,hb'⟩);refine⟨⟨(lo+hi) / 2+1,hi,by rw [show((lo:Int)+(hi:Int)) / 2+1=(((lo+hi) / 2+1:Nat):Int) by omega],rfl,by omega,hin,hb.trans (hb'.mono hb.size),fun t ht=>?_,HH.out⟩,by simp [intOf];omega⟩;cases h:p t with
   | false=>rfl
   | true=>
    have:=M.out t ((lo+hi) / 2) (by omega) (by omega) h;rw [HP.out]at this;cases this
  have HP:=qqh hp;have HC:=qqh hc;clear hp hc;go_wp2_with (go_at_fn g;refine HC.out.mono ?_;rintro e w' ⟨rfl,hb'⟩);exact⟨⟨lo,(lo+hi) / 2,rfl,by rw [show((lo:Int)+(hi:Int)) / 2=(((lo+hi) / 2:Nat):Int) by omega],by omega,by omega,hb.trans (hb'.mono hb.size),HL.out,fun t ht htn=>M.out _ t ht htn HP.out⟩,by simp [intOf];omega⟩
 obtain rfl:hi=lo:=(by omega);go_wp2_with fail;go_ret;exact⟨_,rfl,hin,HL.out,HH.out,hb⟩
theorem DZ (ga gr blk off n c i:Nat) (r y:Int) (w:World) (hi:i<n) (ha:w.cell? ⟨ga,0,none⟩=some (.slice (some ⟨blk,off,none⟩) n c)) (hr:w.cell? ⟨gr,0,none⟩=some (.int .i32 r)) (hc:w.cell? ⟨blk,off+i*2+1,none⟩=some (.int .i32 y)) :
    Calls Tryz.prog 47 (#[.int .i64 i] ++ #[.pointer (some ⟨ga,0,none⟩),.pointer (some ⟨gr,0,none⟩)]) w fun e w'=>e=.returned (.bool (decide (r≤y)))∧Below w.heap.size w w':=by
 have hiz:(i:Int)<(n:Int):=(by omega);go_enter Tryz.func47,Tryz.ntmps47;go_wp2_with fail;go_quiet (fail);go_wp2_with fail;go_ret;exact⟨rfl,below_drewN qqb _⟩
theorem F5:∀ args w,(callFunc 47 args).run Tryz.prog w=.ok (.enter 47 args) w:=enters_of Tryz.func47 (by kernel_rfl) rfl
theorem xb (A:Option Addr) (n c:Nat) (s:ag) (r:Int) (w:World) (hs:aJ s) (hl:mA w w.heap.size A n s) :
    Calls Tryz.prog 18 #[.slice A n c,.int .i32 r] w fun e w'=>e=.returned (.bool (bB s r))∧Below w.heap.size w w':=by
 have aM:=qqh hl.len;have hn2:n≤200:=(by rw [← hl.len];exact hs.size);have HL:=qqh hl;have HS:=qqh hs;have cy:=qqh (((Below.refl w.heap.size w).alloc qql (.cells #[.slice A n c] 26)).alloc (by simp) (.cells #[.int .i32 r] 21));have HA:=qqh (an.alloc (an.new w 26 #[.slice A n c]) (.cells #[.int .i32 r] 21));have HR:=qqh (show an ((w.alloc (.cells #[.slice A n c] 26)).alloc (.cells #[.int .i32 r] 21)) (w.heap.size+1) 21 #[.int .i32 r] by
  have:=an.new (w.alloc (.cells #[.slice A n c] 26)) 21 #[.int .i32 r];simpa using this)
 have Oa:=qqh (ur 47 #[.pointer (some ⟨w.heap.size,0,none⟩),.pointer (some ⟨w.heap.size+1,0,none⟩)] n (fun i=>decide (r≤(s[i]?.getD (0,0)).2))
   ((w.alloc (.cells #[.slice A n c] 26)).alloc (.cells #[.int .i32 r] 21)) F5 (by omega)
   (fun w' i hb hi=>by
     obtain⟨z,hz⟩:∃ z,s[i]? = some z:=⟨_,List.getElem?_eq_getElem (by rw [aM.out];exact hi)⟩
     obtain⟨b,off,rfl,cK,_,c1⟩:=HL.out.at (x:=z.1) (y:=z.2) hz
     rw [hz]
     exact DZ w.heap.size (w.heap.size+1) b off n c i r z.2 w' hi ((an.below HA.out hb HA.out.lt).cell 0) ((an.below HR.out hb HR.out.lt).cell 0)
       (((cy.out.trans (hb.mono cy.out.size)).cell (p:=⟨b,off+i*2+1,none⟩) cK).trans c1))
   (fun a b hab hb h=>by
     obtain⟨x,hx⟩:∃ z,s[a]? = some z:=⟨_,List.getElem?_eq_getElem (by rw [aM.out];omega)⟩
     obtain⟨y,hy⟩:∃ z,s[b]? = some z:=⟨_,List.getElem?_eq_getElem (by rw [aM.out];omega)⟩
     simp only [hx,hy,Option.getD_some,decide_eq_true_eq]at h ⊢
     rcases Nat.lt_or_ge a b with hlt | hge
     · have:=HS.out.lt hx hy hlt
       have:=HS.out.each y (List.mem_of_getElem? hy)
       omega
     · obtain rfl:a=b:=by omega
       rw [hx]at hy
       cases hy
       exact h))
 clear hl hs;go_enter Tryz.func18,Tryz.ntmps18;go_wp2_with fail;refine Oa.out.mono ?_;rintro e w1 ⟨k,rfl,hk,h1,h2,hb⟩;have HH:=qqh (OF HS.out r (k:=k) (fun t x ht hx=>by
  have:=h1 t ht;rw [hx]at this;simpa using this) (fun t x ht hx=>by
  have:=h2 t ht (by rw [← aM.out];exact(List.getElem?_eq_some_iff.1 hx).1);rw [hx]at this;simpa using this))
 have a0:w1.cell? ⟨w.heap.size,0,none⟩=some (.slice A n c):=(an.below HA.out hb HA.out.lt).cell 0;have r0:w1.cell? ⟨w.heap.size+1,0,none⟩=some (.int .i32 r):=(an.below HR.out hb HR.out.lt).cell 0;have HB:=qqh (cy.out.trans (hb.mono cy.out.size));clear h1 h2 hb;by_cases hlt:k<n
 ·obtain⟨⟨x,y⟩,hx⟩:∃ z,s[k]? = some z:=⟨_,List.getElem?_eq_getElem (by rw [aM.out];exact hlt)⟩;obtain⟨b,off,rfl,cK,c0,_⟩:=HL.out.at hx;have d0:=(HB.out.cell (p:=⟨b,off+k*2,none⟩) cK).trans c0;have HE:=qqh (show bB s r=decide (x≤r) by rw [HH.out,hx]);have hlt2:decide ((k:Int)<(n:Int))=true:=decide_eq_true (by omega);clear hx c0;go_wp2_with fail;go_quiet (fail);go_wp2_with fail;go_ret;rw [HE.out];exact⟨rfl,below_drewN HB.out _⟩
 have HE:=qqh (show bB s r=false by rw [HH.out,List.getElem?_eq_none (by rw [aM.out];omega)]);have hlt2:decide ((k:Int)<(n:Int))=false:=decide_eq_false (by omega);go_wp2_with fail;go_quiet (fail);go_wp2_with fail;go_ret;rw [HE.out];exact⟨rfl,below_drewN HB.out _⟩
def bk (r:az):ag:=r.source.headD []
def rP (l:List az) (r:Int) (i:Nat):Bool:=match l[i]? with | some x=>bB (bk x) r | none=>false
def cR (l:List az) (r:Int) (k:Nat):List Int:=((List.range k).filter (rP l r)).map (fun i:Nat=>(i:Int))
def bJ (l:List az) (r:Int):List Int:=cR l r l.length
theorem qo {l:List az} {r:Int} {k:Nat} (h:rP l r k=true):cR l r (k+1)=cR l r k++[(k:Int)]:=by
 simp [cR,List.range_succ,List.filter_append,h]
theorem sH {l:List az} {r:Int} {k:Nat} (h:rP l r k=false):cR l r (k+1)=cR l r k:=by
 simp [cR,List.range_succ,List.filter_append,h]
theorem yx (l:List az) (r:Int) (k:Nat):(cR l r k).length≤k:=by
 unfold cR;rw [List.length_map];have:=List.length_filter_le (rP l r) (List.range k);simpa using this
structure qJ (l:List az):Prop where
  size:l.length≤200
  src:∀ x∈l,x.source ≠ []
  set:∀ x∈l,aJ (bk x)
theorem kC {l:List Int} (h:bX l=0):∀ x∈l,x=0:=by
 induction l with
 | nil=>simp
 | cons y l ih=>
  intro x hx;by_cases hy:y=0
  ·rw [iK _ hy]at h;rcases List.mem_cons.1 hx with rfl | hx;exact hy;exact ih h x hx
  rw [gw _ hy]at h;exact absurd h hy
theorem vN {r:az} (h:iA r=0):r.source ≠ []∧aJ (bk r):=by
 unfold iA at h;by_cases h0:bX ((cC r).map gM)=0
 ·rw [if_neg (by rw [h0];decide)]at h;have hne:r.source ≠ []:=by
   intro e;rw [jQ,e,if_pos (show([]:List ag).length=0 from rfl)]at h;cases h
  refine⟨hne,?_⟩;have hs:=kC h0 (gM r.source) (by simp [cC]);unfold gM at hs;by_cases h20:20<r.source.length
  ·rw [if_pos h20]at hs;cases hs
  rw [if_neg h20]at hs;apply oU;refine kC hs _ (List.mem_map.2 ⟨bk r,?_,rfl⟩);unfold bk;cases hr:r.source with
  | nil=>exact absurd hr hne
  | cons a t=>simp
 rw [if_pos h0]at h;exact absurd h h0
theorem r9:∀ (l:List az) (i:Nat),(iR i l).1=0→∀ x∈l,iA x=0:=by
 intro l;induction l with
 | nil=>intro i _ x hx;cases hx
 | cons y l ih=>
  intro i h x hx;rw [iR]at h;by_cases hy:iA y=0
  ·rw [if_neg (by rw [hy];decide)]at h;rcases List.mem_cons.1 hx with rfl | hx;exact hy;exact ih _ h x hx
  rw [if_pos hy]at h;exact absurd h hy
theorem jJ {l:List az} (h:(bZ l).1=0):qJ l:=by
 unfold bZ at h;by_cases h2:200<l.length
 ·rw [if_pos h2]at h;cases h
 rw [if_neg h2]at h;have:=r9 l 0 h;exact⟨by omega,fun x hx=>(vN (this x hx)).1,fun x hx=>(vN (this x hx)).2⟩
theorem sg {w:World} {X:Nat→Prop} {u:Value} {l:List ag} (h:eH w X l u) (hne:l ≠ []) :
    ∃ (b off n c:Nat) (A':Option Addr) (n' c':Nat),u=.slice (some ⟨b,off,none⟩) n c∧0<n∧n≤maxLen∧X b∧b<w.heap.size∧w.cell? ⟨b,off,none⟩=some (.slice A' n' c')∧mA w w.heap.size A' n' (l.headD [])∧cL w X 2 A' n' (au (l.headD []))∧n'≤maxLen:=by
 obtain⟨A,n,c,rfl,h1,h2⟩:=h;cases l with
 | nil=>exact absurd rfl hne
 | cons s t=>
  obtain⟨b,off,A',n',c',rfl,hx,hb,hc,h3,h4,h5⟩:=pH h1 (k:=0) rfl;exact⟨b,off,n,c,A',n',c',rfl,by have:=h1.len;simp at this;omega,h2,hx,hb,hc,h3,h4,h5⟩
def gV (lo:Nat) (w:World) (b:Nat):Prop:=lo≤b∧∃ cs fz,w.heap[b]? = some (.cells cs 3 fz)
theorem Ee {w:World} {lo base n:Nat} {v:Value} {xs:List Value} (h:w.ownsRow base 3 1 v n xs) (hlo:lo≤base):∀ b,v.ownBlock=some b→gV lo w b:=by
 intro b hb;rcases h.2 with ⟨rfl,_⟩ | ⟨g,cap,cur,rfl,hg,hh,_⟩
 ·simp [Value.ownBlock]at hb
 simp only [Value.ownBlock,Option.some.injEq]at hb;subst hb;exact⟨Nat.le_trans hlo hg,cur,_,hh⟩
theorem Ih:(Tryz.prog.info? 3).map (fun i=>(i.zero,i.size,i.bytes))=some (some (.int .i64 0),1,8):=by kernel_rfl
def Up (w:World) (l:List az) (r:Int) (n:Nat) (s5 i:Value) (wr:World):Prop :=
  ∃ (k m:Nat),k≤n∧i=.int .i64 k∧m≤k∧(cR l r k).length=m∧wr.ownsRow w.heap.size 3 1 s5 m (intCells (cR l r k))∧Below w.heap.size w wr
theorem Jc (X:Nat→Prop) (l:List az) (r:Int) (A:Option Addr) (n c:Nat) (w:World) (hR:qJ l) (hl:bS (bg w X) w X 7 A n l) :
    Calls Tryz.prog 87 #[.slice A n c,.int .i32 r] w fun e w'=>(∃ v,e=.returned v∧l8 w' (gV w.heap.size w') (bJ l r) v)∧Below w.heap.size w w':=by
 obtain⟨i0,hi,hz0,i6,kO⟩:=info_parts Ih;have hn:n≤200:=(by rw [← (show l.length=n from hl.len)];exact hR.size);have aM:=qqh (show l.length=n from hl.len);have HL:=qqh hl;have iT:=qqh hR;clear hl hR;go_enter Tryz.func87,Tryz.ntmps87;go_wp2_with fail;go_loopw [5,9] (Up w l r n) (fun _ i _=>n - (intOf i).toNat);(case atStart=>exact⟨0,0,Nat.zero_le _,rfl,qql,rfl,World.ownsRow_nil _ _ _ _,qqb⟩);obtain⟨k,m,hk,rfl,hm,hml,hown,hb⟩:=hrel;have hz:=hb.size;have TG:=qqh hml;clear hml;by_cases hlt:k<n
 ·obtain⟨x,hx⟩:∃ z,l[k]? = some z:=⟨_,List.getElem?_eq_getElem (by rw [aM.out];exact hlt)⟩;have hmem:=List.mem_of_getElem? hx;obtain⟨b,off,A1,A2,A3,A4,n1,c1,n2,c2,n3,c3,n4,c4,rfl,_,cK,⟨d0,d1,d2,d3,d4,d5,d6⟩,_,s2,_,_,_⟩:=kF (HL.out.keep (aa.any hb) (fun _ _=>bg.keep (aa.any hb))) hx;obtain⟨b2,off2,Vw,JI,A',n',c',e2,hn2,Fu,_,_,pT,hrd,_,hnn⟩:=sg s2 (iT.out.src x hmem);cases e2;have Q9:=qqh (show rP l r k=bB (bk x) r by unfold rP;rw [hx]);have HH:=qqh (vQ A' n' c' (bk x) r wr (by simp only [maxLen]at hnn;omega) hrd);have HO:=qqh hown;have HB:=qqh hb;simp only [maxLen]at Fu;obtain⟨Av,cv,rfl,_⟩:=av hown;clear hx hmem s2 hrd hnn hown hb d0 d1 d2 d4 d5 d6;go_wp2_with fail;refine HH.out.mono ?_;rintro e w1 ⟨rfl,aP⟩;have bF:=qqh (HB.out.trans (aP.mono HB.out.size));have nM:=qqh (bG HO.out aP);clear aP;cases hp:bB (bk x) r
  ·have HE:=qqh (sH (Q9.out.trans hp));clear hp;go_wp2_with fail;exact⟨⟨k+1,m,by omega,by go_num,by omega,by rw [HE.out];exact TG.out,by rw [HE.out];exact nM.out,bF.out⟩,by simp [intOf];omega⟩
  have HE:=qqh (qo (Q9.out.trans hp));clear hp;have HN:=qqh (Rd.new w1 3 1 1 [.int .i64 k] rfl);have rC:=qqh (World.ownsRow.alloc nM.out (.cells #[.int .i64 k] 3));have bf:=qqh (bF.out.alloc bF.out.size (.cells #[.int .i64 k] 3));have mS:=qqh (show ∀ u ∈ [Value.int .i64 k],u.oneCell'=true by intro x hx;simp at hx;subst hx;rfl);go_wp2_with (at_builtin;refine aj _ rfl (.tmp 21) (.tmp 23) 143 rfl w.heap.size 3 i0 _ 1 8 Tryz.underlying143 hi hz0 i6 kO rfl (by decide) _ _ _ rfl rC.out _ (some ⟨w1.heap.size,0,none⟩) 1 1 [.int .i64 k] rfl HN.out mS.out (by simp only [maxLen];omega) (by omega) bf.out.size ?_);intro v9 w9 af;have gl:=af.own;have cB:=qqh (bf.out.trans (af.below bf.out.size rC.out));rw [← qp,← HE.out]at gl;have fH:=qqh gl;clear af gl;go_wp2_with fail;exact⟨⟨k+1,m+1,by omega,by go_num,by omega,by rw [HE.out,List.length_append,TG.out];rfl,fH.out,cB.out⟩,by simp [intOf];omega⟩
 obtain rfl:k=n:=(by omega);have HE:=qqh (show bJ l r=cR l r k by unfold bJ;rw [aM.out]);obtain⟨Av,cv,rfl,_⟩:=av hown;have HO:=qqh hown;have HB:=qqh hb;clear hown hb;go_wp2_with fail;go_ret;refine⟨⟨_,rfl,Av,m,cv,rfl,?_,by simp only [maxLen];omega⟩,HB.out⟩;rw [HE.out];exact cL.b8 HO.out (Ee HO.out qql)
def jz:List ag→List Int→Bool
  | [],_=>true
  | _::_,[]=>false
  | s::l,x::t=>bB s x && jz l t
def je (t:List Int) (p:Int) (l:List ag):Bool:=if p<0∨(t.length:Int) - (l.length:Int)<p then false else jz l (t.drop p.toNat)
structure Nj (tI:TypeId) (xI recv:Value) (fL fR:FuncId) (T:List Int) (R:World→Prop):Prop where
  enterL:∀ args w,(callFunc fL args).run Tryz.prog w=.ok (.enter fL args) w
  enterR:∀ args w,(callFunc fR args).run Tryz.prog w=.ok (.enter fR args) w
  ml:∀ w,R w→(method 388 tI xI "Len").run Tryz.prog w=.ok (fL,recv) w
  mr:∀ w,R w→(method 388 tI xI "Rune").run Tryz.prog w=.ok (fR,recv) w
  len:∀ w,R w→Calls Tryz.prog fL #[recv] w fun e w'=>e=.returned (.int .i64 T.length)∧∃ k,w'=w.drewN k
  rune:∀ w (k:Nat) x,R w→T[k]? = some x→Calls Tryz.prog fR #[recv,.int .i64 k] w fun e w'=>e=.returned (.int .i32 x)∧∃ k,w'=w.drewN k
  keep:∀ w w',R w→Below w.heap.size w w'→R w'
theorem CJ {t:List Int} {p:Int} {l:List ag} (h:p<0):je t p l=false:=by unfold je;rw [if_pos (.inl h)]
theorem M0 {t:List Int} {p:Int} {l:List ag} (h:(t.length:Int) - (l.length:Int)<p):je t p l=false:=by unfold je;rw [if_pos (.inr h)]
theorem Px {t:List Int} {q:Nat} {l:List ag} (h:q+l.length≤t.length):je t q l=jz l (t.drop q):=by
 unfold je;rw [if_neg (by omega)];rfl
theorem CS {l:List ag} {t:List Int} {j q:Nat} {s:ag} {x:Int} (hs:l[j]? = some s) (hx:t[q+j]? = some x):jz (l.drop j) (t.drop (q+j))=(bB s x && jz (l.drop (j+1)) (t.drop (q+(j+1)))):=by
 rw [bR hs,bR hx];rfl
def XE (w:World) (R:World→Prop) (T:List Int) (l:List ag) (q n:Nat) (i:Value) (wr:World):Prop :=
  ∃ j:Nat,j≤n∧i=.int .i64 j∧jz l (T.drop q)=jz (l.drop j) (T.drop (q+j))∧R wr∧Below w.heap.size w wr
theorem sX {tI:TypeId} {xI recv:Value} {fL fR:FuncId} {T:List Int} {R:World→Prop} (I:Nj tI xI recv fL fR T R) (p:Int) (X:Nat→Prop) (l:List ag) (A:Option Addr) (n c:Nat) (w:World)
    (hT:T.length≤1000000) (hp : -1000000≤p∧p≤1000000) (hn:n≤20) (hS:∀ s∈l,aJ s) (hl:bS (iH w X) w X 1 A n l) (hR:R w) :
    Calls Tryz.prog 186 #[.iface tI xI,.int .i64 p,.slice A n c] w fun e w'=>e=.returned (.bool (je T p l))∧Below w.heap.size w w':=by
 have aM:=qqh (show l.length=n from hl.len);have HL:=qqh hl;have HS:=qqh hS;have HI:=qqh I;have HR:=qqh hR;have eL:=I.enterL;have eR:=I.enterR;have mL:=I.ml w hR;have K1:=qqh (I.len w hR);clear hl hS I hR;by_cases h0:p<0
 ·have hd:decide (p<0)=true:=decide_eq_true h0;have HP:=qqh (CJ (t:=T) (l:=l) h0);go_enter Tryz.func186,Tryz.ntmps186;go_wp2_with fail;go_ret;exact⟨aV HP.out.symm,qqb⟩
 obtain⟨q,rfl⟩:∃ q:Nat,p=(q:Int):=⟨p.toNat,by omega⟩;have hd:decide ((q:Int)<0)=false:=decide_eq_false h0;by_cases aex:T.length<q+n
 ·have pW:decide ((T.length:Int) - (n:Int)<(q:Int))=true:=decide_eq_true (by omega);have HP:=qqh (M0 (t:=T) (p:=(q:Int)) (l:=l) (by rw [aM.out];omega));go_enter Tryz.func186,Tryz.ntmps186;go_wp2_with fail;refine K1.out.mono ?_;rintro e w1 ⟨rfl,k1,rfl⟩;go_wp2_with fail;go_ret;exact⟨aV HP.out.symm,below_drewN qqb k1⟩
 have pW:decide ((T.length:Int) - (n:Int)<(q:Int))=false:=decide_eq_false (by omega);have HP:=qqh (Px (t:=T) (q:=q) (l:=l) (by rw [aM.out];omega));go_enter Tryz.func186,Tryz.ntmps186;go_wp2_with fail;refine K1.out.mono ?_;rintro e w1 ⟨rfl,k1,rfl⟩;go_wp2_with fail;clear mL;go_loopw [22] (XE w R T l q n) (fun i _=>n - (intOf i).toNat);(case atStart=>exact⟨0,Nat.zero_le _,rfl,rfl,HI.out.keep _ _ HR.out (below_drewN qqb k1),below_drewN qqb k1⟩);obtain⟨j,hj,rfl,aN,U',hb⟩:=hrel;by_cases hlt:j<n
 ·obtain⟨s,hs⟩:∃ z,l[j]? = some z:=⟨_,List.getElem?_eq_getElem (by rw [aM.out];exact hlt)⟩;obtain⟨x,hx⟩:∃ z,T[q+j]? = some z:=⟨_,List.getElem?_eq_getElem (by omega)⟩;obtain⟨b,off,A',n',c',rfl,_,cK,pT,hrd,_,_⟩:=pH (HL.out.keep (aa.any hb) (fun _ _=>iH.keep (aa.any hb))) hs;rw [CS hs hx]at aN;have dh:=qqh aN;have HB:=qqh hb;have sN:=qqh (HS.out s (List.mem_of_getElem? hs));have mR:=HI.out.mr wr U';have lF:=qqh (HI.out.rune wr (q+j) x U' hx);have tL:=qqh U';have nP:=qqh hrd;clear hs hx aN hb hrd U';go_wp2_with fail;refine lF.out.mono ?_;rintro e w2 ⟨rfl,k2,rfl⟩;have bf:=qqh (below_drewN HB.out k2);have RL:=qqh (xb A' n' c' s x (wr.drewN k2) sN.out nP.out);clear lF nP;go_wp2_with fail;refine RL.out.mono ?_;rintro e w3 ⟨rfl,bM⟩;have bN:=qqh (bf.out.trans (bM.mono bf.out.size));have qD:=qqh (HI.out.keep _ _ tL.out ((below_drewN (Below.refl wr.heap.size wr) k2).trans bM));clear bM RL;cases hh:bB s x
  ·have qv:=qqh (HP.out.trans (dh.out.trans (by rw [hh,Bool.false_and])));clear hh;go_wp2_with fail;go_ret;exact⟨aV qv.out.symm,bN.out⟩
  have qv:=qqh (dh.out.trans (by rw [hh,Bool.true_and]));clear hh;go_wp2_with fail;exact⟨⟨j+1,by omega,by go_num,qv.out,qD.out,bN.out⟩,by simp [intOf];omega⟩
 obtain rfl:j=n:=(by omega);rw [show l.drop j = [] from List.drop_of_length_le (by rw [aM.out];exact qql)]at aN;have dh:=qqh (HP.out.trans (aN.trans (show jz [] (T.drop (q+j))=true from rfl)));have HB:=qqh hb;clear aN hb U';go_wp2_with fail;go_ret;exact⟨aV dh.out.symm,HB.out⟩
def dM (l:List az):List Int:=l.flatMap fun r=>cT (bk r)
def aY (l:List az):List Int:=(dM l).foldl jC [0]
theorem eY (l:List az) (x:Int):x∈aY l↔x=0∨(x∈dM l∧x≤1114111):=by
 unfold aY;rw [tV];simp
theorem kZ (l:List az):(aY l).Pairwise (· < ·):=rT _ _ (by simp)
theorem xQ {l:List az} (h:∀ x∈l,aJ (bk x)):(dM l).length≤400*l.length:=by
 induction l with
 | nil=>simp [dM]
 | cons x l ih=>
  have h1:=ih (fun y hy=>h y (by simp [hy]));have h2:=(h x (by simp)).size;unfold dM at h1 ⊢;rw [List.flatMap_cons,List.length_append,G0,List.length_cons];omega
theorem jA {l:List az} (h:∀ x∈l,aJ (bk x)):∀ e∈dM l,0≤e∧e≤1114112:=by
 intro e he;unfold dM at he;obtain⟨r,hr,he⟩:=List.mem_flatMap.1 he;unfold cT at he;obtain⟨x,hx,he⟩:=List.mem_flatMap.1 he;have:=(h r hr).each x hx;simp at he;omega
def jE (acc:List bK) (h:Int):List bK:=match acc.getLast? with | some x=>acc.dropLast++[{ x with high:=h }] | none=>[]
def mN (acc:List bK) (b:List Int):Bool:=match acc.getLast? with | some x=>x.rules == b | none=>false
def nX (acc:List bK) (low high:Int) (b:List Int):List bK:=if mN acc b=true then jE acc high else acc++[⟨low,high,b⟩]
def aS (l:List az) (E:List Int):Nat→List bK
  | 0=>[]
  | j+1=>match E[j]? with | some a=>nX (aS l E j) a (cZ E j) (bJ l a) | none=>aS l E j
def fV (l:List az) (E:List Int):List bK:=aS l E E.length
theorem dY (acc:List bK) (x:bK) (h:Int):jE (acc++[x]) h=acc++[{ x with high:=h }]:=by
 simp [jE]
theorem fT (acc:List bK) (x:bK) (b:List Int):mN (acc++[x]) b=(x.rules == b):=by simp [mN]
theorem GR (acc:List bK) (low high:Int) (b:List Int):∃ i x,nX acc low high b=i++[x]∧x.high=high∧x.rules=b:=by
 unfold nX;split
 ·rename_i h;rcases List.eq_nil_or_concat acc with rfl | ⟨i,x,rfl⟩
  ·simp [mN]at h
  rw [List.concat_eq_append,fT,beq_iff_eq]at h;rw [List.concat_eq_append,dY];exact⟨i,_,rfl,rfl,h⟩
 exact⟨acc,_,rfl,rfl,rfl⟩
theorem dZ {l:List az} {E:List Int} {j:Nat} {a:Int} (h:E[j]? = some a):aS l E (j+1)=nX (aS l E j) a (cZ E j) (bJ l a):=by
 rw [aS,h]
theorem oo {l:List az} {E:List Int} {j:Nat} (hj:j<E.length):∃ i x,aS l E (j+1)=i++[x]∧x.high=cZ E j:=by
 rw [dZ (List.getElem?_eq_getElem hj)];obtain⟨i,x,h1,h2,_⟩:=GR (aS l E j) E[j] (cZ E j) (bJ l E[j]);exact⟨i,x,h1,h2⟩
theorem fo (l:List az) (E:List Int):∀ j,(aS l E j).length≤j:=by
 intro j;induction j with
 | zero=>simp [aS]
 | succ j ih=>
  rw [aS];split
  ·unfold nX;split
   ·rcases List.eq_nil_or_concat (aS l E j)with e | ⟨i,x,e⟩
    ·rw [e];simp [jE]
    rw [e]at ih ⊢;rw [List.concat_eq_append]at ih ⊢;rw [dY];simp at ih ⊢;omega
   simp;omega
  omega
structure gN (l:List az) (acc:List bK) (lo:Int):Prop where
  start:∀ x,acc[0]? = some x→x.low=0
  next:∀ i x y,acc[i]? = some x→acc[i+1]? = some y→y.low=x.high+1∧x.rules≠y.rules
  each:∀ x∈acc,x.low≤x.high∧∀ r,x.low≤r→r≤x.high→bJ l r=x.rules
  fin:∀ x,acc.getLast? = some x→x.high+1=lo
  none:acc = []→lo=0
theorem gN.nil (l:List az):gN l [] 0:=⟨by simp,by simp,by simp,by simp,fun _=>rfl⟩
theorem gN.step {l:List az} {acc:List bK} {lo hi:Int} (h:gN l acc lo) (hlh:lo≤hi) (hb:∀ r,lo≤r→r≤hi→bJ l r=bJ l lo):gN l (nX acc lo hi (bJ l lo)) (hi+1):=by
 unfold nX;rcases List.eq_nil_or_concat acc with rfl | ⟨i,x,rfl⟩
 ·rw [if_neg (by simp [mN])];have h0:=h.none rfl;refine⟨?_,?_,?_,?_,?_⟩
  ·intro x hx;simp at hx;subst hx;exact h0
  ·intro k x y hx hy;have:=(List.getElem?_eq_some_iff.1 hy).1;simp at this
  ·intro x hx;simp at hx;subst hx;exact⟨hlh,hb⟩
  ·intro x hx;simp at hx;subst hx;rfl
  intro e;simp at e
 rw [List.concat_eq_append]at h ⊢;have O6:x.high+1=lo:=h.fin x (by simp);have hx:=h.each x (by simp);rw [fT];by_cases he:x.rules=bJ l lo
 ·rw [if_pos (by rw [beq_iff_eq];exact he),dY];refine⟨?_,?_,?_,?_,?_⟩
  ·intro y hy;cases i with
   | nil=>simp at hy;subst hy;exact h.start x (by simp)
   | cons z i=>simp at hy;subst hy;exact h.start z (by simp)
  ·intro k y z hy hz;have hk:k+1<(i++[x]).length:=(by have:=(List.getElem?_eq_some_iff.1 hz).1;simpa using this);simp at hk;rw [List.getElem?_append_left (by omega)]at hy;rcases Nat.lt_or_ge (k+1) i.length with hlt | hge
   ·rw [List.getElem?_append_left hlt]at hz;exact h.next k y z (by rw [List.getElem?_append_left (by omega)];exact hy) (by rw [List.getElem?_append_left hlt];exact hz)
   rw [List.getElem?_append_right hge,show k+1 - i.length=0 by omega]at hz;simp at hz;subst hz;have:=h.next k y x (by rw [List.getElem?_append_left (by omega)];exact hy) (by rw [List.getElem?_append_right hge,show k+1 - i.length=0 by omega];rfl);exact this
  ·intro y hy;rcases List.mem_append.1 hy with hy | hy;exact h.each y (by simp [hy]);simp at hy;subst hy;refine⟨show x.low≤hi by omega,fun r h1 h2=>?_⟩;show bJ l r=x.rules;rcases Int.lt_or_le r lo with h3 | h3;exact hx.2 r h1 (by omega);rw [he];exact hb r h3 h2
  ·intro y hy;simp at hy;subst hy;rfl
  intro e;simp at e
 rw [if_neg (by rw [beq_iff_eq];exact he)];refine⟨?_,?_,?_,?_,?_⟩
 ·intro y hy;rw [List.getElem?_append_left (by simp)]at hy;exact h.start y hy
 ·intro k y z hy hz;have hk:k+1<((i++[x])++[(⟨lo,hi,bJ l lo⟩:bK)]).length:=(List.getElem?_eq_some_iff.1 hz).1;rw [List.length_append,List.length_singleton]at hk;rw [List.getElem?_append_left (by omega)]at hy;rcases Nat.lt_or_ge (k+1) (i++[x]).length with hlt | hge
  ·rw [List.getElem?_append_left hlt]at hz;exact h.next k y z hy hz
  rw [List.getElem?_append_right hge,show k+1 - (i++[x]).length=0 by omega]at hz;simp at hz;subst hz;have hkk:k=i.length:=(by simp at hk hge;omega);rw [hkk]at hy;simp at hy;subst hy;exact⟨O6.symm,he⟩
 ·intro y hy;rcases List.mem_append.1 hy with hy | hy;exact h.each y hy;simp at hy;subst hy;exact⟨hlh,hb⟩
 ·intro y hy;simp at hy;subst hy;rfl
 intro e;simp at e
theorem AP {l:List az} {a r:Int} (Ob:a≤r) (h:∀ e∈dM l,¬(a<e∧e≤r)):bJ l r=bJ l a:=by
 have hm:∀ i,rP l r i=rP l a i:=by
  intro i;unfold rP;cases hi:l[i]? with
  | none=>rfl
  | some x=>
   refine xH Ob (fun e he=>h e ?_);unfold dM;exact List.mem_flatMap.2 ⟨x,List.mem_of_getElem? hi,he⟩
 unfold bJ cR;rw [show rP l r=rP l a from funext hm]
theorem Le {l:List az} {j:Nat} {a:Int} (hj:(aY l)[j]? = some a):∀ r,a≤r→r≤cZ (aY l) j→∀ e∈dM l,¬(a<e∧e≤r):=by
 intro r h1 h2 e he ⟨h3,h4⟩;have Eh:=kZ l;by_cases hm:e≤1114111
 ·obtain⟨k,hk⟩:=List.mem_iff_getElem?.1 ((eY l e).2 (.inr ⟨he,hm⟩));have hjk:j<k:=by
   rcases Nat.lt_or_ge j k with h | h;exact h;rcases Nat.lt_or_ge k j with h' | h'
   ·have:=jD Eh hk hj h';omega
   obtain rfl:j=k:=(by omega);rw [hk]at hj;injection hj;omega
  obtain⟨y,hy⟩:∃ y,(aY l)[j+1]? = some y:=⟨_,List.getElem?_eq_getElem (by have:=(List.getElem?_eq_some_iff.1 hk).1;omega)⟩;unfold cZ at h2;rw [hy]at h2;simp only at h2;rcases Nat.lt_or_ge (j+1) k with h | h
  ·have:=jD Eh hy hk h;omega
  obtain rfl:k=j+1:=(by omega);rw [hy]at hk;injection hk;omega
 unfold cZ at h2;split at h2
 ·rename_i y hy;have:=(eY l y).1 (List.mem_of_getElem? hy);omega
 omega
theorem FV {l:List az} (h:∀ x∈l,aJ (bk x)):(aY l)[0]? = some 0:=by
 obtain⟨k,hk⟩:=List.mem_iff_getElem?.1 ((eY l 0).2 (.inl rfl));obtain⟨y,hy⟩:∃ y,(aY l)[0]? = some y:=⟨_,List.getElem?_eq_getElem (by have:=(List.getElem?_eq_some_iff.1 hk).1;omega)⟩;have h0:0≤y:=by
  rcases (eY l y).1 (List.mem_of_getElem? hy)with rfl | ⟨h1,_⟩;exact Int.le_refl _;exact(jA h y h1).1
 rcases Nat.eq_zero_or_pos k with rfl | hk0;exact hk;have:=jD (kZ l) hy hk hk0;omega
theorem FJ {l:List az} (h:∀ x∈l,aJ (bk x)):∀ j,j≤(aY l).length→gN l (aS l (aY l) j) ((aY l)[j]?.getD 1114112):=by
 intro j;induction j with
 | zero=>intro _;rw [FV h];exact gN.nil l
 | succ j ih=>
  intro hj;have h1:=ih (by omega);have hj2:j<(aY l).length:=(by omega);have Pd:=List.getElem?_eq_getElem hj2;rw [Pd]at h1;rw [dZ Pd];have hg:(aY l)[j+1]?.getD 1114112=cZ (aY l) j+1:=by
   unfold cZ;cases (aY l)[j+1]? with
   | none=>rfl
   | some y=>simp
  rw [hg];refine gN.step h1 ?_ (fun r h2 h3=>AP h2 (Le Pd r h2 h3));unfold cZ;split
  ·rename_i y hy;have:=jD (kZ l) Pd hy (Nat.lt_succ_self j);show(aY l)[j]≤y - 1;omega
  rcases (eY l _).1 (List.mem_of_getElem? Pd)with e | ⟨_,e⟩
  ·show(aY l)[j]≤1114111;rw [e];decide
  exact e
theorem J3 {l:List az} (h:∀ x∈l,aJ (bk x)):gN l (fV l (aY l)) 1114112:=by
 have:=FJ h _ qql;rw [List.getElem?_eq_none qql]at this;exact this
def XC (hs:List bK):Prop:=∀ (i j:Nat) (x y:bK),i≤j→hs[i]? = some x→hs[j]? = some y→x.high≤y.high
def foundAt (hs:List bK) (r:Int) (k:Nat):List Int:=match hs[k]? with | some x=>if r<x.low then []else x.rules | none=>[]
theorem gN.nD {l:List az} {hs:List bK} {lo:Int} (h:gN l hs lo):∀ (d i:Nat) (x y:bK),hs[i]? = some x→hs[i+d]? = some y→x.high≤y.high∧(0<d→x.high<y.low):=by
 intro d;induction d with
 | zero=>intro i x y hx hy;rw [Nat.add_zero,hx]at hy;cases hy;exact⟨Int.le_refl _,fun h=>absurd h (Nat.lt_irrefl 0)⟩
 | succ d ih=>
  intro i x y hx hy;obtain⟨z,hz⟩:∃ z,hs[i+d]? = some z:=⟨_,List.getElem?_eq_getElem (by have:=(List.getElem?_eq_some_iff.1 hy).1;omega)⟩;have h1:=ih i x z hx hz;have h2:=(h.next (i+d) z y hz hy).1;have h3:=(h.each y (List.mem_of_getElem? hy)).1;omega
theorem gN.XG {l:List az} {hs:List bK} {lo:Int} (h:gN l hs lo):XC hs:=by
 intro i j x y hij hx hy;obtain⟨d,rfl⟩:∃ d,j=i+d:=⟨j - i,by omega⟩;exact(h.nD d i x y hx hy).1
theorem gN.found {l:List az} {hs:List bK} (h:gN l hs 1114112) {r:Int} {k:Nat} (h1:∀ t x,t<k→hs[t]? = some x→x.high<r) (h2:∀ t x,k≤t→hs[t]? = some x→r≤x.high) :
    (0≤r→r≤1114111→foundAt hs r k=bJ l r)∧(r<0∨1114111<r→foundAt hs r k = []):=by
 have hne:hs ≠ []:=fun e=>absurd (h.none e) (by decide);have Ho:∀ x,hs.getLast? = some x→x.high=1114111:=fun x hx=>(by have:=h.fin x hx;omega);have hlen:=List.length_pos_iff.2 hne;obtain⟨z,hz⟩:∃ z,hs[hs.length - 1]? = some z:=⟨_,List.getElem?_eq_getElem (by omega)⟩;have hzl:z.high=1114111:=Ho z (by rw [List.getLast?_eq_getElem?];exact hz);have nY:∀ (k:Nat) (x:bK),hs[k]? = some x→0≤x.low∧x.high≤1114111:=by
  intro k x hx;obtain⟨x0,hx0⟩:∃ z,hs[0]? = some z:=⟨_,List.getElem?_eq_getElem (by omega)⟩;have h0:=h.start x0 hx0;have Ud:=(h.each x0 (List.mem_of_getElem? hx0)).1;have hk:=(List.getElem?_eq_some_iff.1 hx).1;have ha:=h.nD k 0 x0 x hx0 (by rw [Nat.zero_add];exact hx);have hb:=h.nD (hs.length - 1 - k) k x z hx (by rw [show k+(hs.length - 1 - k)=hs.length - 1 by omega];exact hz);refine⟨?_,by omega⟩;rcases Nat.eq_zero_or_pos k with rfl | hk0
  ·rw [hx0]at hx;cases hx;omega
  have:=ha.2 hk0;omega
 refine⟨fun Mh Bw=>?_,fun hr=>?_⟩
 ·have hk:k<hs.length:=by
   rcases Nat.lt_or_ge k hs.length with hlt | hge;exact hlt;have:=h1 (hs.length - 1) z (by omega) hz;omega
  obtain⟨x,hx⟩:∃ z,hs[k]? = some z:=⟨_,List.getElem?_eq_getElem hk⟩;have zb:=h2 k x qql hx;have hlx:x.low≤r:=by
   cases k with
   | zero=>rw [h.start x hx];exact Mh
   | succ k=>
    obtain⟨y,hy⟩:∃ z,hs[k]? = some z:=⟨_,List.getElem?_eq_getElem (by omega)⟩;have:=(h.next k y x hy hx).1;have:=h1 k y (by omega) hy;omega
  unfold foundAt;rw [hx];simp only;rw [if_neg (by omega)];exact((h.each x (List.mem_of_getElem? hx)).2 r hlx zb).symm
 unfold foundAt;cases hx:hs[k]? with
 | none=>rfl
 | some x=>
  have h3:=nY k x hx;have h4:=h2 k x qql hx;simp only;rw [if_pos (by omega)]
theorem KQ (l:List az) (r:Int):(bJ l r).length≤l.length:=yx l r _
theorem gN.head {l:List az} {hs:List bK} (h:gN l hs 1114112) {r:Int} {k:Nat} (h1:∀ t x,t<k→hs[t]? = some x→x.high<r) (h2:∀ t x,k≤t→hs[t]? = some x→r≤x.high) (h0:0≤r) (hm:r≤1114111) :
    ∃ x,hs[k]? = some x∧x.rules=bJ l r:=by
 have hne:hs ≠ []:=fun e=>absurd (h.none e) (by decide);have hlen:=List.length_pos_iff.2 hne;obtain⟨z,hz⟩:∃ z,hs[hs.length - 1]? = some z:=⟨_,List.getElem?_eq_getElem (by omega)⟩;have hzl:=h.fin z (by rw [List.getLast?_eq_getElem?];exact hz);have hk:k<hs.length:=by
  rcases Nat.lt_or_ge k hs.length with hlt | hge;exact hlt;have:=h1 (hs.length - 1) z (by omega) hz;omega
 obtain⟨x,hx⟩:∃ z,hs[k]? = some z:=⟨_,List.getElem?_eq_getElem hk⟩;have hf:=(h.found h1 h2).1 h0 hm;have zb:=h2 k x qql hx;have hlx:x.low≤r:=by
  cases k with
  | zero=>rw [h.start x hx];exact h0
  | succ k=>
   obtain⟨y,hy⟩:∃ z,hs[k]? = some z:=⟨_,List.getElem?_eq_getElem (by omega)⟩;have:=(h.next k y x hy hx).1;have:=h1 k y (by omega) hy;omega
 exact⟨x,hx,((h.each x (List.mem_of_getElem? hx)).2 r hlx zb).symm⟩
def dR (l:List az):List bK × (Int × Int) :=
  if (bZ l).1≠0 then ([],bZ l)else if 400<(fV l (aY l)).length then ([],(5,0))else (fV l (aY l),(0,0))
theorem Hy {l:List az} (h:(dR l).2.1=0):(dR l).1=fV l (aY l)∧qJ l∧(dR l).1.length≤400:=by
 unfold dR at h ⊢;by_cases h1:(bZ l).1=0
 ·rw [if_neg (by rw [h1];decide)]at h ⊢;by_cases h2:400<(fV l (aY l)).length
  ·rw [if_pos h2]at h;cases h
  rw [if_neg h2];exact⟨rfl,jJ h1,by show(fV l (aY l)).length≤400;omega⟩
 rw [if_pos h1]at h;exact absurd h h1
theorem FZ {l:List az} (h:(dR l).2.1=0):gN l (dR l).1 1114112:=by
 obtain⟨h1,h2,_⟩:=Hy h;rw [h1];exact J3 h2.set
def dc (lo:Nat) (w:World) (v:Value) (hs:List bK):Prop:=dD (iN w (gV lo w)) 147 3 w lo v hs
theorem gV.keeps {lo:Nat} {w w':World} (h:∀ b,gV lo w b→b<w.heap.size→w'.heap[b]? = w.heap[b]?) (hs:w.heap.size≤w'.heap.size):aa w (gV lo w) w' (gV lo w'):=by
 intro b hb hl;have he:=h b hb hl;refine⟨he,⟨hb.1,?_⟩,Nat.lt_of_lt_of_le hl hs⟩;obtain⟨cs,fz,hc⟩:=hb.2;exact⟨cs,fz,he.trans hc⟩
theorem gV.below {lo:Nat} {w w':World} (hb:Below w.heap.size w w'):aa w (gV lo w) w' (gV lo w'):=gV.keeps (fun b _ hl=>hb.block b hl) hb.size
theorem dc.nil (lo:Nat) (w:World):dc lo w (.slice none 0 0) []:=dD.nil _ _
theorem dc.below {lo:Nat} {w w':World} {v:Value} {hs:List bK} (h:dc lo w v hs) (hb:Below w.heap.size w w'):dc lo w' v hs :=
  dD.kept (fun _ _ ho=>bG ho hb) (fun _ _=>iN.keep (gV.below hb)) h
theorem dc.form {lo:Nat} {w:World} {v:Value} {hs:List bK} (h:dc lo w v hs):∃ A c,v=.slice A hs.length c∧hs.length≤c:=dD.form h
theorem Es:(147 : TypeId) ≠ 3:=by decide
theorem gV.ne {lo:Nat} {w:World} {v:Value} {n:Nat} {xs:List Value} (h:w.ownsRow lo 147 3 v n xs) {b:Nat} (hb:gV lo w b):v.ownBlock≠some b:=by
 obtain⟨cs,fz,hc⟩:=hb.2;rcases h.2 with ⟨rfl,_⟩ | ⟨g,cap,cur,rfl,_,hg,_⟩
 ·simp [Value.ownBlock]
 simp only [Value.ownBlock,ne_eq,Option.some.injEq];rintro rfl;rw [hc]at hg;injection hg with hg;injection hg with _ ht;exact Es ht.symm
theorem l8.form {w:World} {X:Nat→Prop} {l:List Int} {u:Value} (h:l8 w X l u):∃ A c,u=.slice A l.length c∧JK w w.heap.size A l.length l∧cL w X 1 A l.length (intCells l)∧l.length≤maxLen:=by
 obtain⟨A,n,c,rfl,h1,h2⟩:=h;obtain rfl:l.length=n:=(l8.len ⟨A,n,c,rfl,h1,h2⟩).1;exact⟨A,c,rfl,h1.of,h1,h2⟩
theorem dc.push {lo n:Nat} {w w':World} {v v':Value} {hs:List bK} {css:List (List Value)} {low high:Int} {b:List Int} {u:Value}
    (h1:css.length=hs.length) (h2:∀ (i:Nat) (a:bK) (cs:List Value),hs[i]? = some a→css[i]? = some cs→iN w (gV lo w) a cs) (h3:∀ cs∈css,cs.length=3)
    (h4:w.ownsRow lo 147 3 v hs.length css.flatten) (hu:l8 w (gV lo w) b u) (hlo:lo≤w.heap.size) (hn:n=hs.length+1)
    (af:bh lo 147 3 v w n (css.flatten++[.int .i32 low,.int .i32 high,u]) v' w'):dc lo w' v' (hs++[⟨low,high,b⟩])∧Below lo w w':=by
 subst hn;have hk:aa w (gV lo w) w' (gV lo w'):=gV.keeps (fun x hx hl=>af.2.1.block x hl (fun e=>gV.ne h4 hx e.symm)) af.2.1.size;exact⟨dD.push h1 h2 h3 (fun _ _=>iN.keep hk) ⟨u,rfl,hu.keep hk⟩ rfl af,af.below hlo h4⟩
theorem dc.ready {lo:Nat} {w:World} {v:Value} {hs:List bK} (h:dc lo w v hs) {b:List Int} {u:Value} {lo':Nat} (hu:l8 w (gV lo' w) b u) (hlo:lo≤w.heap.size) (ZV:lo≤lo') (low high:Int) :
    ∃ xs:List Value,(w.alloc (.cells #[.int .i32 low,.int .i32 high,u] 147)).ownsRow lo 147 3 v hs.length xs ∧
      ∀ v' w' n,n=hs.length+1→bh lo 147 3 v (w.alloc (.cells #[.int .i32 low,.int .i32 high,u] 147)) n (xs++[.int .i32 low,.int .i32 high,u]) v' w'→dc lo w' v' (hs++[⟨low,high,b⟩])∧Below lo w w':=by
 obtain⟨css,h1,h2,h3,h4⟩:=h;have eP:=(Below.refl w.heap.size w).alloc qql (.cells #[.int .i32 low,.int .i32 high,u] 147);refine⟨css.flatten,World.ownsRow.alloc h4 _,fun v' w' n hn af=>?_⟩
 have ON:l8 (w.alloc (.cells #[.int .i32 low,.int .i32 high,u] 147)) (gV lo (w.alloc (.cells #[.int .i32 low,.int .i32 high,u] 147))) b u :=
   (hu.keep (aa.refl (X':=gV lo w) (fun _ h=>⟨Nat.le_trans ZV h.1,h.2⟩))).keep (gV.below eP)
 have:=dc.push h1 (fun i a cs ha hc=>iN.keep (gV.below eP) (h2 i a cs ha hc)) h3 (World.ownsRow.alloc h4 _) ON (by simp;omega) hn af;exact⟨this.1,(eP.mono hlo).trans this.2⟩
theorem KJ {css:List (List Value)} (h:∀ cs∈css,cs.length=3) (a b c b':Value):(css++[[a,b,c]]).flatten.set (css.length*3+1) b'=(css++[[a,b',c]]).flatten:=by
 have hl:css.flatten.length=css.length*3:=by
  clear a b c b';induction css with
  | nil=>rfl
  | cons x css ih=>
   have:=h x (by simp);have:=ih (fun y hy=>h y (by simp [hy]));rw [List.flatten_cons,List.length_append,List.length_cons];omega
 rw [List.flatten_append,List.flatten_append,← hl,List.set_append_right _ _ (by omega),show css.flatten.length+1 - css.flatten.length=1 by omega];rfl
theorem dc.Ig {lo g n c:Nat} {w:World} {i:List bK} {x:bK} (h:dc lo w (.slice (some ⟨g,0,none⟩) n c) (i++[x])) (y:Int) :
    dc lo (w.setCell ⟨g,i.length*3+1,none⟩ (.int .i32 y)) (.slice (some ⟨g,0,none⟩) n c) (i++[{ x with high:=y }])∧Below lo w (w.setCell ⟨g,i.length*3+1,none⟩ (.int .i32 y)):=by
 obtain⟨css,h1,h2,h3,h4⟩:=h;obtain⟨A',c',e,_⟩:=av h4;cases e;have hlo:lo≤g:=(bt h4 rfl).1;refine⟨?_,qqb.setCell hlo _⟩;rcases List.eq_nil_or_concat css with rfl | ⟨cs,z,rfl⟩
 ·simp at h1
 rw [List.concat_eq_append]at h1 h2 h3 h4;have GF:cs.length=i.length:=(by simpa using h1);obtain⟨u,rfl,hu⟩:=h2 i.length x z (by simp) (by rw [← GF];simp);have hst:=h4.stored (i.length*3+1) (.int .i32 y);rw [← GF,KJ (fun q hq=>h3 q (by simp [hq]))]at hst;rw [← GF]
 have hk:aa w (gV lo w) (w.setCell ⟨g,cs.length*3+1,none⟩ (.int .i32 y)) (gV lo (w.setCell ⟨g,cs.length*3+1,none⟩ (.int .i32 y))) :=
   gV.keeps (fun b hb hl=>hst.2.block b hl (fun e=>gV.ne h4 hb e.symm)) (by simp)
 refine⟨cs++[[.int .i32 x.low,.int .i32 y,u]],by simp [GF],?_,?_,?_⟩
 ·intro k a ks ha hks;rcases Nat.lt_or_ge k i.length with hlt | hge
  ·rw [List.getElem?_append_left hlt]at ha;rw [List.getElem?_append_left (by omega)]at hks;exact iN.keep hk (h2 k a ks (by rw [List.getElem?_append_left hlt];exact ha) (by rw [List.getElem?_append_left (by omega)];exact hks))
  rw [List.getElem?_append_right hge]at ha;rw [List.getElem?_append_right (by omega),GF]at hks;have hk0:k - i.length=0:=by
   have:=(List.getElem?_eq_some_iff.1 ha).1;simp at this;omega
  rw [hk0]at ha hks;simp at ha hks;subst ha hks;exact⟨u,rfl,hu.keep hk⟩
 ·intro ks hks;rcases List.mem_append.1 hks with hks | hks;exact h3 ks (by simp [hks]);simp at hks;subst hks;rfl
 have:=hst.1;simpa using this
theorem dc.last {lo:Nat} {w:World} {v:Value} {i:List bK} {x:bK} (h:dc lo w v (i++[x])) :
    ∃ (g c:Nat) (A':Option Addr) (c':Nat),v=.slice (some ⟨g,0,none⟩) (i.length+1) c∧i.length+1≤c∧lo≤g∧g<w.heap.size ∧
      w.cell? ⟨g,i.length*3+1,none⟩=some (.int .i32 x.high)∧w.frozen? ⟨g,i.length*3+1,none⟩=false∧w.cell? ⟨g,i.length*3+2,none⟩=some (.slice A' x.rules.length c')∧JK w w.heap.size A' x.rules.length x.rules∧x.rules.length≤maxLen:=by
 obtain⟨css,h1,h2,h3,h4⟩:=h;have hlen:(i++[x]).length=i.length+1:=(by simp);rw [hlen]at h4 h1;obtain⟨g,c,rfl,hc,hg,Ow⟩:=gD h4 (by omega);obtain⟨cs,hcs⟩:∃ cs,css[i.length]? = some cs:=⟨_,List.getElem?_eq_getElem (by omega)⟩;obtain⟨u,rfl,hu⟩:=h2 i.length x cs (by simp) hcs;obtain⟨A',c',rfl,hr,_,hrl⟩:=hu.form;refine⟨g,c,A',c',rfl,hc,hg,Ow,?_,h4.frozenAt _,?_,hr,hrl⟩
 ·rw [h4.cellAt _ (by omega)];exact dH h3 _ _ hcs 1 _ rfl
 rw [h4.cellAt _ (by omega)];exact dH h3 _ _ hcs 2 _ rfl
theorem dc.done {lo:Nat} {w:World} {v:Value} {hs:List bK} (h:dc lo w v hs) (hl:hs.length≤maxLen):oy w (fun b=>lo≤b) hs v:=by
 obtain⟨A,c,rfl,_⟩:=h.form;refine⟨A,_,c,rfl,?_,hl⟩;obtain⟨css,h1,h2,h3,h4⟩:=h;exact⟨css,rfl,h1,fun i a cs ha hc=>iN.keep (aa.refl (fun _ h=>h.1)) (h2 i a cs ha hc),h3,cL.b8 h4 (fun b hb=>(bt h4 hb).1)⟩
theorem oy.form {w:World} {X:Nat→Prop} {hs:List bK} {u:Value} (h:oy w X hs u):∃ A c,u=.slice A hs.length c∧bS (iN w X) w X 3 A hs.length hs∧hs.length≤maxLen:=by
 obtain⟨A,n,c,rfl,h1,h2⟩:=h;obtain rfl:hs.length=n:=h1.len;exact⟨A,c,rfl,h1,h2⟩
theorem Hh {w:World} {X:Nat→Prop} {A:Option Addr} {n:Nat} {l:List bK} (h:bS (iN w X) w X 3 A n l) {k:Nat} {x:bK} (hk:l[k]? = some x) :
    ∃ (b off:Nat) (A':Option Addr) (c':Nat),A=some ⟨b,off,none⟩∧X b∧b<w.heap.size∧w.cell? ⟨b,off+k*3,none⟩=some (.int .i32 x.low)∧w.cell? ⟨b,off+k*3+1,none⟩=some (.int .i32 x.high) ∧
      w.cell? ⟨b,off+k*3+2,none⟩=some (.slice A' x.rules.length c')∧JK w w.heap.size A' x.rules.length x.rules∧cL w X 1 A' x.rules.length (intCells x.rules)∧x.rules.length≤maxLen:=by
 obtain⟨b,off,cs,e,hx,hb,⟨u,rfl,hu⟩,_,hc⟩:=h.at hk;obtain⟨A',c',rfl,h1,h2,h3⟩:=hu.form;exact⟨b,off,A',c',e,hx,hb,hc 0 _ rfl,hc 1 _ rfl,hc 2 _ rfl,h1,h2,h3⟩
theorem Eo:(Tryz.prog.info? 147).map (fun i=>(i.zero,i.size,i.bytes))=some (some (.agg #[.int .i32 0,.int .i32 0,.slice none 0 0]),3,32):=by kernel_rfl
end Go.Proofs.YtamkjeipdjbemaaGreatDoor
