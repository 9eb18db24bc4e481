/- First + Scan -/
import Derived.Test.YthgkedoildcbcaaGreatDoorZt28
set_option maxHeartbeats 1600000
set_option maxRecDepth 100000
namespace Go.Proofs.YthgkedoildcbcaaGreatDoor
open Go.RowKit
theorem qv {t:TypeId} {name:String} {path:List FieldStep} {f:FuncId} (h:(Tryz.prog.info? t).map (fun i=>(i.methods.find? (·.name == name)).map fun m=>(m.path.toList,m.func))=some (some (path,some (f,false)))) :
    ∃ i,Tryz.prog.info? t=some i∧∃ m,i.methods.find? (·.name == name)=some m∧m.path.toList=path∧m.func=some (f,false):=by
 obtain⟨i,hi,h2⟩:=Option.map_eq_some_iff.1 h;obtain⟨m,hm,h3⟩:=Option.map_eq_some_iff.1 h2;simp only [Prod.mk.injEq]at h3;exact⟨i,hi,m,hm,h3.1,h3.2⟩
theorem FF (v:Value) (w:World):(method 392 65 v "Len").run Tryz.prog w=.ok (218,v) w:=by
 obtain⟨i,hi,m,hm,hp,hf⟩:=qv (t:=65) (name:="Len") (path:=[]) (f:=218) (by kernel_rfl);unfold method;simp [go_sem,typeInfo,hi,hm,hp,hf,follow,receiverAt,Place.get,loadVar]
theorem DA (v:Value) (w:World):(method 392 65 v "Rune").run Tryz.prog w=.ok (219,v) w:=by
 obtain⟨i,hi,m,hm,hp,hf⟩:=qv (t:=65) (name:="Rune") (path:=[]) (f:=219) (by kernel_rfl);unfold method;simp [go_sem,typeInfo,hi,hm,hp,hf,follow,receiverAt,Place.get,loadVar]
theorem EK:∀ args w,(callFunc 218 args).run Tryz.prog w=.ok (.enter 218 args) w:=enters_of Tryz.func218 (by kernel_rfl) rfl
theorem Bu:∀ args w,(callFunc 219 args).run Tryz.prog w=.ok (.enter 219 args) w:=enters_of Tryz.func219 (by kernel_rfl) rfl
theorem MB (A:Option Addr) (n c:Nat) (w:World):Calls Tryz.prog 218 #[.slice A n c] w fun e w'=>e=.returned (.int .i64 n)∧∃ k,w'=w.drewN k:=by
 go_enter Tryz.func218,Tryz.ntmps218;go_wp2_with fail;go_ret;exact⟨rfl,0,rfl⟩
theorem Jz (A:Option Addr) (n c:Nat) (T:List Int) (w:World) (h:mc w w.heap.size A n T) (hn:n≤100000) (k:Nat) (x:Int) (hx:T[k]? = some x) :
    Calls Tryz.prog 219 #[.slice A n c,.int .i64 k] w fun e w'=>e=.returned (.int .i32 x)∧∃ k,w'=w.drewN k:=by
 have hk:k<n:=(by have:=(List.getElem?_eq_some_iff.1 hx).1;have:=h.len;omega);obtain⟨b,off,e,hb,hc⟩:=h.2 (by omega);subst e;have h0:w.cell? ⟨b,off+k,none⟩=some (.int .i32 x):=hc k _ (by simp [runeCells,hx]);have hk0:(0:Int)≤(k:Int):=(by omega);have hk1:(k:Int)<(n:Int):=(by omega);clear hc hx h;go_enter Tryz.func219,Tryz.ntmps219;go_wp2_with fail;go_ret;exact⟨rfl,0,rfl⟩
def XL (A:Option Addr) (n:Nat) (T:List Int) (w:World):Prop:=mc w w.heap.size A n T
theorem JK (A:Option Addr) (n c:Nat) (T:List Int) (hn:n≤100000) (hT:T.length=n):Ie 65 (.slice A n c) (.slice A n c) 218 219 T (XL A n T) where
  enterL:=EK
  enterR:=Bu
  ml:=fun w _=>FF _ w
  mr:=fun w _=>DA _ w
  len:=fun w _=>by rw [hT];exact MB A n c w
  rune:=fun w k x h hx=>Jz A n c T w h hn k x hx
  keep:=fun w w' h hb=>(Rd.below h hb).more hb.size
theorem Jg (X:Nat→Prop) (r:aj) (A1 A2 A3 A4 At:Option Addr) (n1 c1 n2 c2 n3 c3 n4 c4 nt ct q b1 b2:Nat) (T:List Int) (w:World) (hr:ef r) (s1:fq w X r.before (.slice A1 n1 c1)) (s2:fq w X r.source (.slice A2 n2 c2)) (s3:fq w X r.after (.slice A3 n3 c3)) (s4:bW w X 1 A4 n4 (runeCells r.target))
    (hn:nt≤100000) (hq:q≤nt) (ht:mc w w.heap.size At nt T) (h1:ai w b1 108 #[.iface 65 (.slice At nt ct)]) (h2:ai w b2 3 #[.int .i64 q]) :
    Calls Tryz.prog 44 #[.agg #[.bool r.start,.bool r.fin,.slice A1 n1 c1,.slice A2 n2 c2,.slice A3 n3 c3,.slice A4 n4 c4,.int .i64 r.aa],.pointer (some ⟨b1,0,none⟩),.pointer (some ⟨b2,0,none⟩)] w fun e w'=>e=.returned (.bool (dM r T q))∧Below w.heap.size w w':=by
 have hba:=(Below.refl w.heap.size w).alloc (Nat.le_refl _) (.cells #[.bool r.start,.bool r.fin,.slice A1 n1 c1,.slice A2 n2 c2,.slice A3 n3 c3,.slice A4 n4 c4,.int .i64 r.aa] 68);have hx:=ai.new w 68 #[.bool r.start,.bool r.fin,.slice A1 n1 c1,.slice A2 n2 c2,.slice A3 n3 c3,.slice A4 n4 c4,.int .i64 r.aa]
 have zv:tM (w.alloc (.cells #[.bool r.start,.bool r.fin,.slice A1 n1 c1,.slice A2 n2 c2,.slice A3 n3 c3,.slice A4 n4 c4,.int .i64 r.aa] 68)) X r w.heap.size 0 A1 A2 A3 A4 n1 c1 n2 c2 n3 c3 n4 c4 :=
   ⟨hx.lt,hx.cell 0,hx.cell 1,hx.cell 2,hx.cell 3,hx.cell 4,hx.cell 5,hx.cell 6,s1.keep (af.any hba),s2.keep (af.any hba),s3.keep (af.any hba),s4.keep (af.any hba)⟩
 have HH:=qqh (xJ (JK At nt ct T hn ht.len) X r w.heap.size 0 A1 A2 A3 A4 n1 c1 n2 c2 n3 c3 n4 c4 q _ (by rw [ht.len];exact hn) (by rw [ht.len];exact hq) hr zv ((Rd.below ht hba).more hba.size));have u1:=(h1.alloc (.cells #[.bool r.start,.bool r.fin,.slice A1 n1 c1,.slice A2 n2 c2,.slice A3 n3 c3,.slice A4 n4 c4,.int .i64 r.aa] 68)).cell 0;have u2:=(h2.alloc (.cells #[.bool r.start,.bool r.fin,.slice A1 n1 c1,.slice A2 n2 c2,.slice A3 n3 c3,.slice A4 n4 c4,.int .i64 r.aa] 68)).cell 0;have xo:=qqh hba;clear hx zv hba s1 s2 s3 s4 ht h1 h2 hr;go_enter Tryz.func44,Tryz.ntmps44;go_upto_region 1 with fail;generalize w.alloc (.cells #[.bool r.start,.bool r.fin,.slice A1 n1 c1,.slice A2 n2 c2,.slice A3 n3 c3,.slice A4 n4 c4,.int .i64 r.aa] 68)=W1 at *;go_wp2_with fail;refine HH.out.mono ?_;rintro e w2 ⟨rfl,bu⟩;have bG:=qqh (xo.out.trans (bu.mono xo.out.size));clear bu;go_wp2_with fail;go_ret;exact⟨rfl,bG.out⟩
def Ww (w:World) (l:List aj) (T:List Int) (q n:Nat) (i:Value) (wr:World):Prop :=
  ∃ k:Nat,k≤n∧i=.int .i64 k∧dm l T q=dn l T q ((upTo n).drop k)∧Below w.heap.size w wr
theorem R8 {n k:Nat} (h:k<n):(upTo n).drop k=(k:Int)::(upTo n).drop (k+1):=by
 have hl:k<(upTo n).length:=(by simp [upTo,h]);rw [List.drop_eq_getElem_cons hl];simp [upTo]
theorem Tp (n:Nat):(upTo n).drop n = []:=by
 apply List.drop_of_length_le;simp [upTo]
theorem DH (X:Nat→Prop) (l:List aj) (A At:Option Addr) (n c nt ct q b1 b2:Nat) (T:List Int) (w:World) (hn:n≤maxLen) (hR:∀ r∈l,ef r) (hl:aZ (aO w X) w X 7 A n l)
    (hnt:nt≤100000) (hq:q≤nt) (ht:mc w w.heap.size At nt T) (h1:ai w b1 108 #[.iface 65 (.slice At nt ct)]) (h2:ai w b2 3 #[.int .i64 q]) :
    Calls Tryz.prog 43 #[.slice A n c,.func (.func 44) #[] #[.pointer (some ⟨b1,0,none⟩),.pointer (some ⟨b2,0,none⟩)]] w fun e w'=>e=.returned (.int .i64 (dm l T q))∧Below w.heap.size w w':=by
 have aV:=qqh (show l.length=n from hl.len);have HL:=qqh hl;have HT:=qqh ht;have H1:=qqh h1;have H2:=qqh h2;have ko:=qqh hR;have H0:=qqh (show dm l T q=dn l T q ((upTo n).drop 0) by unfold dm;rw [aV.out];rfl);clear hl ht hR h1 h2;simp only [maxLen]at hn;go_enter Tryz.func43,Tryz.ntmps43;go_wp2_with fail;go_loopw [8] (Ww w l T q n) (fun i _=>n - (intOf i).toNat);(case atStart=>exact⟨0,Nat.zero_le _,rfl,H0.out,Below.refl _ _⟩);obtain⟨k,hk,rfl,aX,hb⟩:=hrel;by_cases hlt:k<n
 ·obtain⟨r,hr⟩:∃ z,l[k]? = some z:=⟨_,List.getElem?_eq_getElem (by rw [aV.out];exact hlt)⟩;obtain⟨b,off,A1,A2,A3,A4,n1,c1,n2,c2,n3,c3,n4,c4,rfl,_,dL,⟨d0,d1,d2,d3,d4,d5,d6⟩,s1,s2,s3,s4,uH⟩:=mu (HL.out.keep (af.any hb) (fun _ _=>aO.keep (af.any hb))) hr;rw [R8 hlt,dn,show hereAt l T q (k:Int)=dM r T q by unfold hereAt;rw [Int.toNat_natCast,hr]]at aX;have dY:=qqh aX;have HB:=qqh hb;have HM:=qqh (Jg X r A1 A2 A3 A4 At n1 c1 n2 c2 n3 c3 n4 c4 nt ct q b1 b2 T wr (ko.out r (List.mem_of_getElem? hr)) s1 s2 s3 s4 hnt hq ((Rd.below HT.out hb).more hb.size) (ai.below H1.out hb H1.out.lt) (ai.below H2.out hb H2.out.lt));clear aX hr hb s1 s2 s3 s4 uH;go_wp2_with fail;refine HM.out.mono ?_;rintro e w9 ⟨rfl,bR⟩;have eK:=qqh (HB.out.trans (bR.mono HB.out.size));clear bR;cases hh:dM r T q
  ·have HG:=qqh (dY.out.trans (by rw [hh,if_neg (by decide)]));clear hh;go_wp2_with fail;exact⟨⟨k+1,by omega,by go_num,HG.out,eK.out⟩,by simp [intOf];omega⟩
  have HG:=qqh (dY.out.trans (by rw [hh,if_pos rfl]));clear hh;go_wp2_with fail;go_ret;exact⟨pR HG.out.symm,eK.out⟩
 obtain rfl:k=n:=(by omega);rw [Tp,dn]at aX;have HG:=qqh aX;clear aX;go_wp2_with fail;go_ret;exact⟨pR HG.out.symm,hb⟩
theorem Jf (X:Nat→Prop) (l:List aj) (A At:Option Addr) (n c nt ct q:Nat) (T:List Int) (w:World) (hn:n≤maxLen) (hR:∀ r∈l,ef r) (hl:aZ (aO w X) w X 7 A n l)
    (hnt:nt≤100000) (hq:q≤nt) (ht:mc w w.heap.size At nt T) :
    Calls Tryz.prog 21 #[.slice A n c,.iface 65 (.slice At nt ct),.int .i64 q] w fun e w'=>e=.returned (.int .i64 (dm l T q))∧Below w.heap.size w w':=by
 have hba:=((Below.refl w.heap.size w).alloc (Nat.le_refl _) (.cells #[.iface 65 (.slice At nt ct)] 108)).alloc (by simp) (.cells #[.int .i64 q] 3);have H:=qqh (DH X l A At n c nt ct q w.heap.size (w.heap.size+1) T _ hn hR (hl.keep (af.any hba) (fun _ _=>aO.keep (af.any hba))) hnt hq ((Rd.below ht hba).more hba.size) (ai.alloc (ai.new w _ _) _) (by
  have:=ai.new (w.alloc (.cells #[.iface 65 (.slice At nt ct)] 108)) 3 #[.int .i64 q];simpa using this))
 have xo:=qqh hba;clear hba hl ht hR;go_enter Tryz.func21,Tryz.ntmps21;go_wp2_with fail;refine H.out.mono ?_;rintro e w2 ⟨rfl,bu⟩;have bG:=qqh (xo.out.trans (bu.mono xo.out.size));clear bu;go_wp2_with fail;go_ret;exact⟨rfl,bG.out⟩
def DE (l:List aj):Nat→List Int→List Int→List Int
  | _,A,[]=>A
  | 0,A,_::_=>A
  | f+1,A,z::Z=>match l.find? (fun r=>dM r (A++z::Z) A.length)with
    | none=>DE l f (A++[z]) Z
    | some r=>DE l f (A++(r.target++(z::Z).drop r.source.length).take r.aa.toNat) ((r.target++(z::Z).drop r.source.length).drop r.aa.toNat)
theorem TA (l:List aj) (f:Nat) (A:List Int):DE l f A [] = A:=by cases f <;> rfl
theorem ET (l:List aj) (T:List Int) (q:Nat):∀ (n k:Nat),k+n=l.length →
    (dn l T q ((List.range' k n).map fun i:Nat=>(i:Int)) = -1∧(l.drop k).find? (fun r=>dM r T q)=none) ∨
    ∃ (j:Nat) (r:aj),dn l T q ((List.range' k n).map fun i:Nat=>(i:Int))=(j:Int)∧l[j]? = some r∧(l.drop k).find? (fun r=>dM r T q)=some r:=by
 intro n;induction n with
 | zero=>
  intro k hk;refine .inl ⟨rfl,?_⟩;rw [List.drop_of_length_le (by omega)];rfl
 | succ n ih=>
  intro k hk;have hlt:k<l.length:=(by omega);rw [List.range'_succ,List.map_cons,dn,List.drop_eq_getElem_cons hlt];have hh:hereAt l T q (k:Int)=dM l[k] T q:=by
   unfold hereAt;rw [Int.toNat_natCast,List.getElem?_eq_getElem hlt]
  rw [hh];cases hq:dM l[k] T q with
  | true=>
   refine .inr ⟨k,l[k],?_,List.getElem?_eq_getElem hlt,?_⟩
   ·rw [if_pos rfl]
   rw [List.find?_cons,hq]
  | false=>
   rw [if_neg (by decide),List.find?_cons,hq];exact ih (k+1) (by omega)
theorem FR (l:List aj) (T:List Int) (q:Nat) :
    (dm l T q = -1∧l.find? (fun r=>dM r T q)=none)∨∃ (j:Nat) (r:aj),dm l T q=(j:Int)∧l[j]? = some r∧l.find? (fun r=>dM r T q)=some r:=by
 have:=ET l T q l.length 0 (by omega);rw [List.drop_zero,← List.range_eq_range']at this;exact this
def abX (K:Nat) (r:aj):Prop:=0≤r.aa∧r.aa≤r.target.length∧r.target.length<r.source.length+r.aa.toNat∧r.aa.toNat+K*(r.target.length - r.aa.toNat)≤K*r.source.length
theorem rq:∀ {l:List ag} {t:List Int},j7 l t=true→l.length≤t.length:=by
 intro l;induction l with
 | nil=>intro t _;exact Nat.zero_le _
 | cons s l ih=>
  intro t h;cases t with
  | nil=>cases h
  | cons x t=>
   rw [j7,Bool.and_eq_true]at h;have:=ih h.2;simp only [List.length_cons];omega
theorem xz {r:aj} {A Z:List Int} (h:dM r (A++Z) A.length=true):j7 r.source Z=true:=by
 unfold dM at h;simp only [Bool.and_eq_true]at h;have h1:=h.1.1.1.1;unfold mD at h1;split at h1
 ·cases h1
 rwa [Int.toNat_natCast,List.drop_left]at h1
theorem Up (l:List aj) (K:Nat) (hK:1≤K) (hl:∀ r∈l,abX K r):∀ (left:Nat) (A Z:List Int) (s p:Nat),Z.length≤left→A.length+K*Z.length≤4000→∃ s' p',bC l left A Z s p=(⟨DE l left A Z,s',p'⟩,0):=by
 intro left;induction left with
 | zero=>
  intro A Z s p hz hb;cases Z with
  | nil=>exact⟨s,p,rfl⟩
  | cons z Z=>simp at hz
 | succ left ih=>
  intro A Z s p hz hb;cases Z with
  | nil=>exact⟨s,p,rfl⟩
  | cons z Z=>
   simp only [List.length_cons]at hz hb;rw [bC,DE];rcases FR l (A++z::Z) A.length with ⟨h1,h2⟩ | ⟨j,r,h1,h2,h3⟩
   ·rw [if_pos (by rw [h1];decide),h2];refine ih _ _ _ _ (by omega) ?_;rw [List.length_append,List.length_singleton];have:K*(Z.length+1)=K*Z.length+K:=Nat.mul_succ _ _;omega
   rw [if_neg (by rw [h1];omega),h1,Int.toNat_natCast,h2,h3];simp only;obtain⟨g1,g2,g3,g4⟩:=hl r (List.mem_of_find?_eq_some h3);have hs:=xz (A:=A) (Z:=z::Z) (by simpa using List.find?_some h3);have Jh:=rq hs;simp only [List.length_cons]at Jh;obtain⟨c,hc⟩:∃ c:Nat,r.aa.toNat=c:=⟨_,rfl⟩;rw [hc]at g3 g4 ⊢;have hct:c≤r.target.length:=(by omega);have hlen:(r.target++(z::Z).drop r.source.length).length=r.target.length+(Z.length+1 - r.source.length):=(by simp);obtain⟨d,hd⟩:∃ d,Z.length+1=r.source.length+d:=⟨Z.length+1 - r.source.length,by omega⟩;have hmul:K*(Z.length+1)=K*r.source.length+K*d:=(by rw [hd,Nat.mul_add]);have hkd:d≤K*d:=Nat.le_mul_of_pos_left d hK;have hkt:r.target.length - c≤K*(r.target.length - c):=Nat.le_mul_of_pos_left _ hK;rw [if_neg (by rw [hlen];omega)];refine ih _ _ _ _ ?_ ?_
   ·rw [List.length_drop,hlen];omega
   rw [List.length_append,List.length_take,List.length_drop,hlen];have e1:min c (r.target.length+(Z.length+1 - r.source.length))=c:=(by omega);have e2:r.target.length+(Z.length+1 - r.source.length) - c=(r.target.length - c)+d:=(by omega);rw [e1,e2,Nat.mul_add];omega
end Go.Proofs.YthgkedoildcbcaaGreatDoor
