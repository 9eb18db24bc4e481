/- RunP + RefMatch + Scan -/
import Derived.Test.YtapechjebkjidaaGreatDoorZs31
import Derived.Test.YtapechjebkjidaaGreatDoorZs16
import Derived.Test.YtapechjebkjidaaGreatDoorZs18
import Derived.BigRegion
set_option maxHeartbeats 800000
set_option maxRecDepth 100000
namespace Go.Proofs.YtapechjebkjidaaGreatDoor
open Go.RowKit
structure JV where
  text:List Int
  steps:Nat
  put:Nat
def jd:JV:=⟨[],0,0⟩
def fk (l:List au):Nat→List Int→List Int→Nat→Nat→JV × Int
  | _,done,[],s,p=>(⟨done,s,p⟩,0)
  | 0,_,_::_,_,_=>(jd,9)
  | left+1,done,z::rest,s,p=>
    if gD l (done++z::rest) done.length<0 then fk l left (done++[z]) rest (s+1) p
    else match l[(gD l (done++z::rest) done.length).toNat]? with
      | none=>(jd,0)
      | some r=>
        if 4000<done.length+(r.target++(z::rest).drop r.source.length).length then (jd,4)
        else fk l left (done++(r.target++(z::rest).drop r.source.length).take r.aa.toNat) ((r.target++(z::rest).drop r.source.length).drop r.aa.toNat) (s+1) (p+1)
def gw (t:List Int):Int:=if 4000<t.length then 4 else if dh t=true then 3 else 0
def Dl (o:JV × Int):JV × (Int × Int):=if o.2≠0 then (jd,(o.2,0))else (o.1,(0,0))
theorem tZ (l:List au) (left:Nat) (done:List Int) (s p:Nat):fk l left done [] s p=(⟨done,s,p⟩,0):=by cases left <;> rfl
theorem Gh (l:List au) {Z:List Int} (done:List Int) (s p:Nat) (h:Z ≠ []):fk l 0 done Z s p=(jd,9):=by
 cases Z with
 | nil=>exact absurd rfl h
 | cons z Z=>rfl
theorem F6 {l:List au} {left:Nat} {done rest:List Int} {z:Int} {s p:Nat} (h:gD l (done++z::rest) done.length = -1):fk l (left+1) done (z::rest) s p=fk l left (done++[z]) rest (s+1) p:=by
 rw [fk,if_pos (by rw [h];decide)]
theorem FK {l:List au} {left:Nat} {done rest:List Int} {z:Int} {s p k:Nat} {r:au} (h:gD l (done++z::rest) done.length=(k:Int)) (hk:l[k]? = some r) (hm:4000<done.length+(r.target++(z::rest).drop r.source.length).length) :
    fk l (left+1) done (z::rest) s p=(jd,4):=by
 rw [fk,if_neg (by rw [h];omega),h,Int.toNat_natCast,hk];simp only;rw [if_pos hm]
theorem F0 {l:List au} {left:Nat} {done rest:List Int} {z:Int} {s p k:Nat} {r:au} (h:gD l (done++z::rest) done.length=(k:Int)) (hk:l[k]? = some r) (hm:¬ 4000<done.length+(r.target++(z::rest).drop r.source.length).length) :
    fk l (left+1) done (z::rest) s p=fk l left (done++(r.target++(z::rest).drop r.source.length).take r.aa.toNat) ((r.target++(z::rest).drop r.source.length).drop r.aa.toNat) (s+1) (p+1):=by
 rw [fk,if_neg (by rw [h];omega),h,Int.toNat_natCast,hk];simp only;rw [if_neg hm]
theorem Jj {r:au} {A Z:List Int} (h:bU r (A++Z) A.length=true):r.source.length≤Z.length:=by
 have h1:jl (A++Z) A.length r.source=true:=by
  unfold bU at h;simp only [Bool.and_eq_true]at h;exact h.1.1.1.1
 unfold jl at h1;split at h1
 ·cases h1
 rename_i hn;rw [not_or,List.length_append]at hn;omega
def Runes (t:List Int):Prop:=∀ x∈t,0≤x∧x≤1114111
theorem DW {t:List Int} (h:dh t=false):Runes t:=by
 intro x hx;unfold dh at h;have h2:aK x=true:=by
  have:=List.any_eq_false.1 h x hx;simpa using this
 unfold aK at h2;simp at h2;omega
theorem FJ (x:Int) (w:World):Calls Tryz.prog 67 #[.int .i32 x] w fun e w'=>e=.returned (.bool (!aK x))∧w'=w:=by
 go_enter Tryz.func67,Tryz.ntmps67;go_wp2_with fail;refine(eJ _ _).mono ?_;rintro e w1 ⟨rfl,rfl⟩;go_wp2_with fail;go_ret;exact⟨rfl,rfl⟩
theorem NK (A:Option Addr) (n c:Nat) (l:List Int) (w:World) (hn:n≤9223372036854775807) (hl:uD w w.heap.size A n l) :
    Calls Tryz.prog 94 #[.slice A n c,.func (.func 67) #[] #[]] w fun e w'=>(∃ k:Int,e=.returned (.int .i64 k)∧decide (0≤k)=dh l)∧Below w.heap.size w w':=by
 have aY:=Lib.hid hl.len;have HL:=Lib.hid hl;clear hl;go_enter Tryz.func94,Tryz.ntmps94;go_wp2_with fail;go_loopw [8] (Rk w l n) (fun i _=>n - (intOf i).toNat);(case atStart=>exact⟨0,Nat.zero_le _,rfl,rfl,Below.refl _ _⟩);obtain⟨j,hj,rfl,bf,hb⟩:=hrel;by_cases hlt:j<n
 ·obtain⟨x,hx⟩:∃ z,l[j]? = some z:=⟨_,List.getElem?_eq_getElem (by rw [aY.out];exact hlt)⟩;obtain⟨b,off,rfl,dL,c0⟩:=HL.out.at hlt;rw [show l.getD j 0=x by simp [List.getD,hx]]at c0;have d0:=(hb.cell (p:=⟨b,off+j,none⟩) dL).trans c0;rw [dN hx,show dh (x::l.drop (j+1))=(!aK x || dh (l.drop (j+1))) from rfl]at bf;have HG:=Lib.hid bf;have HX:=Lib.hid hx;clear bf hx c0;go_wp2_with fail;refine(FJ _ _).mono ?_;rintro e w1 ⟨rfl,rfl⟩;cases hr:aK x
  ·have HR:=Lib.hid hr;clear hr;go_wp2_with fail;go_ret;refine⟨⟨_,rfl,?_⟩,hb⟩;rw [HG.out,HR.out];simp
  have HR:=Lib.hid hr;clear hr;go_wp2_with fail;exact⟨⟨j+1,by omega,by go_num,by rw [HG.out,HR.out];rfl,hb⟩,by simp [intOf];omega⟩
 obtain rfl:j=n:=(by omega);rw [List.drop_of_length_le (by rw [aY.out];omega)]at bf;have HG:=Lib.hid (bf.trans (show dh [] = false from rfl));clear bf;go_wp2_with fail;go_ret;exact⟨⟨_,rfl,by rw [HG.out];rfl⟩,hb⟩
theorem DQ (A:Option Addr) (n c:Nat) (l:List Int) (w:World) (hn:n≤9223372036854775807) (hl:uD w w.heap.size A n l) :
    Calls Tryz.prog 66 #[.slice A n c,.func (.func 67) #[] #[]] w fun e w'=>e=.returned (.bool (dh l))∧Below w.heap.size w w':=by
 have H:=Lib.hid (NK A n c l w hn hl);clear hl;go_enter Tryz.func66,Tryz.ntmps66;go_wp2_with fail;refine H.out.mono ?_;rintro e w1 ⟨⟨k,rfl,hk⟩,hb⟩;have HK:=Lib.hid hk;clear hk;go_wp2_with fail;go_ret;refine⟨?_,hb⟩;rw [← HK.out];rfl
theorem xO (A:Option Addr) (n c:Nat) (t:List Int) (w:World) (hn:n≤maxLen) (ht:uD w w.heap.size A n t) :
    Calls Tryz.prog 44 #[.slice A n c] w fun e w'=>e=.returned (.int .i64 (gw t))∧Below w.heap.size w w':=by
 have hl:=ht.len;simp only [maxLen]at hn;have HC:=Lib.hid (DQ A n c t w (by omega) ht);clear ht;by_cases h4:4000<n
 ·have HP:=Lib.hid (show gw t=4 by unfold gw;rw [if_pos (by rw [hl];exact h4)]);clear hl;go_enter Tryz.func44,Tryz.ntmps44;go_wp2_with fail;go_ret;rw [HP.out];exact⟨rfl,Below.refl _ _⟩
 have HP:=Lib.hid (show gw t=if dh t=true then 3 else 0 by unfold gw;rw [if_neg (by rw [hl];exact h4)]);clear hl;go_enter Tryz.func44,Tryz.ntmps44;go_wp2_with fail;refine HC.out.mono ?_;rintro e w1 ⟨rfl,hb⟩;have HB:=Lib.hid hb;clear hb;cases Vz:dh t
 ·have oS:=Lib.hid (show gw t=0 by rw [HP.out,Vz];rfl);go_wp2_with fail;go_ret;rw [oS.out];exact⟨rfl,HB.out⟩
 have oS:=Lib.hid (show gw t=3 by rw [HP.out,Vz];rfl);go_wp2_with fail;go_ret;rw [oS.out];exact⟨rfl,HB.out⟩
theorem JR (n:Nat) (hn:n≤4000) (w:World):Calls Tryz.prog 135 #[.int .i64 n] w fun e w'=>e=.returned (.int .i64 (8*n+40:Nat))∧w'=w:=by
 have h:((8*n+40:Nat):Int)=8*(n:Int)+40:=(by omega);rw [h];clear h;go_enter Tryz.func135,Tryz.ntmps135;go_wp2_with fail;go_ret;exact⟨rfl,rfl⟩
def ox (w:World) (X:Nat→Prop) (l:List af) (xs:List Value):Prop:=xs.length=l.length∧∀ (i:Nat) (s:af) (u:Value),l[i]? = some s→xs[i]? = some u→iQ w X s u
theorem ox.keep {w w':World} {X X':Nat→Prop} {l:List af} {xs:List Value} (hk:ag w X w' X') (h:ox w X l xs):ox w' X' l xs:=⟨h.1,fun i s u h1 h2=>(h.2 i s u h1 h2).keep hk⟩
theorem ox.one {w:World} {X:Nat→Prop} {l:List af} {xs:List Value} (h:ox w X l xs):∀ u∈xs,u.oneCell'=true:=by
 intro u hu;obtain⟨i,hi⟩:=List.mem_iff_getElem?.1 hu;obtain⟨s,hs⟩:∃ s,l[i]? = some s:=⟨_,List.getElem?_eq_getElem (by rw [← h.1];exact(List.getElem?_eq_some_iff.1 hi).1)⟩;obtain⟨A,n,c,rfl,_⟩:=h.2 i s u hs hi;rfl
def cP (l:List au):Nat→List Int→List Int→List Int
  | _,A,[]=>A
  | 0,A,_::_=>A
  | f+1,A,z::Z=>match l.find? (fun r=>bU r (A++z::Z) A.length)with
    | none=>cP l f (A++[z]) Z
    | some r=>cP l f (A++(r.target++(z::Z).drop r.source.length).take r.aa.toNat) ((r.target++(z::Z).drop r.source.length).drop r.aa.toNat)
theorem AK (l:List au) (f:Nat) (A:List Int):cP l f A [] = A:=by cases f <;> rfl
theorem EH (l:List au) (T:List Int) (q:Nat):∀ (n k:Nat),k+n=l.length →
    (ec l T q ((List.range' k n).map fun i:Nat=>(i:Int)) = -1∧(l.drop k).find? (fun r=>bU r T q)=none) ∨
    ∃ (j:Nat) (r:au),ec l T q ((List.range' k n).map fun i:Nat=>(i:Int))=(j:Int)∧l[j]? = some r∧(l.drop k).find? (fun r=>bU r T q)=some r:=by
 intro n;induction n with
 | zero=>
  intro k hk;refine .inl ⟨rfl,?_⟩;rw [List.drop_of_length_le (by omega)];rfl
 | succ n ih=>
  intro k hk;have hlt:k<l.length:=(by omega);rw [List.range'_succ,List.map_cons,ec,List.drop_eq_getElem_cons hlt];have hh:hereAt l T q (k:Int)=bU l[k] T q:=by
   unfold hereAt;rw [Int.toNat_natCast,List.getElem?_eq_getElem hlt]
  rw [hh];cases hq:bU l[k] T q with
  | true=>
   refine .inr ⟨k,l[k],?_,List.getElem?_eq_getElem hlt,?_⟩
   ·rw [if_pos rfl]
   rw [List.find?_cons,hq]
  | false=>
   rw [if_neg (by decide),List.find?_cons,hq];exact ih (k+1) (by omega)
theorem Hs (l:List au) (T:List Int) (q:Nat) :
    (gD l T q = -1∧l.find? (fun r=>bU r T q)=none)∨∃ (j:Nat) (r:au),gD l T q=(j:Int)∧l[j]? = some r∧l.find? (fun r=>bU r T q)=some r:=by
 have:=EH l T q l.length 0 (by omega);rw [List.drop_zero,← List.range_eq_range']at this;exact this
def zc (K:Nat) (r:au):Prop:=0≤r.aa∧r.aa≤r.target.length∧r.target.length<r.source.length+r.aa.toNat∧r.aa.toNat+K*(r.target.length - r.aa.toNat)≤K*r.source.length
theorem nk:∀ {l:List af} {t:List Int},bJ l t=true→l.length≤t.length:=by
 intro l;induction l with
 | nil=>intro t _;exact Nat.zero_le _
 | cons s l ih=>
  intro t h;cases t with
  | nil=>cases h
  | cons x t=>
   rw [bJ,Bool.and_eq_true]at h;have:=ih h.2;simp only [List.length_cons];omega
theorem yB {r:au} {A Z:List Int} (h:bU r (A++Z) A.length=true):bJ r.source Z=true:=by
 unfold bU at h;simp only [Bool.and_eq_true]at h;have h1:=h.1.1.1.1;unfold jl at h1;split at h1
 ·cases h1
 rwa [Int.toNat_natCast,List.drop_left]at h1
theorem LQ (l:List au) (K:Nat) (hK:1≤K) (hl:∀ r∈l,zc K r):∀ (left:Nat) (A Z:List Int) (s p:Nat),Z.length≤left→A.length+K*Z.length≤4000→∃ s' p',fk l left A Z s p=(⟨cP l left A Z,s',p'⟩,0):=by
 intro left;induction left with
 | zero=>
  intro A Z s p hz hb;cases Z with
  | nil=>exact⟨s,p,rfl⟩
  | cons z Z=>simp at hz
 | succ left ih=>
  intro A Z s p hz hb;cases Z with
  | nil=>exact⟨s,p,rfl⟩
  | cons z Z=>
   simp only [List.length_cons]at hz hb;rw [fk,cP];rcases Hs l (A++z::Z) A.length with ⟨h1,h2⟩ | ⟨j,r,h1,h2,h3⟩
   ·rw [if_pos (by rw [h1];decide),h2];refine ih _ _ _ _ (by omega) ?_;rw [List.length_append,List.length_singleton];have:K*(Z.length+1)=K*Z.length+K:=Nat.mul_succ _ _;omega
   rw [if_neg (by rw [h1];omega),h1,Int.toNat_natCast,h2,h3];simp only;obtain⟨g1,g2,g3,g4⟩:=hl r (List.mem_of_find?_eq_some h3);have hs:=yB (A:=A) (Z:=z::Z) (by simpa using List.find?_some h3);have Np:=nk hs;simp only [List.length_cons]at Np;obtain⟨c,hc⟩:∃ c:Nat,r.aa.toNat=c:=⟨_,rfl⟩;rw [hc]at g3 g4 ⊢;have hct:c≤r.target.length:=(by omega);have hlen:(r.target++(z::Z).drop r.source.length).length=r.target.length+(Z.length+1 - r.source.length):=(by simp);obtain⟨d,hd⟩:∃ d,Z.length+1=r.source.length+d:=⟨Z.length+1 - r.source.length,by omega⟩;have hmul:K*(Z.length+1)=K*r.source.length+K*d:=(by rw [hd,Nat.mul_add]);have hkd:d≤K*d:=Nat.le_mul_of_pos_left d hK;have hkt:r.target.length - c≤K*(r.target.length - c):=Nat.le_mul_of_pos_left _ hK;rw [if_neg (by rw [hlen];omega)];refine ih _ _ _ _ ?_ ?_
   ·rw [List.length_drop,hlen];omega
   rw [List.length_append,List.length_take,List.length_drop,hlen];have e1:min c (r.target.length+(Z.length+1 - r.source.length))=c:=(by omega);have e2:r.target.length+(Z.length+1 - r.source.length) - c=(r.target.length - c)+d:=(by omega);rw [e1,e2,Nat.mul_add];omega
def Plain (r:au):Prop:=r.start=false∧r.fin=false∧r.before = []∧r.after = []∧r.aa=r.target.length
theorem Hg {r:au} (h:Plain r) (A Z:List Int):bU r (A++Z) A.length=bJ r.source Z:=by
 obtain⟨h1,h2,h3,h4,_⟩:=h;cases hs:bJ r.source Z with
 | false=>
  rw [Bool.eq_false_iff];intro hh;rw [yB hh]at hs;cases hs
 | true=>
  have hl:=nk hs;unfold bU;rw [h1,h2,h3,h4];unfold jl;rw [if_neg (by simp;omega),Int.toNat_natCast,List.drop_left,hs,if_neg (by simp;omega),if_neg (by simp;omega)];rfl
def PU (l:List au) (x:Int):List Int:=match l.find? (fun r=>bJ r.source [x])with | none=>[x] | some r=>r.target
theorem Me (l:List au) (hl:∀ r∈l,Plain r∧r.source.length=1):∀ (f:Nat) (A Z:List Int),Z.length≤f→cP l f A Z=A++Z.flatMap (PU l):=by
 intro f;induction f with
 | zero=>
  intro A Z h;cases Z with
  | nil=>simp [cP]
  | cons z Z=>simp at h
 | succ f ih=>
  intro A Z h;cases Z with
  | nil=>simp [cP]
  | cons z Z=>
   simp only [List.length_cons]at h;have he:l.find? (fun r=>bU r (A++z::Z) A.length)=l.find? (fun r=>bJ r.source [z]):=by
    clear ih h;induction l with
    | nil=>rfl
    | cons r l ih2=>
     rw [List.find?_cons,List.find?_cons,ih2 (fun r hr=>hl r (List.mem_cons_of_mem _ hr))];obtain⟨h1,h2⟩:=hl r List.mem_cons_self;rw [Hg h1];obtain⟨s,hs⟩:∃ s,r.source = [s]:=List.length_eq_one_iff.1 h2;rw [hs];simp [bJ]
   rw [cP,he,List.flatMap_cons,PU];cases hf:l.find? (fun r=>bJ r.source [z])with
   | none=>
    simp only;rw [ih _ _ (by omega),List.append_assoc]
   | some r=>
    obtain⟨h1,h2⟩:=hl r (List.mem_of_find?_eq_some hf);simp only;rw [h1.2.2.2.2,Int.toNat_natCast,h2,List.take_left,List.drop_left,List.drop_one,List.tail_cons,ih _ _ (by omega),List.append_assoc]
theorem Bv:∀ {l:List af} {t:List Int},t.length<l.length→bJ l t=false:=by
 intro l t h;rw [Bool.eq_false_iff];intro hh;have:=nk hh;omega
theorem CD (t:List Int) (q:Nat) (l:List af) (hq:q≤t.length):jl t q l=bJ l (t.drop q):=by
 unfold jl;by_cases h:(q:Int)<0∨(t.length:Int) - (l.length:Int)<q
 ·rw [if_pos h,Bv (by rw [List.length_drop];omega)]
 rw [if_neg h,Int.toNat_natCast]
theorem lK (r:au) (A Z:List Int):bU r (A++Z) A.length =
    (bJ r.source Z && (decide (r.before.length≤A.length) && bJ r.before (A.drop (A.length - r.before.length)++Z)) && bJ r.after (Z.drop r.source.length) && !(r.start && decide (A.length≠r.before.length)) && !(r.fin && decide (r.source.length+r.after.length≠Z.length))):=by
 cases hs:bJ r.source Z with
 | false=>
  simp only [Bool.false_and];rw [Bool.eq_false_iff];intro hh;rw [yB hh]at hs;cases hs
 | true=>
  have hl:=nk hs;unfold bU;rw [CD _ _ _ (by simp),List.drop_left,hs];have h2:jl (A++Z) ((A.length:Int) - r.before.length) r.before=(decide (r.before.length≤A.length) && bJ r.before (A.drop (A.length - r.before.length)++Z)):=by
   by_cases hb:r.before.length≤A.length
   ·rw [show((A.length:Int) - r.before.length)=((A.length - r.before.length:Nat):Int) by omega,CD _ _ _ (by simp;omega),decide_eq_true hb,Bool.true_and,List.drop_append_of_le_length (by omega)]
   unfold jl;rw [if_pos (.inl (by omega)),decide_eq_false hb,Bool.false_and]
  have h3:jl (A++Z) ((A.length:Int)+r.source.length) r.after=bJ r.after (Z.drop r.source.length):=by
   rw [show((A.length:Int)+r.source.length)=((A.length+r.source.length:Nat):Int) by omega,CD _ _ _ (by simp;omega),List.drop_append];rw [List.drop_of_length_le (by omega),Nat.add_sub_cancel_left,List.nil_append]
  have h4:decide (A.length+r.source.length+r.after.length≠(A++Z).length)=decide (r.source.length+r.after.length≠Z.length):=by
   rw [List.length_append];simp only [decide_eq_decide];omega
  rw [h2,h3,h4,Bool.true_and]
theorem AR (A:List Int) (Z:List Int):∀ (S:af),(decide (1≤A.length) && bJ [S] (A.drop (A.length - 1)++Z))=(match A.getLast? with | some x=>bk S x | none=>false):=by
 intro S;rcases List.eq_nil_or_concat A with h | ⟨B,x,h⟩
 ·subst h;rfl
 subst h;rw [List.concat_eq_append];simp [bJ]
theorem ny {l:List au} {f:Nat} {A Z:List Int} {z:Int} (h:l.find? (fun r=>bU r (A++z::Z) A.length)=none):cP l (f+1) A (z::Z)=cP l f (A++[z]) Z:=by
 rw [cP,h]
theorem iC {l:List au} {f:Nat} {A Z:List Int} {z:Int} {r:au} (h:l.find? (fun r=>bU r (A++z::Z) A.length)=some r) (hc:r.aa=r.target.length):cP l (f+1) A (z::Z)=cP l f (A++r.target) ((z::Z).drop r.source.length):=by
 rw [cP,h];simp only;rw [hc,Int.toNat_natCast,List.take_left,List.drop_left]
theorem oc (a x:Int):bk [(a,a)] x=decide (x=a):=by
 unfold bk;simp only [List.any_cons,List.any_nil,Bool.or_false];rw [Bool.eq_iff_iff];simp;omega
theorem Am (A:List Int) (z:Int):(A++[z]).getLast? = some z:=by simp
end Go.Proofs.YtapechjebkjidaaGreatDoor
