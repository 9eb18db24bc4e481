/- Kinds + Right + BytesText + RunesValid + Turn + ShTxt + Named + Pass + OneLaw + Decode + Strs + Near -/
import Derived.Test.YthgkedoildcbcaaGreatDoorZtH
import Derived.Test.YthgkedoildcbcaaGreatDoorZt3
import Derived.Test.YthgkedoildcbcaaGreatDoorRows
import Derived.Lib.RuneBytes
import Derived.Test.YthgkedoildcbcaaGreatDoorZt2
import Derived.Lib.MapLaws
import Derived.Laws.Runes
import Derived.Lib.ConvBytes
import Derived.Lib.FrozenHead
set_option maxHeartbeats 1600000
set_option maxRecDepth 100000
namespace Go.Proofs.YthgkedoildcbcaaGreatDoor
open Go.RowKit
def sP (w:World) (base:Nat) (v:Value) (l:List Int):Prop:=w.ownsRow base 21 1 v l.length (runeCells l)
theorem sP.nil (w:World) (base:Nat):sP w base (.slice none 0 0) []:=World.ownsRow_nil _ _ _ _
theorem sP.of {w w':World} {base n:Nat} {v v':Value} {xs:List Value} {l:List Int}
    (h:aR base 21 1 v w n xs v' w') (hn:l.length=n) (hx:runeCells l=xs):sP w' base v' l:=by
 subst hn hx;exact h.own
theorem fH (a b:List Int):runeCells (a++b)=runeCells a++runeCells b:=by simp [runeCells]
theorem bk (a:List Int):∀ u∈runeCells a,u.oneCell'=true:=by
 intro u hu;simp only [runeCells,List.mem_map]at hu;obtain⟨k,_,rfl⟩:=hu;rfl
theorem Tryz.info21:(Tryz.prog.info? 21).map (fun i=>(i.zero,i.size,i.bytes))=some (some (.int .i32 0),1,4):=by kernel_rfl
theorem sP.rd {w:World} {base:Nat} {A:Option Addr} {n c:Nat} {l:List Int} (h:sP w base (.slice A n c) l) (hn:l.length=n):mc w w.heap.size A n l:=by
 subst hn;exact Rd.cy h
def intCells (l:List Int):List Value:=l.map (Value.int .i64)
def JL (w:World) (base:Nat) (v:Value) (l:List Int):Prop:=w.ownsRow base 3 1 v l.length (intCells l)
theorem JL.nil (w:World) (base:Nat):JL w base (.slice none 0 0) []:=World.ownsRow_nil _ _ _ _
theorem JL.of {w w':World} {base n:Nat} {v v':Value} {xs:List Value} {l:List Int}
    (h:aR base 3 1 v w n xs v' w') (hn:l.length=n) (hx:intCells l=xs):JL w' base v' l:=by
 subst hn hx;exact h.own
theorem Tryz.info3:(Tryz.prog.info? 3).map (fun i=>(i.zero,i.size,i.bytes))=some (some (.int .i64 0),1,8):=by kernel_rfl
def NP (w:World) (B:Nat) (A:Option Addr) (n:Nat) (l:List Int):Prop:=Rd w B 1 A n (intCells l)
theorem NP.len {w:World} {B n:Nat} {A:Option Addr} {l:List Int} (h:NP w B A n l):l.length=n:=by
 have:=h.1;simp [intCells]at this;omega
theorem NP.at {w:World} {B n:Nat} {A:Option Addr} {l:List Int} (h:NP w B A n l) {k:Nat} {x:Int} (hk:l[k]? = some x) :
    ∃ b off:Nat,A=some ⟨b,off,none⟩∧b<B∧w.cell? ⟨b,off+k,none⟩=some (.int .i64 x):=by
 have hl:k<l.length:=(List.getElem?_eq_some_iff.1 hk).1;have:=h.len;obtain⟨b,off,e,hb,hc⟩:=h.2 (by omega);exact⟨b,off,e,hb,hc k _ (by simp [intCells,hk])⟩
theorem JL.rd {w:World} {base:Nat} {A:Option Addr} {n c:Nat} {l:List Int} (h:JL w base (.slice A n c) l) (hn:l.length=n):NP w w.heap.size A n l:=by
 subst hn;exact Rd.cy h
end Go.Proofs.YthgkedoildcbcaaGreatDoor
namespace Go.Proofs.YthgkedoildcbcaaGreatDoor
open Go.RowKit
def bg (r:Int):Bool:=decide ((0≤r∧r<55296)∨(57343<r∧r≤1114111))
theorem mz {r:Int} (h:bg r=true):0≤r∧r≤1114111:=by
 simp [bg]at h;omega
theorem FU (r:Int) (w:World) :
    Calls Tryz.prog 51 #[.int .i32 r] w fun e w'=>e=.returned (.bool (bg r))∧w=w':=by
 go_enter Tryz.func51,Tryz.ntmps51;go_wp2;(all_goals go_ret);(all_goals refine⟨bB ?_,rfl⟩);(all_goals (rw [Bool.eq_iff_iff];simp [bg];try omega))
theorem gY (r:Int) (w:World) :
    Calls Tryz.prog 29 #[.int .i32 r] w fun e w'=>e=.returned (.bool (bg r))∧w=w':=by
 go_enter Tryz.func29,Tryz.ntmps29;go_wp2_with (go_at_call 51;refine(FU _ _).mono ?_;rintro e w' ⟨rfl,rfl⟩);go_ret;exact⟨rfl,rfl⟩
end Go.Proofs.YthgkedoildcbcaaGreatDoor
namespace Go.Proofs.YthgkedoildcbcaaGreatDoor
open Go.RowKit
def bytesOf (l:List Int):List UInt8:=l.flatMap Lib.encodeRune
theorem EB (l:List Int):(bytesOf l).length≤4*l.length:=by
 induction l with
 | nil=>simp [bytesOf]
 | cons a l ih=>
  have h1:(Lib.encodeRune a).length≤4:=(by rw [← Lib.runeCells_length];exact(Lib.runeCells_le a).2);simp only [bytesOf,List.flatMap_cons,List.length_append,List.length_cons]at ih ⊢;omega
def Og (l:List Int):ByteArray × Int:=if l.all bg then (⟨(bytesOf l).toArray⟩,0)else (⟨#[]⟩,3)
end Go.Proofs.YthgkedoildcbcaaGreatDoor
namespace Go.Proofs.YthgkedoildcbcaaGreatDoor
theorem r9 (s:ByteArray) (p:Nat):bg ((Utf8.decode s p).1:Int)=true:=by
 rw [Lib.decode_at];have key:∀ n b0 b1 b2 b3,bg ((Lib.decodeN n b0 b1 b2 b3).1:Int)=true:=by
  intro n b0 b1 b2 b3;unfold Lib.decodeN;(repeat' split);(all_goals simp [bg]);(all_goals omega)
 exact key _ _ _ _ _
theorem qH (s:ByteArray):∀ (f p:Nat),s.size - p≤f→(bJ s p).all bg=true:=by
 intro f;induction f with
 | zero=>intro p h;rw [cV s p (by omega)];rfl
 | succ f ih=>
  intro p h;by_cases hp:p<s.size
  ·have hd:=eS s p hp;rw [eT s p hp,List.all_cons,r9 s p,ih _ (by omega)];rfl
  rw [cV s p hp];rfl
theorem mG (s:ByteArray):∀ x∈bJ s 0,Utf8.valid x=true:=by
 intro x hx;have:=List.all_eq_true.1 (qH s s.size 0 (by omega)) x hx;rw [validRune_eq];unfold validRune;simpa [bg] using this
end Go.Proofs.YthgkedoildcbcaaGreatDoor
namespace Go.Proofs.YthgkedoildcbcaaGreatDoor
theorem iF (z:Int) (_h0:0≤z) (h1:z<256):(z.toNat.toUInt8).toNat=z.toNat:=by
 simp [Nat.toUInt8,UInt8.toNat_ofNat'];omega
theorem Fx (r:Int) (h:bg r=true):Utf8.decode ⟨(Lib.encodeRune r).toArray⟩ 0=(r.toNat,(Lib.encodeRune r).length):=by
 have vG:=mz h;simp [bg]at h;have key:Lib.decodeL (Lib.encodeRune r)=(r.toNat,(Lib.encodeRune r).length):=by
  rw [Lib.decodeL_N];unfold Lib.encodeRune;by_cases h1:r≤127
  ·rw [Lib.encodeRuneZ_one vG.1 h1];simp only [List.map_cons,List.map_nil,List.length_cons,List.length_nil,List.getD_cons_zero];rw [iF r (by omega) (by omega)];unfold Lib.decodeN;rw [if_pos (by omega)]
  by_cases h2:r≤2047
  ·rw [Lib.encodeRuneZ_two (by omega) h2];simp only [List.map_cons,List.map_nil,List.length_cons,List.length_nil,List.getD_cons_zero,List.getD_cons_succ];rw [iF _ (by omega) (by omega),iF (128+r % 64) (by omega) (by omega)];unfold Lib.decodeN;rw [if_neg (by omega),if_pos (by omega),if_pos (by omega)];congr 1;omega
  by_cases h3:r≤65535
  ·rw [Lib.encodeRuneZ_three (by omega)];simp only [List.map_cons,List.map_nil,List.length_cons,List.length_nil,List.getD_cons_zero,List.getD_cons_succ];rw [iF _ (by omega) (by omega),iF (128+r / 64 % 64) (by omega) (by omega),iF (128+r % 64) (by omega) (by omega)];unfold Lib.decodeN;rw [if_neg (by omega),if_neg (by omega),if_pos (by omega),if_pos (by omega)];congr 1;omega
  rw [Lib.encodeRuneZ_four (by omega) (by omega)];simp only [List.map_cons,List.map_nil,List.length_cons,List.length_nil,List.getD_cons_zero,List.getD_cons_succ];rw [iF _ (by omega) (by omega),iF (128+r / 4096 % 64) (by omega) (by omega),iF (128+r / 64 % 64) (by omega) (by omega),iF (128+r % 64) (by omega) (by omega)];unfold Lib.decodeN;rw [if_neg (by omega),if_neg (by omega),if_neg (by omega),if_pos (by omega),if_pos (by omega)];congr 1;omega
 exact key
theorem PU (r:Int):1≤(Lib.encodeRune r).length:=by
 rw [← Lib.runeCells_length];exact(Lib.runeCells_le r).1
theorem Hh (l:List UInt8):(⟨l.toArray⟩:ByteArray).size=l.length:=by simp [ByteArray.size]
theorem KV (r:Int) (h:bg r=true):bJ ⟨(Lib.encodeRune r).toArray⟩ 0 = [r]∧spoilt ⟨(Lib.encodeRune r).toArray⟩ 0=0:=by
 have hd:=Fx r h;have hp:=PU r;have hr:=mz h;have hsz:=Hh (Lib.encodeRune r);rw [eT _ _ (by omega),gV _ _ (by omega)];unfold lu;rw [hd];dsimp only;rw [cV _ _ (by omega),gM _ _ (by omega)];refine⟨by rw [Int.toNat_of_nonneg hr.1],?_⟩;have:(r.toNat == 65533 && (Lib.encodeRune r).length == 1)=false:=by
  by_cases hc:r=65533
  ·subst hc;decide +kernel
  have:(r.toNat == 65533)=false:=(by rw [beq_eq_false_iff_ne];omega);rw [this];rfl
 rw [this];rfl
theorem Iz (a b:List UInt8):(⟨(a++b).toArray⟩:ByteArray)=⟨a.toArray⟩++⟨b.toArray⟩:=by
 apply ByteArray.ext;simp
theorem xm (l:List Int) (h:l.all bg=true):bJ ⟨(bytesOf l).toArray⟩ 0=l∧spoilt ⟨(bytesOf l).toArray⟩ 0=0:=by
 induction l with
 | nil=>rw [cV _ _ (by simp [bytesOf,ByteArray.size]),gM _ _ (by simp [bytesOf,ByteArray.size])];exact⟨rfl,rfl⟩
 | cons r l ih=>
  simp only [List.all_cons,Bool.and_eq_true]at h;obtain⟨h1,h2⟩:=ih h.2;obtain⟨h3,h4⟩:=KV r h.1;have e:bytesOf (r::l)=Lib.encodeRune r++bytesOf l:=(by simp [bytesOf]);rw [e,Iz];obtain⟨j1,j2⟩:=ME ⟨(Lib.encodeRune r).toArray⟩ ⟨(bytesOf l).toArray⟩ _ 0 (Nat.le_refl _) (Nat.zero_le _) h4;rw [j1,j2,h3,h1,h2];exact⟨rfl,rfl⟩
theorem DQ (s:ByteArray):∀ (f p:Nat),s.size - p≤f→p≤s.size→spoilt s p=0→bytesOf (bJ s p)=s.data.toList.drop p:=by
 have hlen:s.data.toList.length=s.size:=(by rw [Array.length_toList];rfl);intro f;induction f with
 | zero=>
  intro p h hp _;rw [cV s p (by omega),List.drop_of_length_le (by omega)];rfl
 | succ f ih=>
  intro p h hp h0;by_cases hlt:p<s.size
  ·have hd:=eS s p hlt;rw [gV s p hlt]at h0;have hb:lu s p=false:=by
    cases hb:lu s p;rfl;rw [hb]at h0;simp at h0
   have hI:=ih (p+(Utf8.decode s p).2) (by omega) (by omega) (by omega);have Yu:=Lib.decodeL_drop s p;have Ve:=Lib.encode_decode (s.data.toList.drop p) (by intro e;have:=congrArg List.length e;simp at this;omega) (by
    rw [Yu];rintro⟨h1,h2⟩;unfold lu at hb;rw [h1,h2]at hb;simp at hb)
   rw [Yu]at Ve;rw [eT s p hlt];have e:bytesOf (((Utf8.decode s p).1:Int)::bJ s (p+(Utf8.decode s p).2))=Lib.encodeRune ((Utf8.decode s p).1:Int)++bytesOf (bJ s (p+(Utf8.decode s p).2)):=(by simp [bytesOf]);rw [e,Ve,hI,← List.drop_drop,List.take_append_drop]
  rw [cV s p hlt,List.drop_of_length_le (by omega)];rfl
theorem zX (s:ByteArray):Og (bJ s 0)=(⟨(bytesOf (bJ s 0)).toArray⟩,0)∧((⟨(bytesOf (bJ s 0)).toArray⟩:ByteArray)=s↔spoilt s 0=0):=by
 have hr:=qH s s.size 0 (by omega);refine⟨by unfold Og;rw [hr];rfl,⟨fun h=>?_,fun h=>?_⟩⟩
 ·have:=(xm _ hr).2;rw [h]at this;exact this
 rw [DQ s s.size 0 (by omega) (by omega) h];simp
end Go.Proofs.YthgkedoildcbcaaGreatDoor
namespace Go.Proofs.YthgkedoildcbcaaGreatDoor
open Go.RowKit
def fC (l:List Int):ByteArray:=⟨(bytesOf l).toArray⟩
theorem Kr (a b:List Int):bytesOf (a++b)=bytesOf a++bytesOf b:=by simp [bytesOf]
theorem G9 (l m:List Int):fC l++fC m=fC (l++m):=by
 unfold fC;rw [Kr];apply ByteArray.ext;rw [ByteArray.data_append];simp
theorem VS (l:List Int):(fC l).size≤4*l.length:=by
 have h:=EB l;unfold fC;rwa [Hh]
theorem T2 {l:List Int} (h:l.all bg=true):bJ (fC l) 0=l:=(xm l h).1
theorem Yn:(⟨#[]⟩:ByteArray)=fC []:=rfl
theorem YS (r:Int):(⟨(Lib.encodeRune r).toArray⟩:ByteArray)=fC [r]:=by unfold fC bytesOf;simp
theorem Ye {l:List Int} (h:l.all bg=true):Og l=(fC l,0):=by unfold Og;rw [if_pos h];rfl
theorem TB {α β:Type} (T:α→List β) (l:List α) (k:Nat) (r:α) (h:l[k]? = some r):(l.take (k+1)).flatMap T=(l.take k).flatMap T++T r:=by
 obtain⟨hk,rfl⟩:=List.getElem?_eq_some_iff.1 h;rw [List.take_succ_eq_append_getElem hk,List.flatMap_append,List.flatMap_cons,List.flatMap_nil,List.append_nil]
theorem XD {α β:Type} (T:α→List β) (m:Nat) (l:List α) (h:∀ r∈l,(T r).length≤m):(l.flatMap T).length≤m*l.length:=by
 induction l with
 | nil=>simp
 | cons a l ih=>
  have h1:=h a (by simp);have h2:=ih (fun r hr=>h r (by simp [hr]));rw [List.flatMap_cons,List.length_append,List.length_cons,Nat.mul_succ];omega
theorem drop_cons {α:Type} {l:List α} {k:Nat} {r:α} (h:l[k]? = some r):l.drop k=r::l.drop (k+1):=by
 obtain⟨hk,rfl⟩:=List.getElem?_eq_some_iff.1 h;exact List.drop_eq_getElem_cons hk
end Go.Proofs.YthgkedoildcbcaaGreatDoor
namespace Go.Proofs.YthgkedoildcbcaaGreatDoor
open Go.RowKit
def nR (i:Nat) (c:UInt8):Bool:=decide ((97≤c.toNat∧c.toNat≤122)∨c.toNat=95∨(0<i∧48≤c.toNat∧c.toNat≤57))
def eI (s:ByteArray):Bool:=decide (1≤s.size∧s.size≤20∧∀ i (h:i<s.size),nR i s[i] = true)
theorem Lb {s:ByteArray} {j:Nat} (h:j<s.size) (hc:nR j s[j] = false):eI s=false:=by
 unfold eI;rw [decide_eq_false_iff_not];intro h2;rw [h2.2.2 j h]at hc;cases hc
def U' (w:World) (s:ByteArray) (i:Value) (wr:World):Prop :=
  ∃ j:Nat,j≤s.size∧i=.int .i64 j∧(∀ k (h:k<s.size),k<j→nR k s[k] = true)∧wr=w
theorem OA {s:ByteArray} {j:Nat} (h:j<s.size) (hc:nR j s[j] = true) (hp:∀ k (h:k<s.size),k<j→nR k s[k] = true):∀ k (h:k<s.size),k<j+1→nR k s[k] = true:=by
 intro k hk hlt;by_cases e:k=j
 ·subst e;exact hc
 exact hp k hk (by omega)
theorem jE (s:ByteArray) (w:World) :
    Calls Tryz.prog 88 #[.string s] w fun e w'=>e=.returned (.bool (eI s))∧w=w':=by
 by_cases hs:1≤s.size∧s.size≤20
 ·obtain⟨hs1,nj⟩:=hs;go_enter Tryz.func88,Tryz.ntmps88;go_wp2_with fail;go_loopw [15] (U' w s) (fun i _=>s.size - (intOf i).toNat);(case atStart=>exact⟨0,Nat.zero_le _,rfl,by omega,rfl⟩);obtain⟨j,hj,rfl,hall,rfl⟩:=hrel;by_cases hlt:j<s.size
  ·have hx:s[j].toNat<256:=UInt8.toNat_lt s[j];cases hc:nR j s[j]
   ·have HN:=qqh (Lb hlt hc);have hc2:s[j].toNat<48∨(57<s[j].toNat∧s[j].toNat<95)∨(95<s[j].toNat∧s[j].toNat<97)∨122<s[j].toNat∨(j=0∧48≤s[j].toNat∧s[j].toNat≤57):=by
     simp [nR]at hc;omega
    have h95:((s[j].toNat:Int) != 95)=true:=(by simp;omega);clear hc hall;by_cases hj0:j=0
    ·subst hj0;rcases (show s[0].toNat<97∨122<s[0].toNat by omega)with h1 | h1
     all_goals
       go_wp2_with fail
       go_ret
       rw [HN.out]
       exact⟨rfl,rfl⟩
    have Q6:((j:Int) == 0)=false:=(by simp;omega);rcases (show s[j].toNat<48∨(57<s[j].toNat∧s[j].toNat<97)∨122<s[j].toNat by omega)with h1 | ⟨h1,h2⟩ | h1
    all_goals
      go_wp2_with fail
      go_ret
      rw [HN.out]
      exact⟨rfl,rfl⟩
   have HA:=qqh (OA hlt hc hall);have hc2:(97≤s[j].toNat∧s[j].toNat≤122)∨s[j].toNat=95∨(0<j∧48≤s[j].toNat∧s[j].toNat≤57):=by
    simpa [nR] using hc
   clear hc hall;rcases hc2 with ⟨h1,h2⟩ | h1 | ⟨h1,h2,h3⟩
   ·go_wp2_with fail;exact⟨⟨j+1,by omega,by go_num,HA.out,rfl⟩,by simp [intOf];omega⟩
   ·have h95:((s[j].toNat:Int) != 95)=false:=(by simp;omega);go_wp2_with fail;exact⟨⟨j+1,by omega,by go_num,HA.out,rfl⟩,by simp [intOf];omega⟩
   have h95:((s[j].toNat:Int) != 95)=true:=(by simp;omega);have Q6:((j:Int) == 0)=false:=(by simp;omega);go_wp2_with fail;exact⟨⟨j+1,by omega,by go_num,HA.out,rfl⟩,by simp [intOf];omega⟩
  have hP:eI s=true:=by
   unfold eI;rw [decide_eq_true_iff];exact⟨hs1,nj,fun i h=>hall i h (by omega)⟩
  have HP:=qqh hP;clear hall hP;go_wp2_with fail;go_ret;rw [HP.out];exact⟨rfl,rfl⟩
 have HP:=qqh (show eI s=false by
  unfold eI;rw [decide_eq_false_iff_not];exact fun h=>hs ⟨h.1,h.2.1⟩)
 have nj:s.size<1∨(1≤s.size∧20<s.size):=(by omega);clear hs;rcases nj with h1 | ⟨h1,h2⟩
 all_goals
   go_enter Tryz.func88,Tryz.ntmps88
   go_wp2_with fail
   go_ret
   rw [HP.out]
   exact⟨rfl,rfl⟩
end Go.Proofs.YthgkedoildcbcaaGreatDoor
namespace Go.Proofs.YthgkedoildcbcaaGreatDoor
open Go.RowKit
def fX:ByteArray:=⟨#[108,111,119,101,114]⟩
def lg:ByteArray:=⟨#[110,117,108,108]⟩
def iB:ByteArray:=⟨#[114,101,109,111,118,101]⟩
def fY:ByteArray:=⟨#[117,112,112,101,114]⟩
def uJ (s:ByteArray) (l:List ByteArray):Bool:=l.any fun t=>s.toList == t.toList
def kE (s:ByteArray):Bool:=uJ s [fX,lg,iB,fY]
theorem Ni (s t:ByteArray) (l:List ByteArray):uJ s (t::l)=((s.toList == t.toList) || uJ s l):=rfl
theorem Nc {α:Type} {l:List α} {j:Nat} {x:α} (h:l[j]? = some x):l.drop j=x::l.drop (j+1):=by
 obtain⟨hj,rfl⟩:=List.getElem?_eq_some_iff.1 h;exact List.drop_eq_getElem_cons hj
def Xs (W:World) (s:ByteArray) (l:List ByteArray) (n:Nat) (i:Value) (wr:World):Prop :=
  ∃ k:Nat,k≤n∧i=.int .i64 k∧uJ s l=uJ s (l.drop k)∧wr=W
theorem JX (b off n c:Nat) (s:ByteArray) (l:List ByteArray) (hn:l.length=n) (hm:n≤9223372036854775807) (w:World) (hl:∀ k t,l[k]? = some t→w.cell? ⟨b,off+k,none⟩=some (.string t)) :
    Calls Tryz.prog 87 #[.slice (some ⟨b,off,none⟩) n c,.string s] w fun e w'=>(∃ z:Int,e=.returned (.int .i64 z)∧decide (0≤z)=uJ s l)∧w=w':=by
 have HL:=qqh hl;have HN:=qqh hn;clear hl hn;go_enter Tryz.func87,Tryz.ntmps87;go_wp2_with fail;go_loopw [8] (Xs w s l n) (fun i _=>n - (intOf i).toNat);(case atStart=>exact⟨0,Nat.zero_le _,rfl,rfl,rfl⟩);obtain⟨k,hk,rfl,aX,rfl⟩:=hrel;by_cases hlt:k<n
 ·obtain⟨t,ht⟩:∃ z,l[k]? = some z:=⟨_,List.getElem?_eq_getElem (by rw [HN.out];exact hlt)⟩;have d0:=HL.out k t ht;rw [Nc ht,Ni]at aX;cases he:s.toList == t.toList
  ·rw [he,Bool.false_or]at aX;have HG:=qqh aX;clear aX;go_wp2_with fail;exact⟨⟨k+1,by omega,by go_num,HG.out,rfl⟩,by simp [intOf];omega⟩
  rw [he,Bool.true_or]at aX;have HG:=qqh aX;clear aX;go_wp2_with fail;go_ret;exact⟨⟨_,rfl,by rw [HG.out];simp⟩,rfl⟩
 obtain rfl:k=n:=(by omega);rw [List.drop_of_length_le (by rw [HN.out];omega)]at aX;have HG:=qqh (aX.trans (show uJ s [] = false from rfl));clear aX;go_wp2_with fail;go_ret;exact⟨⟨_,rfl,by rw [HG.out];simp⟩,rfl⟩
theorem O4 (b off n c:Nat) (s:ByteArray) (l:List ByteArray) (hn:l.length=n) (hm:n≤9223372036854775807) (w:World) (hl:∀ k t,l[k]? = some t→w.cell? ⟨b,off+k,none⟩=some (.string t)) :
    Calls Tryz.prog 56 #[.slice (some ⟨b,off,none⟩) n c,.string s] w fun e w'=>e=.returned (.bool (uJ s l))∧w=w':=by
 have H:=qqh (JX b off n c s l hn hm w hl);clear hl hn;go_enter Tryz.func56,Tryz.ntmps56;go_wp2_with fail;refine H.out.mono ?_;rintro e w2 ⟨⟨z,rfl,hz⟩,rfl⟩;have HZ:=qqh hz;clear hz;go_wp2_with fail;go_ret;exact⟨bB HZ.out,rfl⟩
theorem i6 (w:World) :
    Calls Tryz.prog 57 #[] w fun e w'=>e=.returned (.slice (some ⟨w.heap.size,0,none⟩) 4 4)∧w'=w.alloc (.cells #[.string fX,.string lg,.string iB,.string fY] 9):=by
 go_enter Tryz.func57,Tryz.ntmps57;go_wp2_with fail;go_ret;exact⟨rfl,rfl⟩
theorem sv (b:Nat) (s:ByteArray) (v:Bool) (hv:kE s=v) (w:World) (h:ai w b 9 #[.string fX,.string lg,.string iB,.string fY]) :
    Calls Tryz.prog 56 #[.slice (some ⟨b,0,none⟩) 4 4,.string s] w fun e w'=>e=.returned (.bool v)∧w=w':=by
 subst hv;refine O4 b 0 4 4 s [fX,lg,iB,fY] rfl (by decide) w fun k t hk=>?_;rw [Nat.zero_add,h.cell];match k,hk with
 | 0,hk=>cases hk;rfl
 | 1,hk=>cases hk;rfl
 | 2,hk=>cases hk;rfl
 | 3,hk=>cases hk;rfl
end Go.Proofs.YthgkedoildcbcaaGreatDoor
namespace Go.Proofs.YthgkedoildcbcaaGreatDoor
open Go.RowKit
def aT (s:ByteArray) (p:Nat):Int:=((s.get! p).toNat:Int)
theorem tY (s:ByteArray) (p:Nat):0≤aT s p∧aT s p<256:=by
 unfold aT;have:=(s.get! p).toNat_lt;omega
theorem pE (s:ByteArray) (p:Nat) (h:p<s.size):((s[p]'h).toNat:Int)=aT s p:=by
 unfold aT;have e:=get_at s p h;rw [Nat.add_zero]at e;rw [e]
def ir (j:Nat):Int:=if j=0 then 192 else if j=1 then 224 else 240
def By (j:Nat):Int:=if j=0 then 224 else if j=1 then 240 else 248
def q7 (j:Nat):Nat:=if j=0 then 2 else if j=1 then 3 else 4
def DP (j:Nat):Int:=if j=0 then 128 else if j=1 then 2048 else 65536
def qw (j:Nat) (c:Int):Bool:=decide (ir j≤c) && decide (c<ir j+(if j=0 then 32 else if j=1 then 16 else 8))
theorem Xt (j:Nat) (hj:j<3) (c:Int) (h0:0≤c) (h1:c<256):(bits BinOp.and IntKind.i64 c (By j) != ir j) = !qw j c:=by
 have key:∀ (j:Fin 3) (c:Fin 256),(bits BinOp.and IntKind.i64 ((c.val:Nat):Int) (By j.val) != ir j.val) = !qw j.val ((c.val:Nat):Int):=(by decide +kernel);have:=key ⟨j,hj⟩ ⟨c.toNat,by omega⟩;simpa [Int.toNat_of_nonneg h0] using this
def part (s:ByteArray) (p:Nat) (x0:Int):Nat→Int
  | 0=>x0
  | k+1=>part s p x0 k*64+aT s (p+(k+1)) % 64
theorem X0 (s:ByteArray) (p:Nat) (x0:Int) (h0:0≤x0) (h1:x0<32) (k:Nat) (hk:k≤3):0≤part s p x0 k∧part s p x0 k<8388608:=by
 have b1:=tY s (p+1);have b2:=tY s (p+2);have b3:=tY s (p+3);match k,hk with
 | 0,_=>simp only [part];omega
 | 1,_=>simp only [part];omega
 | 2,_=>simp only [part];omega
 | 3,_=>simp only [part];omega
def Fl (s:ByteArray) (p:Nat):Int × Int:=if lu s p then (0,0)else (((Utf8.decode s p).1:Int),((Utf8.decode s p).2:Int))
theorem rZ (s:ByteArray) (p:Nat) {r k:Nat} (h:Lib.decodeN (s.size - p) (s.get! p).toNat (s.get! (p+1)).toNat (s.get! (p+2)).toNat (s.get! (p+3)).toNat=(r,k)) :
    Fl s p=if r=65533∧k=1 then (0,0)else ((r:Int),(k:Int)):=by
 unfold Fl lu;rw [Lib.decode_at,h];simp
theorem TP (s:ByteArray) (p:Nat) (hc:aT s p<128):Fl s p=(aT s p,1):=by
 unfold aT at *;rw [rZ s p (r:=(s.get! p).toNat) (k:=1) (by unfold Lib.decodeN;rw [if_pos (by omega)]),if_neg (by omega)];rfl
theorem Xr (s:ByteArray) (p:Nat) (hc:128≤aT s p) (h:∀ j,j<3→qw j (aT s p)=true→¬ p+q7 j≤s.size):Fl s p=(0,0):=by
 have h0:=h 0 (by omega);have h1:=h 1 (by omega);have h2:=h 2 (by omega);simp [qw,ir,q7]at h0 h1 h2;unfold aT at *;rw [rZ s p (r:=65533) (k:=1) (by
  unfold Lib.decodeN;rw [if_neg (by omega),if_neg (by omega),if_neg (by omega),if_neg (by omega)]),if_pos (by omega)]
theorem YC (s:ByteArray) (p j i:Nat) (hj:j<3) (hc:qw j (aT s p)=true) (hi:1≤i) (hin:i<q7 j) (hb:aT s (p+i) / 64≠2):Fl s p=(0,0):=by
 have key:i=1∨i=2∨i=3:=by
  have:q7 j≤4:=by
   unfold q7;split;omega;split <;> omega
  omega
 simp [qw,ir]at hc;unfold aT at *;rw [rZ s p (r:=65533) (k:=1) ?_,if_pos (by omega)];unfold Lib.decodeN;match j,hj with
 | 0,_=>
  simp [q7]at hin hc;obtain rfl:i=1:=(by omega);rw [if_neg (by omega),if_neg (by omega),if_neg (by omega),if_neg (by omega)]
 | 1,_=>
  simp [q7]at hin hc;rcases key with rfl | rfl | rfl
  ·rw [if_neg (by omega),if_neg (by omega),if_neg (by omega),if_neg (by omega)]
  ·rw [if_neg (by omega),if_neg (by omega),if_neg (by omega),if_neg (by omega)]
  omega
 | 2,_=>
  simp [q7]at hin hc;rcases key with rfl | rfl | rfl
  ·rw [if_neg (by omega),if_neg (by omega),if_neg (by omega),if_neg (by omega)]
  ·rw [if_neg (by omega),if_neg (by omega),if_neg (by omega),if_neg (by omega)]
  rw [if_neg (by omega),if_neg (by omega),if_neg (by omega),if_neg (by omega)]
theorem Bq (s:ByteArray) (p X n:Nat) (least:Int) (P:Int) (hP:P=(X:Int)) (hl:1<n)
    (hd:Lib.decodeN (s.size - p) (s.get! p).toNat (s.get! (p+1)).toNat (s.get! (p+2)).toNat (s.get! (p+3)).toNat=if least≤(X:Int)∧bg (X:Int)=true then (X,n)else (65533,1)) :
    Fl s p=if (decide (least≤P) && bg P)=true then (P,(n:Int))else (0,0):=by
 subst hP;by_cases hv:least≤(X:Int)∧bg (X:Int)=true
 ·rw [if_pos hv]at hd;rw [rZ s p hd,if_neg (by omega),if_pos (by simp [hv.1,hv.2])]
 rw [if_neg hv]at hd;rw [rZ s p hd,if_pos (by omega),if_neg (by simpa using hv)]
theorem TJ (s:ByteArray) (p j:Nat) (hj:j<3) (hc:qw j (aT s p)=true) (hsz:p+q7 j≤s.size) (hb:∀ i,1≤i→i<q7 j→aT s (p+i) / 64=2) :
    Fl s p=if (decide (DP j≤part s p (aT s p - ir j) (q7 j - 1)) && bg (part s p (aT s p - ir j) (q7 j - 1)))=true then (part s p (aT s p - ir j) (q7 j - 1),(q7 j:Int))else (0,0):=by
 have g0:=(s.get! p).toNat_lt;have g1:=(s.get! (p+1)).toNat_lt;have g2:=(s.get! (p+2)).toNat_lt;have g3:=(s.get! (p+3)).toNat_lt;match j,hj with
 | 0,_=>
  have h1:aT s (p+1) / 64=2:=hb 1 (by omega) (by decide);have Uz:p+2≤s.size:=hsz;have hc2:192≤aT s p∧aT s p<224:=(by simpa [qw,ir] using hc);clear hb hc hsz;refine Bq s p ((s.get! p).toNat % 32*64+(s.get! (p+1)).toNat % 64) 2 128 _ ?_ (by omega) ?_
  ·show(aT s p - 192)*64+aT s (p+1) % 64=_;unfold aT at *;omega
  unfold aT at *;unfold Lib.decodeN;rw [if_neg (by omega),if_pos (by omega)];by_cases hv:128≤(s.get! p).toNat % 32*64+(s.get! (p+1)).toNat % 64
  ·rw [if_pos (by omega),if_pos (by simp [bg];omega)]
  rw [if_neg (by omega),if_neg (by simp [bg];omega)]
 | 1,_=>
  have h1:aT s (p+1) / 64=2:=hb 1 (by omega) (by decide);have h2:aT s (p+2) / 64=2:=hb 2 (by omega) (by decide);have Uz:p+3≤s.size:=hsz;have hc2:224≤aT s p∧aT s p<240:=(by simpa [qw,ir] using hc);clear hb hc hsz;refine Bq s p ((s.get! p).toNat % 16*4096+(s.get! (p+1)).toNat % 64*64+(s.get! (p+2)).toNat % 64) 3 2048 _ ?_ (by omega) ?_
  ·show((aT s p - 224)*64+aT s (p+1) % 64)*64+aT s (p+2) % 64=_;unfold aT at *;omega
  unfold aT at *;unfold Lib.decodeN;rw [if_neg (by omega),if_neg (by omega),if_pos (by omega)];generalize (s.get! p).toNat % 16*4096+(s.get! (p+1)).toNat % 64*64+(s.get! (p+2)).toNat % 64=X;by_cases hv:2048≤X∧(X<55296∨57344≤X∧X≤1114111)
  ·rw [if_pos (by omega),if_pos (by simp [bg];omega)]
  rw [if_neg (by omega),if_neg (by simp [bg];omega)]
 | 2,_=>
  have h1:aT s (p+1) / 64=2:=hb 1 (by omega) (by decide);have h2:aT s (p+2) / 64=2:=hb 2 (by omega) (by decide);have h3:aT s (p+3) / 64=2:=hb 3 (by omega) (by decide);have Uz:p+4≤s.size:=hsz;have hc2:240≤aT s p∧aT s p<248:=(by simpa [qw,ir] using hc);clear hb hc hsz;refine Bq s p ((s.get! p).toNat % 8*262144+(s.get! (p+1)).toNat % 64*4096+(s.get! (p+2)).toNat % 64*64+(s.get! (p+3)).toNat % 64) 4 65536 _ ?_ (by omega) ?_
  ·show(((aT s p - 240)*64+aT s (p+1) % 64)*64+aT s (p+2) % 64)*64+aT s (p+3) % 64=_;unfold aT at *;omega
  unfold aT at *;unfold Lib.decodeN;rw [if_neg (by omega),if_neg (by omega),if_neg (by omega),if_pos (by omega)];generalize (s.get! p).toNat % 8*262144+(s.get! (p+1)).toNat % 64*4096+(s.get! (p+2)).toNat % 64*64+(s.get! (p+3)).toNat % 64=X;by_cases hv:65536≤X∧(X<55296∨57344≤X∧X≤1114111)
  ·rw [if_pos (by omega),if_pos (by simp [bg];omega)]
  rw [if_neg (by omega),if_neg (by simp [bg];omega)]
end Go.Proofs.YthgkedoildcbcaaGreatDoor
namespace Go.Proofs.YthgkedoildcbcaaGreatDoor
open Go.RowKit
def Bg (w:World) (s:ByteArray) (e:Ending) (w':World):Prop :=
  ∃ v,e=.returned v∧sP w' w.heap.size v (bJ s 0)∧Below w.heap.size w w'
def SP (w:World) (s:ByteArray) (v:Value) (wr:World):Prop :=
  ∃ (p:Nat) (l:List Int),p≤s.size∧wr.heap[w.heap.size]? = some (.stringIter s p)∧sP wr (w.heap.size+1) v l∧l++bJ s p=bJ s 0∧l.length≤p∧Below w.heap.size w wr
theorem Jd {w:World} {base k p:Nat} {e:TypeId} {sz n:Nat} {v v':Value} {w':World} {xs:List Value} {s:ByteArray} (hit:w.heap[k]? = some (.stringIter s p)) (hk:k<base)
    (ho:∃ m ys,w.ownsRow base e sz v m ys) (h:aR base e sz v w n xs v' w'):w'.heap[k]? = some (.stringIter s p):=by
 obtain⟨m,ys,ho⟩:=ho;rw [h.2.1.block k (Array.getElem?_eq_some_iff.1 hit).1 (fun e=>by have:=(World.ownsRow.lt ho k e.symm).1;omega)];exact hit
theorem qZ (s:ByteArray) (w:World) (hs:s.size≤1099511627776) :
    Calls Tryz.prog 7 #[.string s] w (Bg w s):=by
 obtain⟨i0,hi,hz0,xK,yW⟩:=info_parts Tryz.info21;go_enter Tryz.func7,Tryz.ntmps7;go_wp2;go_loopw [3] (SP w s) (fun _ wr=>s.size - wr.iterPos w.heap.size);(case atStart=>exact⟨0,[],Nat.zero_le _,World.iter_heap _ _ _,sP.nil _ _,rfl,Nat.le_refl _,(Below.refl _ _).alloc (Nat.le_refl _) _⟩);obtain⟨p,l,hp,hit,hown,hl,Zc,q6⟩:=hrel;have hz:=q6.size;have rF:=iterPos_of hit;by_cases hlt:p<s.size
 ·have hnext:=fun ty=>Lib.run_next_any_at (P:=Tryz.prog) wr w.heap.size s p ty hit hlt;have hd:=eS s p hlt;have hstep:=eT s p hlt;have J5:=Lib.iterAt_heap wr w.heap.size s p (p+(Utf8.decode s p).2) hit;have aW:=Lib.below_iterAt q6 (Nat.le_refl _) s (p+(Utf8.decode s p).2);have KW:sP (wr.iterAt w.heap.size s (p+(Utf8.decode s p).2)) (w.heap.size+1) _ l:=ownsRow_iterAt hown (Nat.lt_succ_self _) s _;generalize wr.iterAt w.heap.size s (p+(Utf8.decode s p).2)=W1 at *;generalize hr:((Utf8.decode s p).1:Int)=r at *;generalize (Utf8.decode s p).2=k at *;rw [hstep]at hl;have ahr:=aW.size;obtain⟨A3,c3,rfl,lU⟩:=aI KW;have Q4:=qqh J5;have RH:=qqh rF;have HL:=qqh hl;have HN:=qqh (Rd.new W1 21 1 1 [.int .i32 r] rfl);have HO:=qqh (World.ownsRow.alloc KW (.cells #[.int .i32 r] 21));clear hit J5 rF hl hown KW hstep hr;go_wp2_with (at_builtin;refine ak _ rfl (.tmp 11) (.tmp 13) 26 rfl (w.heap.size+1) 21 i0 _ 1 4 Tryz.underlying26 hi hz0 xK yW rfl (by decide) _ _ _ rfl HO.out (W1.heap.size+1) (some ⟨W1.heap.size,0,none⟩) 1 1 [.int .i32 r] rfl HN.out ?s1 (by simp only [maxLen];omega) (by omega) (by simp;omega) ?_);(case s1=>intro u hu;simp at hu;rw [hu];rfl);intro v' w2 au;have zQ:=Jd ((Below.heap_alloc W1 (.cells #[.int .i32 r] 21) w.heap.size (Array.getElem?_eq_some_iff.1 Q4.out).1).trans Q4.out) (Nat.lt_succ_self _) ⟨_,_,HO.out⟩ au;have Xl:sP w2 (w.heap.size+1) v' (l++[r]):=sP.of au (by simp) (by simp [runeCells]);have bu:Below w.heap.size w w2:=(aW.alloc (by omega) _).trans ((au.below (by simp;omega) HO.out).mono (by omega));clear au;have TV:=iterPos_of zQ;have TG:=qqh zQ;clear zQ;have iY:=qqh TV;clear TV;go_wp2
  exact⟨⟨p+k,l++[r],by omega,TG.out,Xl,by rw [List.append_assoc];exact HL.out,by simp;omega,bu⟩,by rw [iY.out,RH.out];omega⟩
 have hnext:=fun ty=>Lib.run_next_end_at (P:=Tryz.prog) wr w.heap.size s p ty hit hlt;rw [cV s p hlt,List.append_nil]at hl;subst hl;clear hit rF;go_wp2;go_ret;exact⟨_,rfl,iE hown (by omega),q6⟩
end Go.Proofs.YthgkedoildcbcaaGreatDoor
namespace Go.Proofs.YthgkedoildcbcaaGreatDoor
open Go.RowKit
def mB (l:List (List UInt8)):List Value:=l.map fun x=>.string ⟨x.toArray⟩
def Bf (w:World) (base:Nat) (v:Value) (l:List (List UInt8)):Prop:=w.ownsRow base 9 1 v l.length (mB l)
theorem Bf.nil (w:World) (base:Nat):Bf w base (.slice none 0 0) []:=World.ownsRow_nil _ _ _ _
theorem Bf.of {w w':World} {base n:Nat} {v v':Value} {xs:List Value} {l:List (List UInt8)}
    (h:aR base 9 1 v w n xs v' w') (hn:l.length=n) (hx:mB l=xs):Bf w' base v' l:=by
 subst hn hx;exact h.own
theorem xQ (a b:List (List UInt8)):mB (a++b)=mB a++mB b:=by simp [mB]
theorem Bf.rd {w:World} {base:Nat} {A:Option Addr} {n c:Nat} {l:List (List UInt8)} (h:Bf w base (.slice A n c) l) (hn:l.length=n):Rd w w.heap.size 1 A n (mB l):=by
 subst hn;exact Rd.cy h
theorem Bf.push {w w2:World} {base:Nat} {v v':Value} {x:List UInt8} {X:ByteArray} (hX:(⟨x.toArray⟩:ByteArray)=X) (l:List (List UInt8)) (h:aR base 9 1 v w (l.length+1) (mB l++[.string X]) v' w2):Bf w2 base v' (l++[x]) :=
  Bf.of h (by simp) (by rw [xQ];subst hX;rfl)
end Go.Proofs.YthgkedoildcbcaaGreatDoor
namespace Go.Proofs.YthgkedoildcbcaaGreatDoor
open Go.RowKit
def Fr (B lo:Nat) (b:Nat):Prop:=b<B∨lo≤b
theorem nx {α:Type} {l:List α} {k:Nat} {p:α} (h:l[k]? = some p):l.take (k+1)=l.take k++[p]:=by
 rw [List.take_add_one,h];rfl
theorem av {wx:World} {g g2 i:Nat} {u:Value} {t:TypeId} {cs:Array Value} (h:ai wx g2 t cs) (hne:g2≠g):ai (wx.setCell ⟨g,i,none⟩ u) g2 t cs:=by
 unfold ai at h ⊢;rw [Below.heap_setCell _ _ _ _ hne];exact h
end Go.Proofs.YthgkedoildcbcaaGreatDoor
