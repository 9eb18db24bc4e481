/- Named + Right + Pass + OneLaw + Kinds + BytesText + RunesValid + Decode + Strs + Near + ShMap -/
import Derived.Test.YtblinekbpcdbfaaGreatDoorZvH
import Derived.Test.YtblinekbpcdbfaaGreatDoorRows
import Derived.Test.YtblinekbpcdbfaaGreatDoorZv4
import Derived.Lib.ConvBytes
import Derived.Test.YtblinekbpcdbfaaGreatDoorZv3
import Derived.Lib.RuneCountTail
import Derived.Lib.RuneBytes
import Derived.Lib.MapLaws
import Derived.Laws.Runes
import Derived.Lib.FrozenHead
import Derived.Test.YtblinekbpcdbfaaGreatDoorZv6
set_option maxHeartbeats 1600000
set_option maxRecDepth 100000
namespace Go.Proofs.YtblinekbpcdbfaaGreatDoor
open Go.RowKit
def nc (i:Nat) (c:UInt8):Bool:=decide ((97≤c.toNat∧c.toNat≤122)∨c.toNat=95∨(0<i∧48≤c.toNat∧c.toNat≤57))
def ec (s:ByteArray):Bool:=decide (1≤s.size∧s.size≤20∧∀ i (h:i<s.size),nc i s[i] = true)
theorem ML {s:ByteArray} {j:Nat} (h:j<s.size) (hc:nc j s[j] = false):ec s=false:=by
 unfold ec;rw [decide_eq_false_iff_not];intro h2;rw [h2.2.2 j h]at hc;cases hc
def Uu (w:World) (s:ByteArray) (i:Value) (wr:World):Prop :=
  ∃ j:Nat,j≤s.size∧i=.int .i64 j∧(∀ k (h:k<s.size),k<j→nc k s[k] = true)∧wr=w
theorem Qo {s:ByteArray} {j:Nat} (h:j<s.size) (hc:nc j s[j] = true) (hp:∀ k (h:k<s.size),k<j→nc k s[k] = true):∀ k (h:k<s.size),k<j+1→nc k s[k] = true:=by
 intro k hk hlt;by_cases e:k=j
 ·subst e;exact hc
 exact hp k hk (by omega)
theorem ji (s:ByteArray) (w:World) :
    Calls Tryz.prog 88 #[.string s] w fun e w'=>e=.returned (.bool (ec s))∧w=w':=by
 by_cases hs:1≤s.size∧s.size≤20
 ·obtain⟨hs1,uL⟩:=hs;go_enter Tryz.func88,Tryz.ntmps88;go_wp2_with fail;go_loopw [15] (Uu w s) (fun i _=>s.size - (intOf i).toNat);(case atStart=>exact⟨0,Nat.zero_le _,rfl,by omega,rfl⟩);obtain⟨j,hj,rfl,hall,rfl⟩:=hrel;by_cases hlt:j<s.size
  ·have hx:s[j].toNat<256:=UInt8.toNat_lt s[j];cases hc:nc j s[j]
   ·have HN:=qqh (ML hlt hc);have hc2:s[j].toNat<48∨(57<s[j].toNat∧s[j].toNat<95)∨(95<s[j].toNat∧s[j].toNat<97)∨122<s[j].toNat∨(j=0∧48≤s[j].toNat∧s[j].toNat≤57):=by
     simp [nc]at hc;omega
    have h95:((s[j].toNat:Int) != 95)=true:=(by simp;omega);clear hc hall;by_cases hj0:j=0
    ·subst hj0;rcases (show s[0].toNat<97∨122<s[0].toNat by omega)with h1 | h1
     all_goals
       go_wp2_with fail
       go_ret
       rw [HN.out]
       exact⟨rfl,rfl⟩
    have Sq:((j:Int) == 0)=false:=(by simp;omega);rcases (show s[j].toNat<48∨(57<s[j].toNat∧s[j].toNat<97)∨122<s[j].toNat by omega)with h1 | ⟨h1,h2⟩ | h1
    all_goals
      go_wp2_with fail
      go_ret
      rw [HN.out]
      exact⟨rfl,rfl⟩
   have HA:=qqh (Qo hlt hc hall);have hc2:(97≤s[j].toNat∧s[j].toNat≤122)∨s[j].toNat=95∨(0<j∧48≤s[j].toNat∧s[j].toNat≤57):=by
    simpa [nc] using hc
   clear hc hall;rcases hc2 with ⟨h1,h2⟩ | h1 | ⟨h1,h2,h3⟩
   ·go_wp2_with fail;exact⟨⟨j+1,by omega,by go_num,HA.out,rfl⟩,by simp [intOf];omega⟩
   ·have h95:((s[j].toNat:Int) != 95)=false:=(by simp;omega);go_wp2_with fail;exact⟨⟨j+1,by omega,by go_num,HA.out,rfl⟩,by simp [intOf];omega⟩
   have h95:((s[j].toNat:Int) != 95)=true:=(by simp;omega);have Sq:((j:Int) == 0)=false:=(by simp;omega);go_wp2_with fail;exact⟨⟨j+1,by omega,by go_num,HA.out,rfl⟩,by simp [intOf];omega⟩
  have hP:ec s=true:=by
   unfold ec;rw [decide_eq_true_iff];exact⟨hs1,uL,fun i h=>hall i h (by omega)⟩
  have HP:=qqh hP;clear hall hP;go_wp2_with fail;go_ret;rw [HP.out];exact⟨rfl,rfl⟩
 have HP:=qqh (show ec s=false by
  unfold ec;rw [decide_eq_false_iff_not];exact fun h=>hs ⟨h.1,h.2.1⟩)
 have uL:s.size<1∨(1≤s.size∧20<s.size):=(by omega);clear hs;rcases uL with h1 | ⟨h1,h2⟩
 all_goals
   go_enter Tryz.func88,Tryz.ntmps88
   go_wp2_with fail
   go_ret
   rw [HP.out]
   exact⟨rfl,rfl⟩
def bE (r:Int):Bool:=decide ((0≤r∧r<55296)∨(57343<r∧r≤1114111))
theorem Ca {r:Int} (h:bE r=true):0≤r∧r≤1114111:=by
 simp [bE]at h;omega
theorem E7 (r:Int) (w:World) :
    Calls Tryz.prog 73 #[.int .i32 r] w fun e w'=>e=.returned (.bool (bE r))∧w=w':=by
 go_enter Tryz.func73,Tryz.ntmps73;go_wp2;(all_goals go_ret);(all_goals refine⟨bH ?_,rfl⟩);(all_goals (rw [Bool.eq_iff_iff];simp [bE];try omega))
theorem gx (r:Int) (w:World) :
    Calls Tryz.prog 43 #[.int .i32 r] w fun e w'=>e=.returned (.bool (bE r))∧w=w':=by
 go_enter Tryz.func43,Tryz.ntmps43;go_wp2_with (go_at_call 73;refine(E7 _ _).mono ?_;rintro e w' ⟨rfl,rfl⟩);go_ret;exact⟨rfl,rfl⟩
def fE:ByteArray:=⟨#[108,111,119,101,114]⟩
def kI:ByteArray:=⟨#[110,117,108,108]⟩
def gX:ByteArray:=⟨#[114,101,109,111,118,101]⟩
def fB:ByteArray:=⟨#[117,112,112,101,114]⟩
def tG (s:ByteArray) (l:List ByteArray):Bool:=l.any fun t=>s.toList == t.toList
def jR (s:ByteArray):Bool:=tG s [fE,kI,gX,fB]
theorem Lw (s t:ByteArray) (l:List ByteArray):tG s (t::l)=((s.toList == t.toList) || tG s l):=rfl
theorem N0 {α:Type} {l:List α} {j:Nat} {x:α} (h:l[j]? = some x):l.drop j=x::l.drop (j+1):=by
 obtain⟨hj,rfl⟩:=List.getElem?_eq_some_iff.1 h;exact List.drop_eq_getElem_cons hj
def XJ (W:World) (s:ByteArray) (l:List ByteArray) (n:Nat) (i:Value) (wr:World):Prop :=
  ∃ k:Nat,k≤n∧i=.int .i64 k∧tG s l=tG s (l.drop k)∧wr=W
theorem I5 (b off n c:Nat) (s:ByteArray) (l:List ByteArray) (hn:l.length=n) (hm:n≤9223372036854775807) (w:World) (hl:∀ k t,l[k]? = some t→w.cell? ⟨b,off+k,none⟩=some (.string t)) :
    Calls Tryz.prog 87 #[.slice (some ⟨b,off,none⟩) n c,.string s] w fun e w'=>(∃ z:Int,e=.returned (.int .i64 z)∧decide (0≤z)=tG s l)∧w=w':=by
 have HL:=qqh hl;have HN:=qqh hn;clear hl hn;go_enter Tryz.func87,Tryz.ntmps87;go_wp2_with fail;go_loopw [8] (XJ w s l n) (fun i _=>n - (intOf i).toNat);(case atStart=>exact⟨0,Nat.zero_le _,rfl,rfl,rfl⟩);obtain⟨k,hk,rfl,aZ,rfl⟩:=hrel;by_cases hlt:k<n
 ·obtain⟨t,ht⟩:∃ z,l[k]? = some z:=⟨_,List.getElem?_eq_getElem (by rw [HN.out];exact hlt)⟩;have d0:=HL.out k t ht;rw [N0 ht,Lw]at aZ;cases he:s.toList == t.toList
  ·rw [he,Bool.false_or]at aZ;have HG:=qqh aZ;clear aZ;go_wp2_with fail;exact⟨⟨k+1,by omega,by go_num,HG.out,rfl⟩,by simp [intOf];omega⟩
  rw [he,Bool.true_or]at aZ;have HG:=qqh aZ;clear aZ;go_wp2_with fail;go_ret;exact⟨⟨_,rfl,by rw [HG.out];simp⟩,rfl⟩
 obtain rfl:k=n:=(by omega);rw [List.drop_of_length_le (by rw [HN.out];omega)]at aZ;have HG:=qqh (aZ.trans (show tG s [] = false from rfl));clear aZ;go_wp2_with fail;go_ret;exact⟨⟨_,rfl,by rw [HG.out];simp⟩,rfl⟩
theorem OV (b off n c:Nat) (s:ByteArray) (l:List ByteArray) (hn:l.length=n) (hm:n≤9223372036854775807) (w:World) (hl:∀ k t,l[k]? = some t→w.cell? ⟨b,off+k,none⟩=some (.string t)) :
    Calls Tryz.prog 54 #[.slice (some ⟨b,off,none⟩) n c,.string s] w fun e w'=>e=.returned (.bool (tG s l))∧w=w':=by
 have H:=qqh (I5 b off n c s l hn hm w hl);clear hl hn;go_enter Tryz.func54,Tryz.ntmps54;go_wp2_with fail;refine H.out.mono ?_;rintro e w2 ⟨⟨z,rfl,hz⟩,rfl⟩;have HZ:=qqh hz;clear hz;go_wp2_with fail;go_ret;exact⟨bH HZ.out,rfl⟩
theorem iK (w:World) :
    Calls Tryz.prog 55 #[] w fun e w'=>e=.returned (.slice (some ⟨w.heap.size,0,none⟩) 4 4)∧w'=w.alloc (.cells #[.string fE,.string kI,.string gX,.string fB] 9):=by
 go_enter Tryz.func55,Tryz.ntmps55;go_wp2_with fail;go_ret;exact⟨rfl,rfl⟩
theorem rD (b:Nat) (s:ByteArray) (v:Bool) (hv:jR s=v) (w:World) (h:aj w b 9 #[.string fE,.string kI,.string gX,.string fB]) :
    Calls Tryz.prog 54 #[.slice (some ⟨b,0,none⟩) 4 4,.string s] w fun e w'=>e=.returned (.bool v)∧w=w':=by
 subst hv;refine OV b 0 4 4 s [fE,kI,gX,fB] rfl (by decide) w fun k t hk=>?_;rw [Nat.zero_add,h.cell];match k,hk with
 | 0,hk=>cases hk;rfl
 | 1,hk=>cases hk;rfl
 | 2,hk=>cases hk;rfl
 | 3,hk=>cases hk;rfl
def jP (s:ByteArray) (p:Nat):Int:=((s.get! p).toNat:Int)
theorem oh (s:ByteArray) (p:Nat) (h:p<s.size):((s[p]'h).toNat:Int)=jP s p:=by
 unfold jP;have e:=get_at s p h;rw [Nat.add_zero]at e;rw [e]
def part (s:ByteArray) (p:Nat) (x0:Int):Nat→Int
  | 0=>x0
  | k+1=>part s p x0 k*64+jP s (p+(k+1)) % 64
def qo (w:World) (base:Nat) (v:Value) (l:List Int):Prop:=w.ownsRow base 21 1 v l.length (runeCells l)
theorem qo.nil (w:World) (base:Nat):qo w base (.slice none 0 0) []:=World.ownsRow_nil _ _ _ _
theorem qo.of {w w':World} {base n:Nat} {v v':Value} {xs:List Value} {l:List Int}
    (h:aP base 21 1 v w n xs v' w') (hn:l.length=n) (hx:runeCells l=xs):qo w' base v' l:=by
 subst hn hx;exact h.own
theorem jb (a b:List Int):runeCells (a++b)=runeCells a++runeCells b:=by simp [runeCells]
theorem bh (a:List Int):∀ u∈runeCells a,u.oneCell'=true:=by
 intro u hu;simp only [runeCells,List.mem_map]at hu;obtain⟨k,_,rfl⟩:=hu;rfl
theorem Tryz.info21:(Tryz.prog.info? 21).map (fun i=>(i.zero,i.size,i.bytes))=some (some (.int .i32 0),1,4):=by kernel_rfl
theorem qo.rd {w:World} {base:Nat} {A:Option Addr} {n c:Nat} {l:List Int} (h:qo w base (.slice A n c) l) (hn:l.length=n):nK w w.heap.size A n l:=by
 subst hn;exact Rd.cC h
def intCells (l:List Int):List Value:=l.map (Value.int .i64)
def Uz (w:World) (base:Nat) (v:Value) (l:List Int):Prop:=w.ownsRow base 3 1 v l.length (intCells l)
theorem Tryz.info3:(Tryz.prog.info? 3).map (fun i=>(i.zero,i.size,i.bytes))=some (some (.int .i64 0),1,8):=by kernel_rfl
def xZ (w:World) (B:Nat) (A:Option Addr) (n:Nat) (l:List Int):Prop:=Rd w B 1 A n (intCells l)
theorem xZ.len {w:World} {B n:Nat} {A:Option Addr} {l:List Int} (h:xZ w B A n l):l.length=n:=by
 have:=h.1;simp [intCells]at this;omega
theorem xZ.at {w:World} {B n:Nat} {A:Option Addr} {l:List Int} (h:xZ w B A n l) {k:Nat} {x:Int} (hk:l[k]? = some x) :
    ∃ b off:Nat,A=some ⟨b,off,none⟩∧b<B∧w.cell? ⟨b,off+k,none⟩=some (.int .i64 x):=by
 have hl:k<l.length:=(List.getElem?_eq_some_iff.1 hk).1;have:=h.len;obtain⟨b,off,e,hb,hc⟩:=h.2 (by omega);exact⟨b,off,e,hb,hc k _ (by simp [intCells,hk])⟩
theorem Uz.rd {w:World} {base:Nat} {A:Option Addr} {n c:Nat} {l:List Int} (h:Uz w base (.slice A n c) l) (hn:l.length=n):xZ w w.heap.size A n l:=by
 subst hn;exact Rd.cC h
def bytesOf (l:List Int):List UInt8:=l.flatMap Lib.encodeRune
end Go.Proofs.YtblinekbpcdbfaaGreatDoor
namespace Go.Proofs.YtblinekbpcdbfaaGreatDoor
theorem qP (s:ByteArray) (p:Nat):bE ((Utf8.decode s p).1:Int)=true:=by
 rw [Lib.decode_at];have key:∀ n b0 b1 b2 b3,bE ((Lib.decodeN n b0 b1 b2 b3).1:Int)=true:=by
  intro n b0 b1 b2 b3;unfold Lib.decodeN;(repeat' split);(all_goals simp [bE]);(all_goals omega)
 exact key _ _ _ _ _
theorem yw (s:ByteArray):∀ (f p:Nat),s.size - p≤f→(aR s p).all bE=true:=by
 intro f;induction f with
 | zero=>intro p h;rw [jB s p (by omega)];rfl
 | succ f ih=>
  intro p h;by_cases hp:p<s.size
  ·have hd:=jd s p hp;rw [mU s p hp,List.all_cons,qP s p,ih _ (by omega)];rfl
  rw [jB s p hp];rfl
theorem yX (s:ByteArray):∀ x∈aR s 0,Utf8.valid x=true:=by
 intro x hx;have:=List.all_eq_true.1 (yw s s.size 0 (by omega)) x hx;rw [validRune_eq];unfold validRune;simpa [bE] using this
end Go.Proofs.YtblinekbpcdbfaaGreatDoor
namespace Go.Proofs.YtblinekbpcdbfaaGreatDoor
open Go.RowKit
def z8 (w:World) (s:ByteArray) (e:Ending) (w':World):Prop :=
  ∃ v,e=.returned v∧qo w' w.heap.size v (aR s 0)∧Below w.heap.size w w'
def Td (w:World) (s:ByteArray) (v:Value) (wr:World):Prop :=
  ∃ (p:Nat) (l:List Int),p≤s.size∧wr.heap[w.heap.size]? = some (.stringIter s p)∧qo wr (w.heap.size+1) v l∧l++aR s p=aR s 0∧l.length≤p∧Below w.heap.size w wr
theorem J9 {w:World} {base k p:Nat} {e:TypeId} {sz n:Nat} {v v':Value} {w':World} {xs:List Value} {s:ByteArray} (hit:w.heap[k]? = some (.stringIter s p)) (hk:k<base)
    (ho:∃ m ys,w.ownsRow base e sz v m ys) (h:aP base e sz v w n xs v' w'):w'.heap[k]? = some (.stringIter s p):=by
 obtain⟨m,ys,ho⟩:=ho;rw [h.2.1.block k (Array.getElem?_eq_some_iff.1 hit).1 (fun e=>by have:=(World.ownsRow.lt ho k e.symm).1;omega)];exact hit
theorem qx (s:ByteArray) (w:World) (hs:s.size≤1099511627776) :
    Calls Tryz.prog 6 #[.string s] w (z8 w s):=by
 obtain⟨i0,hi,hz0,oQ,tr⟩:=info_parts Tryz.info21;go_enter Tryz.func6,Tryz.ntmps6;go_wp2;go_loopw [3] (Td w s) (fun _ wr=>s.size - wr.iterPos w.heap.size);(case atStart=>exact⟨0,[],Nat.zero_le _,World.iter_heap _ _ _,qo.nil _ _,rfl,qql,qqb.alloc qql _⟩);obtain⟨p,l,hp,hit,hown,hl,Yy,qf⟩:=hrel;have hz:=qf.size;have qj:=iterPos_of hit;by_cases hlt:p<s.size
 ·have hnext:=fun ty=>Lib.run_next_any_at (P:=Tryz.prog) wr w.heap.size s p ty hit hlt;have hd:=jd s p hlt;have hstep:=mU s p hlt;have Jf:=Lib.iterAt_heap wr w.heap.size s p (p+(Utf8.decode s p).2) hit;have aT:=Lib.below_iterAt qf qql s (p+(Utf8.decode s p).2);have Mf:qo (wr.iterAt w.heap.size s (p+(Utf8.decode s p).2)) (w.heap.size+1) _ l:=ownsRow_iterAt hown (Nat.lt_succ_self _) s _;generalize wr.iterAt w.heap.size s (p+(Utf8.decode s p).2)=W1 at *;generalize hr:((Utf8.decode s p).1:Int)=r at *;generalize (Utf8.decode s p).2=k at *;rw [hstep]at hl;have afU:=aT.size;obtain⟨A3,c3,rfl,lA⟩:=aJ Mf;have Rh:=qqh Jf;have Ta:=qqh qj;have HL:=qqh hl;have HN:=qqh (Rd.new W1 21 1 1 [.int .i32 r] rfl);have HO:=qqh (World.ownsRow.alloc Mf (.cells #[.int .i32 r] 21));clear hit Jf qj hl hown Mf hstep hr;go_wp2_with (at_builtin;refine ai _ rfl (.tmp 11) (.tmp 13) 24 rfl (w.heap.size+1) 21 i0 _ 1 4 Tryz.underlying24 hi hz0 oQ tr rfl (by decide) _ _ _ rfl HO.out (W1.heap.size+1) (some ⟨W1.heap.size,0,none⟩) 1 1 [.int .i32 r] rfl HN.out ?s1 (by simp only [maxLen];omega) (by omega) (by simp;omega) ?_);(case s1=>intro u hu;simp at hu;rw [hu];rfl);intro v' w2 ak;have yt:=J9 ((Below.heap_alloc W1 (.cells #[.int .i32 r] 21) w.heap.size (Array.getElem?_eq_some_iff.1 Rh.out).1).trans Rh.out) (Nat.lt_succ_self _) ⟨_,_,HO.out⟩ ak;have Wd:qo w2 (w.heap.size+1) v' (l++[r]):=qo.of ak (by simp) (by simp [runeCells]);have aX:Below w.heap.size w w2:=(aT.alloc (by omega) _).trans ((ak.below (by simp;omega) HO.out).mono (by omega));clear ak;have Um:=iterPos_of yt;have T0:=qqh yt;clear yt;have iX:=qqh Um;clear Um;go_wp2
  exact⟨⟨p+k,l++[r],by omega,T0.out,Wd,by rw [List.append_assoc];exact HL.out,by simp;omega,aX⟩,by rw [iX.out,Ta.out];omega⟩
 have hnext:=fun ty=>Lib.run_next_end_at (P:=Tryz.prog) wr w.heap.size s p ty hit hlt;rw [jB s p hlt,List.append_nil]at hl;subst hl;clear hit qj;go_wp2;go_ret;exact⟨_,rfl,mg hown (by omega),qf⟩
def GB (l:List (List UInt8)):List Value:=l.map fun x=>.string ⟨x.toArray⟩
def XF (w:World) (base:Nat) (v:Value) (l:List (List UInt8)):Prop:=w.ownsRow base 9 1 v l.length (GB l)
theorem XF.rd {w:World} {base:Nat} {A:Option Addr} {n c:Nat} {l:List (List UInt8)} (h:XF w base (.slice A n c) l) (hn:l.length=n):Rd w w.heap.size 1 A n (GB l):=by
 subst hn;exact Rd.cC h
def Fr (B lo:Nat) (b:Nat):Prop:=b<B∨lo≤b
theorem l8 {α:Type} {l:List α} {k:Nat} {p:α} (h:l[k]? = some p):l.take (k+1)=l.take k++[p]:=by
 rw [List.take_add_one,h];rfl
theorem au {wx:World} {g g2 i:Nat} {u:Value} {t:TypeId} {cs:Array Value} (h:aj wx g2 t cs) (hne:g2≠g):aj (wx.setCell ⟨g,i,none⟩ u) g2 t cs:=by
 unfold aj at h ⊢;rw [Below.heap_setCell _ _ _ _ hne];exact h
end Go.Proofs.YtblinekbpcdbfaaGreatDoor
namespace Go.Proofs.YtblinekbpcdbfaaGreatDoor
open Go.RowKit Go.Maps
def pU (r:Int):Lit:=.int .i32 r
theorem G7 (r:Int):WideAt.IsKeyLit (pU r):=by simp [pU,WideAt.IsKeyLit]
theorem Mb {r s:Int} (h:pU r=pU s):r=s:=by injection h
theorem GD {r:Int} (h0 : -2147483648≤r) (h1:r≤2147483647):keyOf Tryz.prog 21 (.int .i32 r)=some (pU r):=keyOf_int_mk Tryz.underlying21 (WalkArith.wf_i32 ⟨h0,h1⟩)
theorem B8:Keyed Tryz.prog 21:=int_keyed Tryz.underlying21
end Go.Proofs.YtblinekbpcdbfaaGreatDoor
