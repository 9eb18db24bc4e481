/- Named + Right + Pass + OneLaw + Kinds + BytesText + RunesValid + Decode + Strs + Near + ShTxt -/
import Derived.Test.YtkggjgeihhialaaGreatDoorZuH
import Derived.Test.YtkggjgeihhialaaGreatDoorRows
import Derived.Test.YtkggjgeihhialaaGreatDoorZu3
import Derived.Lib.ConvBytes
import Derived.Test.YtkggjgeihhialaaGreatDoorZu2
import Derived.Lib.RuneCountTail
import Derived.Lib.RuneBytes
import Derived.Lib.MapLaws
import Derived.Laws.Runes
import Derived.Lib.FrozenHead
set_option maxHeartbeats 1600000
set_option maxRecDepth 100000
namespace Go.Proofs.YtkggjgeihhialaaGreatDoor
open Go.RowKit
def mU (i:Nat) (c:UInt8):Bool:=decide ((97≤c.toNat∧c.toNat≤122)∨c.toNat=95∨(0<i∧48≤c.toNat∧c.toNat≤57))
def ek (s:ByteArray):Bool:=decide (1≤s.size∧s.size≤20∧∀ i (h:i<s.size),mU i s[i] = true)
theorem Mz {s:ByteArray} {j:Nat} (h:j<s.size) (hc:mU j s[j] = false):ek s=false:=by
 unfold ek;rw [decide_eq_false_iff_not];intro h2;rw [h2.2.2 j h]at hc;cases hc
def XS (w:World) (s:ByteArray) (i:Value) (wr:World):Prop :=
  ∃ j:Nat,j≤s.size∧i=.int .i64 j∧(∀ k (h:k<s.size),k<j→mU k s[k] = true)∧wr=w
theorem O1 {s:ByteArray} {j:Nat} (h:j<s.size) (hc:mU j s[j] = true) (hp:∀ k (h:k<s.size),k<j→mU k s[k] = true):∀ k (h:k<s.size),k<j+1→mU k s[k] = true:=by
 intro k hk hlt;by_cases e:k=j
 ·subst e;exact hc
 exact hp k hk (by omega)
theorem i7 (s:ByteArray) (w:World) :
    Calls Tryz.prog 100 #[.string s] w fun e w'=>e=.returned (.bool (ek s))∧w=w':=by
 by_cases hs:1≤s.size∧s.size≤20
 ·obtain⟨hs1,xu⟩:=hs;go_enter Tryz.func100,Tryz.ntmps100;go_wp2_with fail;go_loopw [15] (XS w s) (fun i _=>s.size - (intOf i).toNat);(case atStart=>exact⟨0,Nat.zero_le _,rfl,by omega,rfl⟩);obtain⟨j,hj,rfl,hall,rfl⟩:=hrel;by_cases hlt:j<s.size
  ·have hx:s[j].toNat<256:=UInt8.toNat_lt s[j];cases hc:mU j s[j]
   ·have HN:=qqh (Mz hlt hc);have hc2:s[j].toNat<48∨(57<s[j].toNat∧s[j].toNat<95)∨(95<s[j].toNat∧s[j].toNat<97)∨122<s[j].toNat∨(j=0∧48≤s[j].toNat∧s[j].toNat≤57):=by
     simp [mU]at hc;omega
    have h95:((s[j].toNat:Int) != 95)=true:=(by simp;omega);clear hc hall;by_cases hj0:j=0
    ·subst hj0;rcases (show s[0].toNat<97∨122<s[0].toNat by omega)with h1 | h1
     all_goals
       go_wp2_with fail
       go_ret
       rw [HN.out]
       exact⟨rfl,rfl⟩
    have Qg:((j:Int) == 0)=false:=(by simp;omega);rcases (show s[j].toNat<48∨(57<s[j].toNat∧s[j].toNat<97)∨122<s[j].toNat by omega)with h1 | ⟨h1,h2⟩ | h1
    all_goals
      go_wp2_with fail
      go_ret
      rw [HN.out]
      exact⟨rfl,rfl⟩
   have HA:=qqh (O1 hlt hc hall);have hc2:(97≤s[j].toNat∧s[j].toNat≤122)∨s[j].toNat=95∨(0<j∧48≤s[j].toNat∧s[j].toNat≤57):=by
    simpa [mU] using hc
   clear hc hall;rcases hc2 with ⟨h1,h2⟩ | h1 | ⟨h1,h2,h3⟩
   ·go_wp2_with fail;exact⟨⟨j+1,by omega,by go_num,HA.out,rfl⟩,by simp [intOf];omega⟩
   ·have h95:((s[j].toNat:Int) != 95)=false:=(by simp;omega);go_wp2_with fail;exact⟨⟨j+1,by omega,by go_num,HA.out,rfl⟩,by simp [intOf];omega⟩
   have h95:((s[j].toNat:Int) != 95)=true:=(by simp;omega);have Qg:((j:Int) == 0)=false:=(by simp;omega);go_wp2_with fail;exact⟨⟨j+1,by omega,by go_num,HA.out,rfl⟩,by simp [intOf];omega⟩
  have hP:ek s=true:=by
   unfold ek;rw [decide_eq_true_iff];exact⟨hs1,xu,fun i h=>hall i h (by omega)⟩
  have HP:=qqh hP;clear hall hP;go_wp2_with fail;go_ret;rw [HP.out];exact⟨rfl,rfl⟩
 have HP:=qqh (show ek s=false by
  unfold ek;rw [decide_eq_false_iff_not];exact fun h=>hs ⟨h.1,h.2.1⟩)
 have xu:s.size<1∨(1≤s.size∧20<s.size):=(by omega);clear hs;rcases xu with h1 | ⟨h1,h2⟩
 all_goals
   go_enter Tryz.func100,Tryz.ntmps100
   go_wp2_with fail
   go_ret
   rw [HP.out]
   exact⟨rfl,rfl⟩
end Go.Proofs.YtkggjgeihhialaaGreatDoor
namespace Go.Proofs.YtkggjgeihhialaaGreatDoor
open Go.RowKit
def b7 (r:Int):Bool:=decide ((0≤r∧r<55296)∨(57343<r∧r≤1114111))
theorem EV (r:Int) (w:World) :
    Calls Tryz.prog 84 #[.int .i32 r] w fun e w'=>e=.returned (.bool (b7 r))∧w=w':=by
 go_enter Tryz.func84,Tryz.ntmps84;go_wp2;(all_goals go_ret);(all_goals refine⟨aW ?_,rfl⟩);(all_goals (rw [Bool.eq_iff_iff];simp [b7];try omega))
theorem gw (r:Int) (w:World) :
    Calls Tryz.prog 50 #[.int .i32 r] w fun e w'=>e=.returned (.bool (b7 r))∧w=w':=by
 go_enter Tryz.func50,Tryz.ntmps50;go_wp2_with (go_at_call 84;refine(EV _ _).mono ?_;rintro e w' ⟨rfl,rfl⟩);go_ret;exact⟨rfl,rfl⟩
end Go.Proofs.YtkggjgeihhialaaGreatDoor
namespace Go.Proofs.YtkggjgeihhialaaGreatDoor
open Go.RowKit
def fA:ByteArray:=⟨#[108,111,119,101,114]⟩
def kN:ByteArray:=⟨#[110,117,108,108]⟩
def gQ:ByteArray:=⟨#[114,101,109,111,118,101]⟩
def fB:ByteArray:=⟨#[117,112,112,101,114]⟩
def tr (s:ByteArray) (l:List ByteArray):Bool:=l.any fun t=>s.toList == t.toList
def jL (s:ByteArray):Bool:=tr s [fA,kN,gQ,fB]
theorem Mq (s t:ByteArray) (l:List ByteArray):tr s (t::l)=((s.toList == t.toList) || tr s l):=rfl
theorem KS {α:Type} {l:List α} {j:Nat} {x:α} (h:l[j]? = some x):l.drop j=x::l.drop (j+1):=by
 obtain⟨hj,rfl⟩:=List.getElem?_eq_some_iff.1 h;exact List.drop_eq_getElem_cons hj
def Us (W:World) (s:ByteArray) (l:List ByteArray) (n:Nat) (i:Value) (wr:World):Prop :=
  ∃ k:Nat,k≤n∧i=.int .i64 k∧tr s l=tr s (l.drop k)∧wr=W
theorem Iq (b off n c:Nat) (s:ByteArray) (l:List ByteArray) (hn:l.length=n) (hm:n≤9223372036854775807) (w:World) (hl:∀ k t,l[k]? = some t→w.cell? ⟨b,off+k,none⟩=some (.string t)) :
    Calls Tryz.prog 82 #[.slice (some ⟨b,off,none⟩) n c,.string s] w fun e w'=>(∃ z:Int,e=.returned (.int .i64 z)∧decide (0≤z)=tr s l)∧w=w':=by
 have HL:=qqh hl;have HN:=qqh hn;clear hl hn;go_enter Tryz.func82,Tryz.ntmps82;go_wp2_with fail;go_loopw [8] (Us w s l n) (fun i _=>n - (intOf i).toNat);(case atStart=>exact⟨0,Nat.zero_le _,rfl,rfl,rfl⟩);obtain⟨k,hk,rfl,aV,rfl⟩:=hrel;by_cases hlt:k<n
 ·obtain⟨t,ht⟩:∃ z,l[k]? = some z:=⟨_,List.getElem?_eq_getElem (by rw [HN.out];exact hlt)⟩;have d0:=HL.out k t ht;rw [KS ht,Mq]at aV;cases he:s.toList == t.toList
  ·rw [he,Bool.false_or]at aV;have HG:=qqh aV;clear aV;go_wp2_with fail;exact⟨⟨k+1,by omega,by go_num,HG.out,rfl⟩,by simp [intOf];omega⟩
  rw [he,Bool.true_or]at aV;have HG:=qqh aV;clear aV;go_wp2_with fail;go_ret;exact⟨⟨_,rfl,by rw [HG.out];simp⟩,rfl⟩
 obtain rfl:k=n:=(by omega);rw [List.drop_of_length_le (by rw [HN.out];omega)]at aV;have HG:=qqh (aV.trans (show tr s [] = false from rfl));clear aV;go_wp2_with fail;go_ret;exact⟨⟨_,rfl,by rw [HG.out];simp⟩,rfl⟩
theorem PK (b off n c:Nat) (s:ByteArray) (l:List ByteArray) (hn:l.length=n) (hm:n≤9223372036854775807) (w:World) (hl:∀ k t,l[k]? = some t→w.cell? ⟨b,off+k,none⟩=some (.string t)) :
    Calls Tryz.prog 46 #[.slice (some ⟨b,off,none⟩) n c,.string s] w fun e w'=>e=.returned (.bool (tr s l))∧w=w':=by
 have H:=qqh (Iq b off n c s l hn hm w hl);clear hl hn;go_enter Tryz.func46,Tryz.ntmps46;go_wp2_with fail;refine H.out.mono ?_;rintro e w2 ⟨⟨z,rfl,hz⟩,rfl⟩;have HZ:=qqh hz;clear hz;go_wp2_with fail;go_ret;exact⟨aW HZ.out,rfl⟩
theorem iy (w:World) :
    Calls Tryz.prog 47 #[] w fun e w'=>e=.returned (.slice (some ⟨w.heap.size,0,none⟩) 4 4)∧w'=w.alloc (.cells #[.string fA,.string kN,.string gQ,.string fB] 9):=by
 go_enter Tryz.func47,Tryz.ntmps47;go_wp2_with fail;go_ret;exact⟨rfl,rfl⟩
theorem qQ (b:Nat) (s:ByteArray) (v:Bool) (hv:jL s=v) (w:World) (h:aj w b 9 #[.string fA,.string kN,.string gQ,.string fB]) :
    Calls Tryz.prog 46 #[.slice (some ⟨b,0,none⟩) 4 4,.string s] w fun e w'=>e=.returned (.bool v)∧w=w':=by
 subst hv;refine PK b 0 4 4 s [fA,kN,gQ,fB] rfl (by decide) w fun k t hk=>?_;rw [Nat.zero_add,h.cell];match k,hk with
 | 0,hk=>cases hk;rfl
 | 1,hk=>cases hk;rfl
 | 2,hk=>cases hk;rfl
 | 3,hk=>cases hk;rfl
end Go.Proofs.YtkggjgeihhialaaGreatDoor
namespace Go.Proofs.YtkggjgeihhialaaGreatDoor
open Go.RowKit
def jy (s:ByteArray) (p:Nat):Int:=((s.get! p).toNat:Int)
theorem oe (s:ByteArray) (p:Nat) (h:p<s.size):((s[p]'h).toNat:Int)=jy s p:=by
 unfold jy;have e:=get_at s p h;rw [Nat.add_zero]at e;rw [e]
def part (s:ByteArray) (p:Nat) (x0:Int):Nat→Int
  | 0=>x0
  | k+1=>part s p x0 k*64+jy s (p+(k+1)) % 64
end Go.Proofs.YtkggjgeihhialaaGreatDoor
namespace Go.Proofs.YtkggjgeihhialaaGreatDoor
open Go.RowKit
def pn (w:World) (base:Nat) (v:Value) (l:List Int):Prop:=w.ownsRow base 21 1 v l.length (runeCells l)
theorem pn.nil (w:World) (base:Nat):pn w base (.slice none 0 0) []:=World.ownsRow_nil _ _ _ _
theorem pn.of {w w':World} {base n:Nat} {v v':Value} {xs:List Value} {l:List Int}
    (h:aX base 21 1 v w n xs v' w') (hn:l.length=n) (hx:runeCells l=xs):pn w' base v' l:=by
 subst hn hx;exact h.own
theorem ef (a b:List Int):runeCells (a++b)=runeCells a++runeCells b:=by simp [runeCells]
theorem bl (a:List Int):∀ u∈runeCells a,u.oneCell'=true:=by
 intro u hu;simp only [runeCells,List.mem_map]at hu;obtain⟨k,_,rfl⟩:=hu;rfl
theorem Tryz.info21:(Tryz.prog.info? 21).map (fun i=>(i.zero,i.size,i.bytes))=some (some (.int .i32 0),1,4):=by kernel_rfl
theorem pn.rd {w:World} {base:Nat} {A:Option Addr} {n c:Nat} {l:List Int} (h:pn w base (.slice A n c) l) (hn:l.length=n):lX w w.heap.size A n l:=by
 subst hn;exact Rd.cP h
def intCells (l:List Int):List Value:=l.map (Value.int .i64)
def VY (w:World) (base:Nat) (v:Value) (l:List Int):Prop:=w.ownsRow base 3 1 v l.length (intCells l)
theorem Tryz.info3:(Tryz.prog.info? 3).map (fun i=>(i.zero,i.size,i.bytes))=some (some (.int .i64 0),1,8):=by kernel_rfl
def NH (w:World) (B:Nat) (A:Option Addr) (n:Nat) (l:List Int):Prop:=Rd w B 1 A n (intCells l)
theorem NH.len {w:World} {B n:Nat} {A:Option Addr} {l:List Int} (h:NH w B A n l):l.length=n:=by
 have:=h.1;simp [intCells]at this;omega
theorem NH.at {w:World} {B n:Nat} {A:Option Addr} {l:List Int} (h:NH w B A n l) {k:Nat} {x:Int} (hk:l[k]? = some x) :
    ∃ b off:Nat,A=some ⟨b,off,none⟩∧b<B∧w.cell? ⟨b,off+k,none⟩=some (.int .i64 x):=by
 have hl:k<l.length:=(List.getElem?_eq_some_iff.1 hk).1;have:=h.len;obtain⟨b,off,e,hb,hc⟩:=h.2 (by omega);exact⟨b,off,e,hb,hc k _ (by simp [intCells,hk])⟩
theorem VY.rd {w:World} {base:Nat} {A:Option Addr} {n c:Nat} {l:List Int} (h:VY w base (.slice A n c) l) (hn:l.length=n):NH w w.heap.size A n l:=by
 subst hn;exact Rd.cP h
end Go.Proofs.YtkggjgeihhialaaGreatDoor
namespace Go.Proofs.YtkggjgeihhialaaGreatDoor
open Go.RowKit
def bytesOf (l:List Int):List UInt8:=l.flatMap Lib.encodeRune
end Go.Proofs.YtkggjgeihhialaaGreatDoor
namespace Go.Proofs.YtkggjgeihhialaaGreatDoor
theorem rj (s:ByteArray) (p:Nat):b7 ((Utf8.decode s p).1:Int)=true:=by
 rw [Lib.decode_at];have key:∀ n b0 b1 b2 b3,b7 ((Lib.decodeN n b0 b1 b2 b3).1:Int)=true:=by
  intro n b0 b1 b2 b3;unfold Lib.decodeN;(repeat' split);(all_goals simp [b7]);(all_goals omega)
 exact key _ _ _ _ _
theorem yF (s:ByteArray):∀ (f p:Nat),s.size - p≤f→(dm s p).all b7=true:=by
 intro f;induction f with
 | zero=>intro p h;rw [nN s p (by omega)];rfl
 | succ f ih=>
  intro p h;by_cases hp:p<s.size
  ·have hd:=ke s p hp;rw [qX s p hp,List.all_cons,rj s p,ih _ (by omega)];rfl
  rw [nN s p hp];rfl
theorem lM (s:ByteArray):∀ x∈dm s 0,Utf8.valid x=true:=by
 intro x hx;have:=List.all_eq_true.1 (yF s s.size 0 (by omega)) x hx;rw [validRune_eq];unfold validRune;simpa [b7] using this
end Go.Proofs.YtkggjgeihhialaaGreatDoor
namespace Go.Proofs.YtkggjgeihhialaaGreatDoor
open Go.RowKit
def Bb (w:World) (s:ByteArray) (e:Ending) (w':World):Prop :=
  ∃ v,e=.returned v∧pn w' w.heap.size v (dm s 0)∧Below w.heap.size w w'
def RQ (w:World) (s:ByteArray) (v:Value) (wr:World):Prop :=
  ∃ (p:Nat) (l:List Int),p≤s.size∧wr.heap[w.heap.size]? = some (.stringIter s p)∧pn wr (w.heap.size+1) v l∧l++dm s p=dm s 0∧l.length≤p∧Below w.heap.size w wr
theorem IC {w:World} {base k p:Nat} {e:TypeId} {sz n:Nat} {v v':Value} {w':World} {xs:List Value} {s:ByteArray} (hit:w.heap[k]? = some (.stringIter s p)) (hk:k<base)
    (ho:∃ m ys,w.ownsRow base e sz v m ys) (h:aX base e sz v w n xs v' w'):w'.heap[k]? = some (.stringIter s p):=by
 obtain⟨m,ys,ho⟩:=ho;rw [h.2.1.block k (Array.getElem?_eq_some_iff.1 hit).1 (fun e=>by have:=(World.ownsRow.lt ho k e.symm).1;omega)];exact hit
theorem pP (s:ByteArray) (w:World) (hs:s.size≤1099511627776) :
    Calls Tryz.prog 7 #[.string s] w (Bb w s):=by
 obtain⟨i0,hi,hz0,nQ,rM⟩:=info_parts Tryz.info21;go_enter Tryz.func7,Tryz.ntmps7;go_wp2;go_loopw [3] (RQ w s) (fun _ wr=>s.size - wr.iterPos w.heap.size);(case atStart=>exact⟨0,[],Nat.zero_le _,World.iter_heap _ _ _,pn.nil _ _,rfl,Nat.le_refl _,(Below.refl _ _).alloc (Nat.le_refl _) _⟩);obtain⟨p,l,hp,hit,hown,hl,hll,pM⟩:=hrel;have hz:=pM.size;have pO:=iterPos_of hit;by_cases hlt:p<s.size
 ·have hnext:=fun ty=>Lib.run_next_any_at (P:=Tryz.prog) wr w.heap.size s p ty hit hlt;have hd:=ke s p hlt;have hstep:=qX s p hlt;have JB:=Lib.iterAt_heap wr w.heap.size s p (p+(Utf8.decode s p).2) hit;have aR:=Lib.below_iterAt pM (Nat.le_refl _) s (p+(Utf8.decode s p).2);have KV:pn (wr.iterAt w.heap.size s (p+(Utf8.decode s p).2)) (w.heap.size+1) _ l:=ownsRow_iterAt hown (Nat.lt_succ_self _) s _;generalize wr.iterAt w.heap.size s (p+(Utf8.decode s p).2)=W1 at *;generalize hr:((Utf8.decode s p).1:Int)=r at *;generalize (Utf8.decode s p).2=k at *;rw [hstep]at hl;have agL:=aR.size;obtain⟨A3,c3,rfl,lG⟩:=aI KV;have Qr:=qqh JB;have Ri:=qqh pO;have HL:=qqh hl;have HN:=qqh (Rd.new W1 21 1 1 [.int .i32 r] rfl);have HO:=qqh (World.ownsRow.alloc KV (.cells #[.int .i32 r] 21));clear hit JB pO hl hown KV hstep hr;go_wp2_with (at_builtin;refine ak _ rfl (.tmp 11) (.tmp 13) 33 rfl (w.heap.size+1) 21 i0 _ 1 4 Tryz.underlying33 hi hz0 nQ rM rfl (by decide) _ _ _ rfl HO.out (W1.heap.size+1) (some ⟨W1.heap.size,0,none⟩) 1 1 [.int .i32 r] rfl HN.out ?s1 (by simp only [maxLen];omega) (by omega) (by simp;omega) ?_);(case s1=>intro u hu;simp at hu;rw [hu];rfl);intro v' w2 au;have ya:=IC ((Below.heap_alloc W1 (.cells #[.int .i32 r] 21) w.heap.size (Array.getElem?_eq_some_iff.1 Qr.out).1).trans Qr.out) (Nat.lt_succ_self _) ⟨_,_,HO.out⟩ au;have VO:pn w2 (w.heap.size+1) v' (l++[r]):=pn.of au (by simp) (by simp [runeCells]);have aU:Below w.heap.size w w2:=(aR.alloc (by omega) _).trans ((au.below (by simp;omega) HO.out).mono (by omega));clear au;have TC:=iterPos_of ya;have TS:=qqh ya;clear ya;have iL:=qqh TC;clear TC;go_wp2
  exact⟨⟨p+k,l++[r],by omega,TS.out,VO,by rw [List.append_assoc];exact HL.out,by simp;omega,aU⟩,by rw [iL.out,Ri.out];omega⟩
 have hnext:=fun ty=>Lib.run_next_end_at (P:=Tryz.prog) wr w.heap.size s p ty hit hlt;rw [nN s p hlt,List.append_nil]at hl;subst hl;clear hit pO;go_wp2;go_ret;exact⟨_,rfl,lZ hown (by omega),pM⟩
end Go.Proofs.YtkggjgeihhialaaGreatDoor
namespace Go.Proofs.YtkggjgeihhialaaGreatDoor
open Go.RowKit
def G9 (l:List (List UInt8)):List Value:=l.map fun x=>.string ⟨x.toArray⟩
def Ut (w:World) (base:Nat) (v:Value) (l:List (List UInt8)):Prop:=w.ownsRow base 9 1 v l.length (G9 l)
theorem Ut.rd {w:World} {base:Nat} {A:Option Addr} {n c:Nat} {l:List (List UInt8)} (h:Ut w base (.slice A n c) l) (hn:l.length=n):Rd w w.heap.size 1 A n (G9 l):=by
 subst hn;exact Rd.cP h
end Go.Proofs.YtkggjgeihhialaaGreatDoor
namespace Go.Proofs.YtkggjgeihhialaaGreatDoor
open Go.RowKit
def Fr (B lo:Nat) (b:Nat):Prop:=b<B∨lo≤b
theorem mw {α:Type} {l:List α} {k:Nat} {p:α} (h:l[k]? = some p):l.take (k+1)=l.take k++[p]:=by
 rw [List.take_add_one,h];rfl
theorem av {wx:World} {g g2 i:Nat} {u:Value} {t:TypeId} {cs:Array Value} (h:aj wx g2 t cs) (hne:g2≠g):aj (wx.setCell ⟨g,i,none⟩ u) g2 t cs:=by
 unfold aj at h ⊢;rw [Below.heap_setCell _ _ _ _ hne];exact h
end Go.Proofs.YtkggjgeihhialaaGreatDoor
namespace Go.Proofs.YtkggjgeihhialaaGreatDoor
open Go.RowKit
def WB (l:List Int):ByteArray:=⟨(bytesOf l).toArray⟩
end Go.Proofs.YtkggjgeihhialaaGreatDoor
