/- Kinds + ShFiles + Strs + Near + Named + Right + Pass + BytesText + Decode + RunesValid + ShTxt + OneLaw -/
import Derived.Test.YtamkjeipdjbemaaGreatDoorZpH
import Derived.Test.YtamkjeipdjbemaaGreatDoorZp3
import Derived.Test.YtamkjeipdjbemaaGreatDoorRows
import Derived.Lib.FrozenHead
import Derived.Lib.ConvBytes
import Derived.Lib.RuneBytes
import Derived.Test.YtamkjeipdjbemaaGreatDoorZp2
import Derived.Lib.MapLaws
import Derived.Laws.Runes
import Derived.Lib.RuneCountTail
set_option maxHeartbeats 1600000
set_option maxRecDepth 100000
namespace Go.Proofs.YtamkjeipdjbemaaGreatDoor
open Go.RowKit
def uZ (w:World) (base:Nat) (v:Value) (l:List Int):Prop:=w.ownsRow base 21 1 v l.length (runeCells l)
theorem uZ.nil (w:World) (base:Nat):uZ w base (.slice none 0 0) []:=World.ownsRow_nil _ _ _ _
theorem uZ.of {w w':World} {base n:Nat} {v v':Value} {xs:List Value} {l:List Int}
    (h:bh base 21 1 v w n xs v' w') (hn:l.length=n) (hx:runeCells l=xs):uZ w' base v' l:=by
 subst hn hx;exact h.own
theorem cI (a b:List Int):runeCells (a++b)=runeCells a++runeCells b:=by simp [runeCells]
theorem aE (a:List Int):∀ u∈runeCells a,u.oneCell'=true:=by
 intro u hu;simp only [runeCells,List.mem_map]at hu;obtain⟨k,_,rfl⟩:=hu;rfl
theorem Tryz.info21:(Tryz.prog.info? 21).map (fun i=>(i.zero,i.size,i.bytes))=some (some (.int .i32 0),1,4):=by kernel_rfl
def intCells (l:List Int):List Value:=l.map (Value.int .i64)
theorem Tryz.info3:(Tryz.prog.info? 3).map (fun i=>(i.zero,i.size,i.bytes))=some (some (.int .i64 0),1,8):=by kernel_rfl
def JK (w:World) (B:Nat) (A:Option Addr) (n:Nat) (l:List Int):Prop:=Rd w B 1 A n (intCells l)
theorem JK.len {w:World} {B n:Nat} {A:Option Addr} {l:List Int} (h:JK w B A n l):l.length=n:=by
 have:=h.1;simp [intCells]at this;omega
theorem JK.at {w:World} {B n:Nat} {A:Option Addr} {l:List Int} (h:JK w B A n l) {k:Nat} {x:Int} (hk:l[k]? = some x) :
    ∃ b off:Nat,A=some ⟨b,off,none⟩∧b<B∧w.cell? ⟨b,off+k,none⟩=some (.int .i64 x):=by
 have hl:k<l.length:=(List.getElem?_eq_some_iff.1 hk).1;have:=h.len;obtain⟨b,off,e,hb,hc⟩:=h.2 (by omega);exact⟨b,off,e,hb,hc k _ (by simp [intCells,hk])⟩
def RD:Op→List ByteArray
  | .build _ l=>l.toList.filterMap fun p=>match p.2 with | .const (.string s)=>some s | _=>none
  | _=>[]
def AE:Code→List ByteArray
  | .region _ o _=>o.toList.flatMap fun x=>RD x.op
  | .seq a b=>AE a++AE b
  | _=>[]
noncomputable def vL:List ByteArray:=(Tryz.f27.body.map AE).getD []
noncomputable def sO:List ByteArray:=(Tryz.f28.body.map AE).getD []
noncomputable def files:List ByteArray:=vL++sO
def fY (l:List ByteArray):List Value:=l.map Value.string
theorem wm:vL.length=18:=by kernel_rfl
theorem vM:sO.length=18:=by kernel_rfl
theorem Tryz.infoOne:(Tryz.prog.info? 44).map (fun i=>(i.zero,i.size,i.bytes))=some (some (.agg #[.string ⟨#[]⟩,.string ⟨#[]⟩]),2,32):=by kernel_rfl
theorem N2 (w:World):Calls Tryz.prog 27 #[] w fun e w'=>e=.returned (.slice (some ⟨w.heap.size,0,none⟩) 9 9)∧w'=w.alloc (.cells (fY vL).toArray 44):=by
 obtain⟨cs,hcs⟩:∃ cs,cs=(fY vL).toArray:=⟨_,rfl⟩;rw [← hcs];have HC:=qqh hcs;clear hcs;go_enter Tryz.func27,Tryz.ntmps27;go_wp2_with fail;go_ret;refine⟨rfl,?_⟩;rw [HC.out];congr 1
theorem PW (w:World):Calls Tryz.prog 28 #[] w fun e w'=>e=.returned (.slice (some ⟨w.heap.size,0,none⟩) 9 9)∧w'=w.alloc (.cells (fY sO).toArray 44):=by
 obtain⟨cs,hcs⟩:∃ cs,cs=(fY sO).toArray:=⟨_,rfl⟩;rw [← hcs];have HC:=qqh hcs;clear hcs;go_enter Tryz.func28,Tryz.ntmps28;go_wp2_with fail;go_ret;refine⟨rfl,?_⟩;rw [HC.out];congr 1
theorem Pq:(Tryz.prog.info? 9).map (fun i=>(i.zero,i.size,i.bytes))=some (some (.string ⟨#[]⟩),1,16):=by kernel_rfl
def Fr (B lo:Nat) (b:Nat):Prop:=b<B∨lo≤b
theorem mX {α:Type} {l:List α} {k:Nat} {p:α} (h:l[k]? = some p):l.take (k+1)=l.take k++[p]:=by
 rw [List.take_add_one,h];rfl
theorem ay {wx:World} {g g2 i:Nat} {u:Value} {t:TypeId} {cs:Array Value} (h:an wx g2 t cs) (hne:g2≠g):an (wx.setCell ⟨g,i,none⟩ u) g2 t cs:=by
 unfold an at h ⊢;rw [Below.heap_setCell _ _ _ _ hne];exact h
def nB (i:Nat) (c:UInt8):Bool:=decide ((97≤c.toNat∧c.toNat≤122)∨c.toNat=95∨(0<i∧48≤c.toNat∧c.toNat≤57))
def eO (s:ByteArray):Bool:=decide (1≤s.size∧s.size≤20∧∀ i (h:i<s.size),nB i s[i] = true)
theorem Nr {s:ByteArray} {j:Nat} (h:j<s.size) (hc:nB j s[j] = false):eO s=false:=by
 unfold eO;rw [decide_eq_false_iff_not];intro h2;rw [h2.2.2 j h]at hc;cases hc
def XW (w:World) (s:ByteArray) (i:Value) (wr:World):Prop :=
  ∃ j:Nat,j≤s.size∧i=.int .i64 j∧(∀ k (h:k<s.size),k<j→nB k s[k] = true)∧wr=w
theorem Qa {s:ByteArray} {j:Nat} (h:j<s.size) (hc:nB j s[j] = true) (hp:∀ k (h:k<s.size),k<j→nB k s[k] = true):∀ k (h:k<s.size),k<j+1→nB k s[k] = true:=by
 intro k hk hlt;by_cases e:k=j
 ·subst e;exact hc
 exact hp k hk (by omega)
theorem jF (s:ByteArray) (w:World) :
    Calls Tryz.prog 101 #[.string s] w fun e w'=>e=.returned (.bool (eO s))∧w=w':=by
 by_cases hs:1≤s.size∧s.size≤20
 ·obtain⟨hs1,vB⟩:=hs;go_enter Tryz.func101,Tryz.ntmps101;go_wp2_with fail;go_loopw [15] (XW w s) (fun i _=>s.size - (intOf i).toNat);(case atStart=>exact⟨0,Nat.zero_le _,rfl,by omega,rfl⟩);obtain⟨j,hj,rfl,hall,rfl⟩:=hrel;by_cases hlt:j<s.size
  ·have hx:s[j].toNat<256:=UInt8.toNat_lt s[j];cases hc:nB j s[j]
   ·have HN:=qqh (Nr hlt hc);have hc2:s[j].toNat<48∨(57<s[j].toNat∧s[j].toNat<95)∨(95<s[j].toNat∧s[j].toNat<97)∨122<s[j].toNat∨(j=0∧48≤s[j].toNat∧s[j].toNat≤57):=by
     simp [nB]at hc;omega
    have h95:((s[j].toNat:Int) != 95)=true:=(by simp;omega);clear hc hall;by_cases hj0:j=0
    ·subst hj0;rcases (show s[0].toNat<97∨122<s[0].toNat by omega)with h1 | h1
     all_goals
       go_wp2_with fail
       go_ret
       rw [HN.out]
       exact⟨rfl,rfl⟩
    have OO:((j:Int) == 0)=false:=(by simp;omega);rcases (show s[j].toNat<48∨(57<s[j].toNat∧s[j].toNat<97)∨122<s[j].toNat by omega)with h1 | ⟨h1,h2⟩ | h1
    all_goals
      go_wp2_with fail
      go_ret
      rw [HN.out]
      exact⟨rfl,rfl⟩
   have HA:=qqh (Qa hlt hc hall);have hc2:(97≤s[j].toNat∧s[j].toNat≤122)∨s[j].toNat=95∨(0<j∧48≤s[j].toNat∧s[j].toNat≤57):=by
    simpa [nB] using hc
   clear hc hall;rcases hc2 with ⟨h1,h2⟩ | h1 | ⟨h1,h2,h3⟩
   ·go_wp2_with fail;exact⟨⟨j+1,by omega,by go_num,HA.out,rfl⟩,by simp [intOf];omega⟩
   ·have h95:((s[j].toNat:Int) != 95)=false:=(by simp;omega);go_wp2_with fail;exact⟨⟨j+1,by omega,by go_num,HA.out,rfl⟩,by simp [intOf];omega⟩
   have h95:((s[j].toNat:Int) != 95)=true:=(by simp;omega);have OO:((j:Int) == 0)=false:=(by simp;omega);go_wp2_with fail;exact⟨⟨j+1,by omega,by go_num,HA.out,rfl⟩,by simp [intOf];omega⟩
  have hP:eO s=true:=by
   unfold eO;rw [decide_eq_true_iff];exact⟨hs1,vB,fun i h=>hall i h (by omega)⟩
  have HP:=qqh hP;clear hall hP;go_wp2_with fail;go_ret;rw [HP.out];exact⟨rfl,rfl⟩
 have HP:=qqh (show eO s=false by
  unfold eO;rw [decide_eq_false_iff_not];exact fun h=>hs ⟨h.1,h.2.1⟩)
 have vB:s.size<1∨(1≤s.size∧20<s.size):=(by omega);clear hs;rcases vB with h1 | ⟨h1,h2⟩
 all_goals
   go_enter Tryz.func101,Tryz.ntmps101
   go_wp2_with fail
   go_ret
   rw [HP.out]
   exact⟨rfl,rfl⟩
def bL (r:Int):Bool:=decide ((0≤r∧r<55296)∨(57343<r∧r≤1114111))
theorem Dp {r:Int} (h:bL r=true):0≤r∧r≤1114111:=by
 simp [bL]at h;omega
theorem GL (r:Int) (w:World) :
    Calls Tryz.prog 79 #[.int .i32 r] w fun e w'=>e=.returned (.bool (bL r))∧w=w':=by
 go_enter Tryz.func79,Tryz.ntmps79;go_wp2;(all_goals go_ret);(all_goals refine⟨aV ?_,rfl⟩);(all_goals (rw [Bool.eq_iff_iff];simp [bL];try omega))
theorem fh (r:Int) (w:World) :
    Calls Tryz.prog 45 #[.int .i32 r] w fun e w'=>e=.returned (.bool (bL r))∧w=w':=by
 go_enter Tryz.func45,Tryz.ntmps45;go_wp2_with (go_at_call 79;refine(GL _ _).mono ?_;rintro e w' ⟨rfl,rfl⟩);go_ret;exact⟨rfl,rfl⟩
theorem KI (r:Int) (w:World) :
    Calls Tryz.prog 85 #[.int .i32 r] w fun e w'=>e=.returned (.bool (bL r))∧w=w':=by
 go_enter Tryz.func85,Tryz.ntmps85;go_wp2;(all_goals go_ret);(all_goals refine⟨aV ?_,rfl⟩);(all_goals (rw [Bool.eq_iff_iff];simp [bL];try omega))
def fl:ByteArray:=⟨#[108,111,119,101,114]⟩
def jy:ByteArray:=⟨#[110,117,108,108]⟩
def gB:ByteArray:=⟨#[114,101,109,111,118,101]⟩
def fc:ByteArray:=⟨#[117,112,112,101,114]⟩
def qh (s:ByteArray) (l:List ByteArray):Bool:=l.any fun t=>s.toList == t.toList
def gC (s:ByteArray):Bool:=qh s [fl,jy,gB,fc]
theorem Lm (s t:ByteArray) (l:List ByteArray):qh s (t::l)=((s.toList == t.toList) || qh s l):=rfl
theorem NM {α:Type} {l:List α} {j:Nat} {x:α} (h:l[j]? = some x):l.drop j=x::l.drop (j+1):=by
 obtain⟨hj,rfl⟩:=List.getElem?_eq_some_iff.1 h;exact List.drop_eq_getElem_cons hj
def WI (W:World) (s:ByteArray) (l:List ByteArray) (n:Nat) (i:Value) (wr:World):Prop :=
  ∃ k:Nat,k≤n∧i=.int .i64 k∧qh s l=qh s (l.drop k)∧wr=W
theorem Kk (b off n c:Nat) (s:ByteArray) (l:List ByteArray) (hn:l.length=n) (hm:n≤9223372036854775807) (w:World) (hl:∀ k t,l[k]? = some t→w.cell? ⟨b,off+k,none⟩=some (.string t)) :
    Calls Tryz.prog 77 #[.slice (some ⟨b,off,none⟩) n c,.string s] w fun e w'=>(∃ z:Int,e=.returned (.int .i64 z)∧decide (0≤z)=qh s l)∧w=w':=by
 have HL:=qqh hl;have HN:=qqh hn;clear hl hn;go_enter Tryz.func77,Tryz.ntmps77;go_wp2_with fail;go_loopw [8] (WI w s l n) (fun i _=>n - (intOf i).toNat);(case atStart=>exact⟨0,Nat.zero_le _,rfl,rfl,rfl⟩);obtain⟨k,hk,rfl,aN,rfl⟩:=hrel;by_cases hlt:k<n
 ·obtain⟨t,ht⟩:∃ z,l[k]? = some z:=⟨_,List.getElem?_eq_getElem (by rw [HN.out];exact hlt)⟩;have d0:=HL.out k t ht;rw [NM ht,Lm]at aN;cases he:s.toList == t.toList
  ·rw [he,Bool.false_or]at aN;have HG:=qqh aN;clear aN;go_wp2_with fail;exact⟨⟨k+1,by omega,by go_num,HG.out,rfl⟩,by simp [intOf];omega⟩
  rw [he,Bool.true_or]at aN;have HG:=qqh aN;clear aN;go_wp2_with fail;go_ret;exact⟨⟨_,rfl,by rw [HG.out];simp⟩,rfl⟩
 obtain rfl:k=n:=(by omega);rw [List.drop_of_length_le (by rw [HN.out];omega)]at aN;have HG:=qqh (aN.trans (show qh s [] = false from rfl));clear aN;go_wp2_with fail;go_ret;exact⟨⟨_,rfl,by rw [HG.out];simp⟩,rfl⟩
theorem Qk (b off n c:Nat) (s:ByteArray) (l:List ByteArray) (hn:l.length=n) (hm:n≤9223372036854775807) (w:World) (hl:∀ k t,l[k]? = some t→w.cell? ⟨b,off+k,none⟩=some (.string t)) :
    Calls Tryz.prog 41 #[.slice (some ⟨b,off,none⟩) n c,.string s] w fun e w'=>e=.returned (.bool (qh s l))∧w=w':=by
 have H:=qqh (Kk b off n c s l hn hm w hl);clear hl hn;go_enter Tryz.func41,Tryz.ntmps41;go_wp2_with fail;refine H.out.mono ?_;rintro e w2 ⟨⟨z,rfl,hz⟩,rfl⟩;have HZ:=qqh hz;clear hz;go_wp2_with fail;go_ret;exact⟨aV HZ.out,rfl⟩
theorem jj (w:World) :
    Calls Tryz.prog 42 #[] w fun e w'=>e=.returned (.slice (some ⟨w.heap.size,0,none⟩) 4 4)∧w'=w.alloc (.cells #[.string fl,.string jy,.string gB,.string fc] 9):=by
 go_enter Tryz.func42,Tryz.ntmps42;go_wp2_with fail;go_ret;exact⟨rfl,rfl⟩
theorem rM (b:Nat) (s:ByteArray) (v:Bool) (hv:gC s=v) (w:World) (h:an w b 9 #[.string fl,.string jy,.string gB,.string fc]) :
    Calls Tryz.prog 41 #[.slice (some ⟨b,0,none⟩) 4 4,.string s] w fun e w'=>e=.returned (.bool v)∧w=w':=by
 subst hv;refine Qk b 0 4 4 s [fl,jy,gB,fc] rfl (by decide) w fun k t hk=>?_;rw [Nat.zero_add,h.cell];match k,hk with
 | 0,hk=>cases hk;rfl
 | 1,hk=>cases hk;rfl
 | 2,hk=>cases hk;rfl
 | 3,hk=>cases hk;rfl
theorem C6 (s:ByteArray) (w:World) :
    Calls Tryz.prog 51 #[.string s] w fun e w'=>e=.returned (.bool (gC s))∧w=w':=by
 go_enter Tryz.func51,Tryz.ntmps51;go_wp2_with fail;(all_goals go_ret);(all_goals exact⟨aV (by simp_all [gC,qh,fl,jy,gB,fc] <;> simp [Bool.or_assoc]),rfl⟩)
def bytesOf (l:List Int):List UInt8:=l.flatMap Lib.encodeRune
theorem CW (l:List Int):(bytesOf l).length≤4*l.length:=by
 induction l with
 | nil=>simp [bytesOf]
 | cons a l ih=>
  have h1:(Lib.encodeRune a).length≤4:=(by rw [← Lib.runeCells_length];exact(Lib.runeCells_le a).2);simp only [bytesOf,List.flatMap_cons,List.length_append,List.length_cons]at ih ⊢;omega
def Ep (l:List Int):ByteArray × Int:=if l.all bL then (⟨(bytesOf l).toArray⟩,0)else (⟨#[]⟩,3)
def Hz (w:World) (s:ByteArray) (e:Ending) (w':World):Prop :=
  ∃ v,e=.returned v∧uZ w' w.heap.size v (dw s 0)∧Below w.heap.size w w'
def Tg (w:World) (s:ByteArray) (v:Value) (wr:World):Prop :=
  ∃ (p:Nat) (l:List Int),p≤s.size∧wr.heap[w.heap.size]? = some (.stringIter s p)∧uZ wr (w.heap.size+1) v l∧l++dw s p=dw s 0∧l.length≤p∧Below w.heap.size w wr
theorem I2 {w:World} {base k p:Nat} {e:TypeId} {sz n:Nat} {v v':Value} {w':World} {xs:List Value} {s:ByteArray} (hit:w.heap[k]? = some (.stringIter s p)) (hk:k<base)
    (ho:∃ m ys,w.ownsRow base e sz v m ys) (h:bh base e sz v w n xs v' w'):w'.heap[k]? = some (.stringIter s p):=by
 obtain⟨m,ys,ho⟩:=ho;rw [h.2.1.block k (Array.getElem?_eq_some_iff.1 hit).1 (fun e=>by have:=(World.ownsRow.lt ho k e.symm).1;omega)];exact hit
theorem vU (s:ByteArray) (w:World) (hs:s.size≤1099511627776) :
    Calls Tryz.prog 25 #[.string s] w (Hz w s):=by
 obtain⟨i0,hi,hz0,i6,kO⟩:=info_parts Tryz.info21;go_enter Tryz.func25,Tryz.ntmps25;go_wp2;go_loopw [3] (Tg w s) (fun _ wr=>s.size - wr.iterPos w.heap.size);(case atStart=>exact⟨0,[],Nat.zero_le _,World.iter_heap _ _ _,uZ.nil _ _,rfl,qql,qqb.alloc qql _⟩);obtain⟨p,l,hp,hit,hown,hl,hll,nT⟩:=hrel;have hz:=nT.size;have qx:=iterPos_of hit;by_cases hlt:p<s.size
 ·have hnext:=fun ty=>Lib.run_next_any_at (P:=Tryz.prog) wr w.heap.size s p ty hit hlt;have hd:=kN s p hlt;have hstep:=rQ s p hlt;have Kh:=Lib.iterAt_heap wr w.heap.size s p (p+(Utf8.decode s p).2) hit;have aP:=Lib.below_iterAt nT qql s (p+(Utf8.decode s p).2);have MD:uZ (wr.iterAt w.heap.size s (p+(Utf8.decode s p).2)) (w.heap.size+1) _ l:=ownsRow_iterAt hown (Nat.lt_succ_self _) s _;generalize wr.iterAt w.heap.size s (p+(Utf8.decode s p).2)=W1 at *;generalize hr:((Utf8.decode s p).1:Int)=r at *;generalize (Utf8.decode s p).2=k at *;rw [hstep]at hl;have agT:=aP.size;obtain⟨A3,c3,rfl,lR⟩:=av MD;have Re:=qqh Kh;have RJ:=qqh qx;have HL:=qqh hl;have HN:=qqh (Rd.new W1 21 1 1 [.int .i32 r] rfl);have HO:=qqh (World.ownsRow.alloc MD (.cells #[.int .i32 r] 21));clear hit Kh qx hl hown MD hstep hr;go_wp2_with (at_builtin;refine aj _ rfl (.tmp 11) (.tmp 13) 22 rfl (w.heap.size+1) 21 i0 _ 1 4 Tryz.underlying22 hi hz0 i6 kO rfl (by decide) _ _ _ rfl HO.out (W1.heap.size+1) (some ⟨W1.heap.size,0,none⟩) 1 1 [.int .i32 r] rfl HN.out ?s1 (by simp only [maxLen];omega) (by omega) (by simp;omega) ?_);(case s1=>intro u hu;simp at hu;rw [hu];rfl);intro v' w2 af;have yD:=I2 ((Below.heap_alloc W1 (.cells #[.int .i32 r] 21) w.heap.size (Array.getElem?_eq_some_iff.1 Re.out).1).trans Re.out) (Nat.lt_succ_self _) ⟨_,_,HO.out⟩ af;have WV:uZ w2 (w.heap.size+1) v' (l++[r]):=uZ.of af (by simp) (by simp [runeCells]);have aX:Below w.heap.size w w2:=(aP.alloc (by omega) _).trans ((af.below (by simp;omega) HO.out).mono (by omega));clear af;have Ue:=iterPos_of yD;have Uk:=qqh yD;clear yD;have i7:=qqh Ue;clear Ue;go_wp2
  exact⟨⟨p+k,l++[r],by omega,Uk.out,WV,by rw [List.append_assoc];exact HL.out,by simp;omega,aX⟩,by rw [i7.out,RJ.out];omega⟩
 have hnext:=fun ty=>Lib.run_next_end_at (P:=Tryz.prog) wr w.heap.size s p ty hit hlt;rw [oE s p hlt,List.append_nil]at hl;subst hl;clear hit qx;go_wp2;go_ret;exact⟨_,rfl,mH hown (by omega),nT⟩
end Go.Proofs.YtamkjeipdjbemaaGreatDoor
namespace Go.Proofs.YtamkjeipdjbemaaGreatDoor
theorem sr (s:ByteArray) (p:Nat):bL ((Utf8.decode s p).1:Int)=true:=by
 rw [Lib.decode_at];have key:∀ n b0 b1 b2 b3,bL ((Lib.decodeN n b0 b1 b2 b3).1:Int)=true:=by
  intro n b0 b1 b2 b3;unfold Lib.decodeN;(repeat' split);(all_goals simp [bL]);(all_goals omega)
 exact key _ _ _ _ _
theorem y8 (s:ByteArray):∀ (f p:Nat),s.size - p≤f→(dw s p).all bL=true:=by
 intro f;induction f with
 | zero=>intro p h;rw [oE s p (by omega)];rfl
 | succ f ih=>
  intro p h;by_cases hp:p<s.size
  ·have hd:=kN s p hp;rw [rQ s p hp,List.all_cons,sr s p,ih _ (by omega)];rfl
  rw [oE s p hp];rfl
theorem yQ (s:ByteArray):∀ x∈dw s 0,Utf8.valid x=true:=by
 intro x hx;have:=List.all_eq_true.1 (y8 s s.size 0 (by omega)) x hx;rw [validRune_eq];unfold validRune;simpa [bL] using this
end Go.Proofs.YtamkjeipdjbemaaGreatDoor
namespace Go.Proofs.YtamkjeipdjbemaaGreatDoor
open Go.RowKit
def YW (l:List Int):ByteArray:=⟨(bytesOf l).toArray⟩
theorem Qf {l:List Int} (h:l.all bL=true):Ep l=(YW l,0):=by unfold Ep;rw [if_pos h];rfl
def ki (s:ByteArray) (p:Nat):Int:=((s.get! p).toNat:Int)
theorem pG (s:ByteArray) (p:Nat) (h:p<s.size):((s[p]'h).toNat:Int)=ki s p:=by
 unfold ki;have e:=get_at s p h;rw [Nat.add_zero]at e;rw [e]
def part (s:ByteArray) (p:Nat) (x0:Int):Nat→Int
  | 0=>x0
  | k+1=>part s p x0 k*64+ki s (p+(k+1)) % 64
end Go.Proofs.YtamkjeipdjbemaaGreatDoor
