/- Kinds + ShFiles + Strs + Near + Named + Right + Pass + BytesText + Decode + RunesValid + Turn + ShTxt + OneLaw + RefBytes + ShMap -/
import Derived.Test.YtapechjebkjidaaGreatDoorZs2
import Derived.Test.YtapechjebkjidaaGreatDoorRows
import Derived.Lib.FrozenHead
import Derived.Lib.ConvBytes
import Derived.Lib.RuneBytes
import Derived.Test.YtapechjebkjidaaGreatDoorZs1
import Derived.Lib.MapLaws
import Derived.Laws.Runes
import Derived.Test.YtapechjebkjidaaGreatDoorZs4
set_option maxHeartbeats 1600000
set_option maxRecDepth 100000
namespace Go.Proofs.YtapechjebkjidaaGreatDoor
open Go.RowKit
def gN (w:World) (base:Nat) (v:Value) (l:List Int):Prop:=w.ownsRow base 21 1 v l.length (runeCells l)
theorem gN.nil (w:World) (base:Nat):gN w base (.slice none 0 0) []:=World.ownsRow_nil _ _ _ _
theorem gN.of {w w':World} {base n:Nat} {v v':Value} {xs:List Value} {l:List Int}
    (h:aS base 21 1 v w n xs v' w') (hn:l.length=n) (hx:runeCells l=xs):gN w' base v' l:=by
 subst hn hx;exact h.own
theorem gW (a b:List Int):runeCells (a++b)=runeCells a++runeCells b:=by simp [runeCells]
theorem bu (a:List Int):∀ u∈runeCells a,u.oneCell'=true:=by
 intro u hu;simp only [runeCells,List.mem_map]at hu;obtain⟨k,_,rfl⟩:=hu;rfl
theorem Tryz.info21:(Tryz.prog.info? 21).map (fun i=>(i.zero,i.size,i.bytes))=some (some (.int .i32 0),1,4):=by kernel_rfl
theorem gN.rd {w:World} {base:Nat} {A:Option Addr} {n c:Nat} {l:List Int} (h:gN w base (.slice A n c) l) (hn:l.length=n):uD w w.heap.size A n l:=by
 subst hn;exact Rd.cj h
def intCells (l:List Int):List Value:=l.map (Value.int .i64)
def lX (w:World) (base:Nat) (v:Value) (l:List Int):Prop:=w.ownsRow base 3 1 v l.length (intCells l)
theorem lX.nil (w:World) (base:Nat):lX w base (.slice none 0 0) []:=World.ownsRow_nil _ _ _ _
theorem lX.of {w w':World} {base n:Nat} {v v':Value} {xs:List Value} {l:List Int}
    (h:aS base 3 1 v w n xs v' w') (hn:l.length=n) (hx:intCells l=xs):lX w' base v' l:=by
 subst hn hx;exact h.own
theorem Tryz.info3:(Tryz.prog.info? 3).map (fun i=>(i.zero,i.size,i.bytes))=some (some (.int .i64 0),1,8):=by kernel_rfl
def LB (w:World) (B:Nat) (A:Option Addr) (n:Nat) (l:List Int):Prop:=Rd w B 1 A n (intCells l)
theorem LB.len {w:World} {B n:Nat} {A:Option Addr} {l:List Int} (h:LB w B A n l):l.length=n:=by
 have:=h.1;simp [intCells]at this;omega
theorem LB.at {w:World} {B n:Nat} {A:Option Addr} {l:List Int} (h:LB w B A n l) {k:Nat} {x:Int} (hk:l[k]? = some x) :
    ∃ b off:Nat,A=some ⟨b,off,none⟩∧b<B∧w.cell? ⟨b,off+k,none⟩=some (.int .i64 x):=by
 have hl:k<l.length:=(List.getElem?_eq_some_iff.1 hk).1;have:=h.len;obtain⟨b,off,e,hb,hc⟩:=h.2 (by omega);exact⟨b,off,e,hb,hc k _ (by simp [intCells,hk])⟩
theorem lX.rd {w:World} {base:Nat} {A:Option Addr} {n c:Nat} {l:List Int} (h:lX w base (.slice A n c) l) (hn:l.length=n):LB w w.heap.size A n l:=by
 subst hn;exact Rd.cj h
end Go.Proofs.YtapechjebkjidaaGreatDoor
namespace Go.Proofs.YtapechjebkjidaaGreatDoor
open Go.RowKit
def Tq:Op→List ByteArray
  | .build _ l=>l.toList.filterMap fun p=>match p.2 with | .const (.string s)=>some s | _=>none
  | _=>[]
def Cc:Code→List ByteArray
  | .region _ o _=>o.toList.flatMap fun x=>Tq x.op
  | .seq a b=>Cc a++Cc b
  | _=>[]
noncomputable def xR:List ByteArray:=(Tryz.f74.body.map Cc).getD []
noncomputable def ug:List ByteArray:=(Tryz.f75.body.map Cc).getD []
noncomputable def files:List ByteArray:=xR++ug
def j6 (l:List ByteArray):List Value:=l.map Value.string
theorem xU:xR.length=18:=by kernel_rfl
theorem xZ:ug.length=18:=by kernel_rfl
theorem Tryz.infoOne:(Tryz.prog.info? 82).map (fun i=>(i.zero,i.size,i.bytes))=some (some (.agg #[.string ⟨#[]⟩,.string ⟨#[]⟩]),2,32):=by kernel_rfl
theorem M9 (w:World):Calls Tryz.prog 74 #[] w fun e w'=>e=.returned (.slice (some ⟨w.heap.size,0,none⟩) 9 9)∧w'=w.alloc (.cells (j6 xR).toArray 82):=by
 obtain⟨cs,hcs⟩:∃ cs,cs=(j6 xR).toArray:=⟨_,rfl⟩;rw [← hcs];have HC:=Lib.hid hcs;clear hcs;go_enter Tryz.func74,Tryz.ntmps74;go_wp2_with fail;go_ret;refine⟨rfl,?_⟩;rw [HC.out];congr 1
theorem Qn (w:World):Calls Tryz.prog 75 #[] w fun e w'=>e=.returned (.slice (some ⟨w.heap.size,0,none⟩) 9 9)∧w'=w.alloc (.cells (j6 ug).toArray 82):=by
 obtain⟨cs,hcs⟩:∃ cs,cs=(j6 ug).toArray:=⟨_,rfl⟩;rw [← hcs];have HC:=Lib.hid hcs;clear hcs;go_enter Tryz.func75,Tryz.ntmps75;go_wp2_with fail;go_ret;refine⟨rfl,?_⟩;rw [HC.out];congr 1
end Go.Proofs.YtapechjebkjidaaGreatDoor
namespace Go.Proofs.YtapechjebkjidaaGreatDoor
open Go.RowKit
def lG (l:List (List UInt8)):List Value:=l.map fun x=>.string ⟨x.toArray⟩
def Bt (w:World) (base:Nat) (v:Value) (l:List (List UInt8)):Prop:=w.ownsRow base 9 1 v l.length (lG l)
theorem Bt.nil (w:World) (base:Nat):Bt w base (.slice none 0 0) []:=World.ownsRow_nil _ _ _ _
theorem Bt.of {w w':World} {base n:Nat} {v v':Value} {xs:List Value} {l:List (List UInt8)}
    (h:aS base 9 1 v w n xs v' w') (hn:l.length=n) (hx:lG l=xs):Bt w' base v' l:=by
 subst hn hx;exact h.own
theorem yj (a b:List (List UInt8)):lG (a++b)=lG a++lG b:=by simp [lG]
theorem Bt.rd {w:World} {base:Nat} {A:Option Addr} {n c:Nat} {l:List (List UInt8)} (h:Bt w base (.slice A n c) l) (hn:l.length=n):Rd w w.heap.size 1 A n (lG l):=by
 subst hn;exact Rd.cj h
theorem Bt.push {w w2:World} {base:Nat} {v v':Value} {x:List UInt8} {X:ByteArray} (hX:(⟨x.toArray⟩:ByteArray)=X) (l:List (List UInt8)) (h:aS base 9 1 v w (l.length+1) (lG l++[.string X]) v' w2):Bt w2 base v' (l++[x]) :=
  Bt.of h (by simp) (by rw [yj];subst hX;rfl)
end Go.Proofs.YtapechjebkjidaaGreatDoor
namespace Go.Proofs.YtapechjebkjidaaGreatDoor
open Go.RowKit
def Fr (B lo:Nat) (b:Nat):Prop:=b<B∨lo≤b
theorem mD {α:Type} {l:List α} {k:Nat} {p:α} (h:l[k]? = some p):l.take (k+1)=l.take k++[p]:=by
 rw [List.take_add_one,h];rfl
theorem av {wx:World} {g g2 i:Nat} {u:Value} {t:TypeId} {cs:Array Value} (h:ak wx g2 t cs) (hne:g2≠g):ak (wx.setCell ⟨g,i,none⟩ u) g2 t cs:=by
 unfold ak at h ⊢;rw [Below.heap_setCell _ _ _ _ hne];exact h
end Go.Proofs.YtapechjebkjidaaGreatDoor
namespace Go.Proofs.YtapechjebkjidaaGreatDoor
open Go.RowKit
def nF (i:Nat) (c:UInt8):Bool:=decide ((97≤c.toNat∧c.toNat≤122)∨c.toNat=95∨(0<i∧48≤c.toNat∧c.toNat≤57))
def ep (s:ByteArray):Bool:=decide (1≤s.size∧s.size≤20∧∀ i (h:i<s.size),nF i s[i] = true)
theorem N2 {s:ByteArray} {j:Nat} (h:j<s.size) (hc:nF j s[j] = false):ep s=false:=by
 unfold ep;rw [decide_eq_false_iff_not];intro h2;rw [h2.2.2 j h]at hc;cases hc
def Xw (w:World) (s:ByteArray) (i:Value) (wr:World):Prop :=
  ∃ j:Nat,j≤s.size∧i=.int .i64 j∧(∀ k (h:k<s.size),k<j→nF k s[k] = true)∧wr=w
theorem QL {s:ByteArray} {j:Nat} (h:j<s.size) (hc:nF j s[j] = true) (hp:∀ k (h:k<s.size),k<j→nF k s[k] = true):∀ k (h:k<s.size),k<j+1→nF k s[k] = true:=by
 intro k hk hlt;by_cases e:k=j
 ·subst e;exact hc
 exact hp k hk (by omega)
theorem jr (s:ByteArray) (w:World) :
    Calls Tryz.prog 109 #[.string s] w fun e w'=>e=.returned (.bool (ep s))∧w=w':=by
 by_cases hs:1≤s.size∧s.size≤20
 ·obtain⟨hs1,nN⟩:=hs;go_enter Tryz.func109,Tryz.ntmps109;go_wp2_with fail;go_loopw [15] (Xw w s) (fun i _=>s.size - (intOf i).toNat);(case atStart=>exact⟨0,Nat.zero_le _,rfl,by omega,rfl⟩);obtain⟨j,hj,rfl,hall,rfl⟩:=hrel;by_cases hlt:j<s.size
  ·have hx:s[j].toNat<256:=UInt8.toNat_lt s[j];cases hc:nF j s[j]
   ·have HN:=Lib.hid (N2 hlt hc);have hc2:s[j].toNat<48∨(57<s[j].toNat∧s[j].toNat<95)∨(95<s[j].toNat∧s[j].toNat<97)∨122<s[j].toNat∨(j=0∧48≤s[j].toNat∧s[j].toNat≤57):=by
     simp [nF]at hc;omega
    have h95:((s[j].toNat:Int) != 95)=true:=(by simp;omega);clear hc hall;by_cases hj0:j=0
    ·subst hj0;rcases (show s[0].toNat<97∨122<s[0].toNat by omega)with h1 | h1
     all_goals
       go_wp2_with fail
       go_ret
       rw [HN.out]
       exact⟨rfl,rfl⟩
    have Tx:((j:Int) == 0)=false:=(by simp;omega);rcases (show s[j].toNat<48∨(57<s[j].toNat∧s[j].toNat<97)∨122<s[j].toNat by omega)with h1 | ⟨h1,h2⟩ | h1
    all_goals
      go_wp2_with fail
      go_ret
      rw [HN.out]
      exact⟨rfl,rfl⟩
   have HA:=Lib.hid (QL hlt hc hall);have hc2:(97≤s[j].toNat∧s[j].toNat≤122)∨s[j].toNat=95∨(0<j∧48≤s[j].toNat∧s[j].toNat≤57):=by
    simpa [nF] using hc
   clear hc hall;rcases hc2 with ⟨h1,h2⟩ | h1 | ⟨h1,h2,h3⟩
   ·go_wp2_with fail;exact⟨⟨j+1,by omega,by go_num,HA.out,rfl⟩,by simp [intOf];omega⟩
   ·have h95:((s[j].toNat:Int) != 95)=false:=(by simp;omega);go_wp2_with fail;exact⟨⟨j+1,by omega,by go_num,HA.out,rfl⟩,by simp [intOf];omega⟩
   have h95:((s[j].toNat:Int) != 95)=true:=(by simp;omega);have Tx:((j:Int) == 0)=false:=(by simp;omega);go_wp2_with fail;exact⟨⟨j+1,by omega,by go_num,HA.out,rfl⟩,by simp [intOf];omega⟩
  have hP:ep s=true:=by
   unfold ep;rw [decide_eq_true_iff];exact⟨hs1,nN,fun i h=>hall i h (by omega)⟩
  have HP:=Lib.hid hP;clear hall hP;go_wp2_with fail;go_ret;rw [HP.out];exact⟨rfl,rfl⟩
 have HP:=Lib.hid (show ep s=false by
  unfold ep;rw [decide_eq_false_iff_not];exact fun h=>hs ⟨h.1,h.2.1⟩)
 have nN:s.size<1∨(1≤s.size∧20<s.size):=(by omega);clear hs;rcases nN with h1 | ⟨h1,h2⟩
 all_goals
   go_enter Tryz.func109,Tryz.ntmps109
   go_wp2_with fail
   go_ret
   rw [HP.out]
   exact⟨rfl,rfl⟩
end Go.Proofs.YtapechjebkjidaaGreatDoor
namespace Go.Proofs.YtapechjebkjidaaGreatDoor
open Go.RowKit
def aK (r:Int):Bool:=decide ((0≤r∧r<55296)∨(57343<r∧r≤1114111))
theorem jJ {r:Int} (h:aK r=true):0≤r∧r≤1114111:=by
 simp [aK]at h;omega
theorem Ht (r:Int) (w:World) :
    Calls Tryz.prog 71 #[.int .i32 r] w fun e w'=>e=.returned (.bool (aK r))∧w=w':=by
 go_enter Tryz.func71,Tryz.ntmps71;go_wp2;(all_goals go_ret);(all_goals refine⟨bI ?_,rfl⟩);(all_goals (rw [Bool.eq_iff_iff];simp [aK];try omega))
theorem eJ (r:Int) (w:World) :
    Calls Tryz.prog 48 #[.int .i32 r] w fun e w'=>e=.returned (.bool (aK r))∧w=w':=by
 go_enter Tryz.func48,Tryz.ntmps48;go_wp2_with (go_at_call 71;refine(Ht _ _).mono ?_;rintro e w' ⟨rfl,rfl⟩);go_ret;exact⟨rfl,rfl⟩
theorem pg (r:Int) (w:World) :
    Calls Tryz.prog 33 #[.int .i32 r] w fun e w'=>e=.returned (.bool (aK r))∧w=w':=by
 go_enter Tryz.func33,Tryz.ntmps33;go_wp2;(all_goals go_ret);(all_goals refine⟨bI ?_,rfl⟩);(all_goals (rw [Bool.eq_iff_iff];simp [aK];try omega))
end Go.Proofs.YtapechjebkjidaaGreatDoor
namespace Go.Proofs.YtapechjebkjidaaGreatDoor
open Go.RowKit
def fP:ByteArray:=⟨#[108,111,119,101,114]⟩
def kG:ByteArray:=⟨#[110,117,108,108]⟩
def ij:ByteArray:=⟨#[114,101,109,111,118,101]⟩
def fT:ByteArray:=⟨#[117,112,112,101,114]⟩
def uN (s:ByteArray) (l:List ByteArray):Bool:=l.any fun t=>s.toList == t.toList
def jZ (s:ByteArray):Bool:=uN s [fP,kG,ij,fT]
theorem Mn (s t:ByteArray) (l:List ByteArray):uN s (t::l)=((s.toList == t.toList) || uN s l):=rfl
theorem Nt {α:Type} {l:List α} {j:Nat} {x:α} (h:l[j]? = some x):l.drop j=x::l.drop (j+1):=by
 obtain⟨hj,rfl⟩:=List.getElem?_eq_some_iff.1 h;exact List.drop_eq_getElem_cons hj
def UZ (W:World) (s:ByteArray) (l:List ByteArray) (n:Nat) (i:Value) (wr:World):Prop :=
  ∃ k:Nat,k≤n∧i=.int .i64 k∧uN s l=uN s (l.drop k)∧wr=W
theorem K8 (b off n c:Nat) (s:ByteArray) (l:List ByteArray) (hn:l.length=n) (hm:n≤9223372036854775807) (w:World) (hl:∀ k t,l[k]? = some t→w.cell? ⟨b,off+k,none⟩=some (.string t)) :
    Calls Tryz.prog 93 #[.slice (some ⟨b,off,none⟩) n c,.string s] w fun e w'=>(∃ z:Int,e=.returned (.int .i64 z)∧decide (0≤z)=uN s l)∧w=w':=by
 have HL:=Lib.hid hl;have HN:=Lib.hid hn;clear hl hn;go_enter Tryz.func93,Tryz.ntmps93;go_wp2_with fail;go_loopw [8] (UZ w s l n) (fun i _=>n - (intOf i).toNat);(case atStart=>exact⟨0,Nat.zero_le _,rfl,rfl,rfl⟩);obtain⟨k,hk,rfl,bf,rfl⟩:=hrel;by_cases hlt:k<n
 ·obtain⟨t,ht⟩:∃ z,l[k]? = some z:=⟨_,List.getElem?_eq_getElem (by rw [HN.out];exact hlt)⟩;have d0:=HL.out k t ht;rw [Nt ht,Mn]at bf;cases he:s.toList == t.toList
  ·rw [he,Bool.false_or]at bf;have HG:=Lib.hid bf;clear bf;go_wp2_with fail;exact⟨⟨k+1,by omega,by go_num,HG.out,rfl⟩,by simp [intOf];omega⟩
  rw [he,Bool.true_or]at bf;have HG:=Lib.hid bf;clear bf;go_wp2_with fail;go_ret;exact⟨⟨_,rfl,by rw [HG.out];simp⟩,rfl⟩
 obtain rfl:k=n:=(by omega);rw [List.drop_of_length_le (by rw [HN.out];omega)]at bf;have HG:=Lib.hid (bf.trans (show uN s [] = false from rfl));clear bf;go_wp2_with fail;go_ret;exact⟨⟨_,rfl,by rw [HG.out];simp⟩,rfl⟩
theorem Qu (b off n c:Nat) (s:ByteArray) (l:List ByteArray) (hn:l.length=n) (hm:n≤9223372036854775807) (w:World) (hl:∀ k t,l[k]? = some t→w.cell? ⟨b,off+k,none⟩=some (.string t)) :
    Calls Tryz.prog 64 #[.slice (some ⟨b,off,none⟩) n c,.string s] w fun e w'=>e=.returned (.bool (uN s l))∧w=w':=by
 have H:=Lib.hid (K8 b off n c s l hn hm w hl);clear hl hn;go_enter Tryz.func64,Tryz.ntmps64;go_wp2_with fail;refine H.out.mono ?_;rintro e w2 ⟨⟨z,rfl,hz⟩,rfl⟩;have HZ:=Lib.hid hz;clear hz;go_wp2_with fail;go_ret;exact⟨bI HZ.out,rfl⟩
theorem iZ (w:World) :
    Calls Tryz.prog 65 #[] w fun e w'=>e=.returned (.slice (some ⟨w.heap.size,0,none⟩) 4 4)∧w'=w.alloc (.cells #[.string fP,.string kG,.string ij,.string fT] 9):=by
 go_enter Tryz.func65,Tryz.ntmps65;go_wp2_with fail;go_ret;exact⟨rfl,rfl⟩
theorem rQ (b:Nat) (s:ByteArray) (v:Bool) (hv:jZ s=v) (w:World) (h:ak w b 9 #[.string fP,.string kG,.string ij,.string fT]) :
    Calls Tryz.prog 64 #[.slice (some ⟨b,0,none⟩) 4 4,.string s] w fun e w'=>e=.returned (.bool v)∧w=w':=by
 subst hv;refine Qu b 0 4 4 s [fP,kG,ij,fT] rfl (by decide) w fun k t hk=>?_;rw [Nat.zero_add,h.cell];match k,hk with
 | 0,hk=>cases hk;rfl
 | 1,hk=>cases hk;rfl
 | 2,hk=>cases hk;rfl
 | 3,hk=>cases hk;rfl
end Go.Proofs.YtapechjebkjidaaGreatDoor
namespace Go.Proofs.YtapechjebkjidaaGreatDoor
open Go.RowKit
def bytesOf (l:List Int):List UInt8:=l.flatMap Lib.encodeRune
theorem lH (l:List Int):(bytesOf l).length≤4*l.length:=by
 induction l with
 | nil=>simp [bytesOf]
 | cons a l ih=>
  have h1:(Lib.encodeRune a).length≤4:=(by rw [← Lib.runeCells_length];exact(Lib.runeCells_le a).2);simp only [bytesOf,List.flatMap_cons,List.length_append,List.length_cons]at ih ⊢;omega
def oG (l:List Int):ByteArray × Int:=if l.all aK then (⟨(bytesOf l).toArray⟩,0)else (⟨#[]⟩,3)
end Go.Proofs.YtapechjebkjidaaGreatDoor
namespace Go.Proofs.YtapechjebkjidaaGreatDoor
open Go.RowKit
def Ih (w:World) (s:ByteArray) (e:Ending) (w':World):Prop :=
  ∃ v,e=.returned v∧gN w' w.heap.size v (ay s 0)∧Below w.heap.size w w'
def T7 (w:World) (s:ByteArray) (v:Value) (wr:World):Prop :=
  ∃ (p:Nat) (l:List Int),p≤s.size∧wr.heap[w.heap.size]? = some (.stringIter s p)∧gN wr (w.heap.size+1) v l∧l++ay s p=ay s 0∧l.length≤p∧Below w.heap.size w wr
theorem JG {w:World} {base k p:Nat} {e:TypeId} {sz n:Nat} {v v':Value} {w':World} {xs:List Value} {s:ByteArray} (hit:w.heap[k]? = some (.stringIter s p)) (hk:k<base)
    (ho:∃ m ys,w.ownsRow base e sz v m ys) (h:aS base e sz v w n xs v' w'):w'.heap[k]? = some (.stringIter s p):=by
 obtain⟨m,ys,ho⟩:=ho;rw [h.2.1.block k (Array.getElem?_eq_some_iff.1 hit).1 (fun e=>by have:=(World.ownsRow.lt ho k e.symm).1;omega)];exact hit
theorem qu (s:ByteArray) (w:World) (hs:s.size≤1099511627776) :
    Calls Tryz.prog 36 #[.string s] w (Ih w s):=by
 obtain⟨i0,hi,hz0,rj,sY⟩:=info_parts Tryz.info21;go_enter Tryz.func36,Tryz.ntmps36;go_wp2;go_loopw [3] (T7 w s) (fun _ wr=>s.size - wr.iterPos w.heap.size);(case atStart=>exact⟨0,[],Nat.zero_le _,World.iter_heap _ _ _,gN.nil _ _,rfl,Nat.le_refl _,(Below.refl _ _).alloc (Nat.le_refl _) _⟩);obtain⟨p,l,hp,hit,hown,hl,Ya,qX⟩:=hrel;have hz:=qX.size;have qQ:=iterPos_of hit;by_cases hlt:p<s.size
 ·have hnext:=fun ty=>Lib.run_next_any_at (P:=Tryz.prog) wr w.heap.size s p ty hit hlt;have hd:=dM s p hlt;have hstep:=dF s p hlt;have J9:=Lib.iterAt_heap wr w.heap.size s p (p+(Utf8.decode s p).2) hit;have aT:=Lib.below_iterAt qX (Nat.le_refl _) s (p+(Utf8.decode s p).2);have Ng:gN (wr.iterAt w.heap.size s (p+(Utf8.decode s p).2)) (w.heap.size+1) _ l:=ownsRow_iterAt hown (Nat.lt_succ_self _) s _;generalize wr.iterAt w.heap.size s (p+(Utf8.decode s p).2)=W1 at *;generalize hr:((Utf8.decode s p).1:Int)=r at *;generalize (Utf8.decode s p).2=k at *;rw [hstep]at hl;have aeZ:=aT.size;obtain⟨A3,c3,rfl,lD⟩:=aH Ng;have Ry:=Lib.hid J9;have Sh:=Lib.hid qQ;have HL:=Lib.hid hl;have HN:=Lib.hid (Rd.new W1 21 1 1 [.int .i32 r] rfl);have HO:=Lib.hid (World.ownsRow.alloc Ng (.cells #[.int .i32 r] 21));clear hit J9 qQ hl hown Ng hstep hr;go_wp2_with (at_builtin;refine ai _ rfl (.tmp 11) (.tmp 13) 29 rfl (w.heap.size+1) 21 i0 _ 1 4 Tryz.underlying29 hi hz0 rj sY rfl (by decide) _ _ _ rfl HO.out (W1.heap.size+1) (some ⟨W1.heap.size,0,none⟩) 1 1 [.int .i32 r] rfl HN.out ?s1 (by simp only [maxLen];omega) (by omega) (by simp;omega) ?_);(case s1=>intro u hu;simp at hu;rw [hu];rfl);intro v' w2 an;have zq:=JG ((Below.heap_alloc W1 (.cells #[.int .i32 r] 21) w.heap.size (Array.getElem?_eq_some_iff.1 Ry.out).1).trans Ry.out) (Nat.lt_succ_self _) ⟨_,_,HO.out⟩ an;have Vc:gN w2 (w.heap.size+1) v' (l++[r]):=gN.of an (by simp) (by simp [runeCells]);have aL:Below w.heap.size w w2:=(aT.alloc (by omega) _).trans ((an.below (by simp;omega) HO.out).mono (by omega));clear an;have Um:=iterPos_of zq;have UA:=Lib.hid zq;clear zq;have jP:=Lib.hid Um;clear Um;go_wp2
  exact⟨⟨p+k,l++[r],by omega,UA.out,Vc,by rw [List.append_assoc];exact HL.out,by simp;omega,aL⟩,by rw [jP.out,Sh.out];omega⟩
 have hnext:=fun ty=>Lib.run_next_end_at (P:=Tryz.prog) wr w.heap.size s p ty hit hlt;rw [ck s p hlt,List.append_nil]at hl;subst hl;clear hit qQ;go_wp2;go_ret;exact⟨_,rfl,jD hown (by omega),qX⟩
end Go.Proofs.YtapechjebkjidaaGreatDoor
namespace Go.Proofs.YtapechjebkjidaaGreatDoor
theorem sG (s:ByteArray) (p:Nat):aK ((Utf8.decode s p).1:Int)=true:=by
 rw [Lib.decode_at];have key:∀ n b0 b1 b2 b3,aK ((Lib.decodeN n b0 b1 b2 b3).1:Int)=true:=by
  intro n b0 b1 b2 b3;unfold Lib.decodeN;(repeat' split);(all_goals simp [aK]);(all_goals omega)
 exact key _ _ _ _ _
theorem pU (s:ByteArray):∀ (f p:Nat),s.size - p≤f→(ay s p).all aK=true:=by
 intro f;induction f with
 | zero=>intro p h;rw [ck s p (by omega)];rfl
 | succ f ih=>
  intro p h;by_cases hp:p<s.size
  ·have hd:=dM s p hp;rw [dF s p hp,List.all_cons,sG s p,ih _ (by omega)];rfl
  rw [ck s p hp];rfl
theorem zD (s:ByteArray):∀ x∈ay s 0,Utf8.valid x=true:=by
 intro x hx;have:=List.all_eq_true.1 (pU s s.size 0 (by omega)) x hx;rw [validRune_eq];unfold validRune;simpa [aK] using this
end Go.Proofs.YtapechjebkjidaaGreatDoor
namespace Go.Proofs.YtapechjebkjidaaGreatDoor
theorem ie (z:Int) (_h0:0≤z) (h1:z<256):(z.toNat.toUInt8).toNat=z.toNat:=by
 simp [Nat.toUInt8,UInt8.toNat_ofNat'];omega
theorem Gs (r:Int) (h:aK r=true):Utf8.decode ⟨(Lib.encodeRune r).toArray⟩ 0=(r.toNat,(Lib.encodeRune r).length):=by
 have rE:=jJ h;simp [aK]at h;have key:Lib.decodeL (Lib.encodeRune r)=(r.toNat,(Lib.encodeRune r).length):=by
  rw [Lib.decodeL_N];unfold Lib.encodeRune;by_cases h1:r≤127
  ·rw [Lib.encodeRuneZ_one rE.1 h1];simp only [List.map_cons,List.map_nil,List.length_cons,List.length_nil,List.getD_cons_zero];rw [ie r (by omega) (by omega)];unfold Lib.decodeN;rw [if_pos (by omega)]
  by_cases h2:r≤2047
  ·rw [Lib.encodeRuneZ_two (by omega) h2];simp only [List.map_cons,List.map_nil,List.length_cons,List.length_nil,List.getD_cons_zero,List.getD_cons_succ];rw [ie _ (by omega) (by omega),ie (128+r % 64) (by omega) (by omega)];unfold Lib.decodeN;rw [if_neg (by omega),if_pos (by omega),if_pos (by omega)];congr 1;omega
  by_cases h3:r≤65535
  ·rw [Lib.encodeRuneZ_three (by omega)];simp only [List.map_cons,List.map_nil,List.length_cons,List.length_nil,List.getD_cons_zero,List.getD_cons_succ];rw [ie _ (by omega) (by omega),ie (128+r / 64 % 64) (by omega) (by omega),ie (128+r % 64) (by omega) (by omega)];unfold Lib.decodeN;rw [if_neg (by omega),if_neg (by omega),if_pos (by omega),if_pos (by omega)];congr 1;omega
  rw [Lib.encodeRuneZ_four (by omega) (by omega)];simp only [List.map_cons,List.map_nil,List.length_cons,List.length_nil,List.getD_cons_zero,List.getD_cons_succ];rw [ie _ (by omega) (by omega),ie (128+r / 4096 % 64) (by omega) (by omega),ie (128+r / 64 % 64) (by omega) (by omega),ie (128+r % 64) (by omega) (by omega)];unfold Lib.decodeN;rw [if_neg (by omega),if_neg (by omega),if_neg (by omega),if_pos (by omega),if_pos (by omega)];congr 1;omega
 exact key
theorem Pg (r:Int):1≤(Lib.encodeRune r).length:=by
 rw [← Lib.runeCells_length];exact(Lib.runeCells_le r).1
theorem By (l:List UInt8):(⟨l.toArray⟩:ByteArray).size=l.length:=by simp [ByteArray.size]
theorem Nw (r:Int) (h:aK r=true):ay ⟨(Lib.encodeRune r).toArray⟩ 0 = [r]∧spoilt ⟨(Lib.encodeRune r).toArray⟩ 0=0:=by
 have hd:=Gs r h;have hp:=Pg r;have hr:=jJ h;have hsz:=By (Lib.encodeRune r);rw [dF _ _ (by omega),fM _ _ (by omega)];unfold iP;rw [hd];dsimp only;rw [ck _ _ (by omega),fc _ _ (by omega)];refine⟨by rw [Int.toNat_of_nonneg hr.1],?_⟩;have:(r.toNat == 65533 && (Lib.encodeRune r).length == 1)=false:=by
  by_cases hc:r=65533
  ·subst hc;decide +kernel
  have:(r.toNat == 65533)=false:=(by rw [beq_eq_false_iff_ne];omega);rw [this];rfl
 rw [this];rfl
theorem zV (a b:List UInt8):(⟨(a++b).toArray⟩:ByteArray)=⟨a.toArray⟩++⟨b.toArray⟩:=by
 apply ByteArray.ext;simp
theorem wT (l:List Int) (h:l.all aK=true):ay ⟨(bytesOf l).toArray⟩ 0=l∧spoilt ⟨(bytesOf l).toArray⟩ 0=0:=by
 induction l with
 | nil=>rw [ck _ _ (by simp [bytesOf,ByteArray.size]),fc _ _ (by simp [bytesOf,ByteArray.size])];exact⟨rfl,rfl⟩
 | cons r l ih=>
  simp only [List.all_cons,Bool.and_eq_true]at h;obtain⟨h1,h2⟩:=ih h.2;obtain⟨h3,h4⟩:=Nw r h.1;have e:bytesOf (r::l)=Lib.encodeRune r++bytesOf l:=(by simp [bytesOf]);rw [e,zV];obtain⟨j1,j2⟩:=OF ⟨(Lib.encodeRune r).toArray⟩ ⟨(bytesOf l).toArray⟩ _ 0 (Nat.le_refl _) (Nat.zero_le _) h4;rw [j1,j2,h3,h1,h2];exact⟨rfl,rfl⟩
theorem nY (s:ByteArray):∀ (f p:Nat),s.size - p≤f→p≤s.size→spoilt s p=0→bytesOf (ay s p)=s.data.toList.drop p:=by
 have hlen:s.data.toList.length=s.size:=(by rw [Array.length_toList];rfl);intro f;induction f with
 | zero=>
  intro p h hp _;rw [ck s p (by omega),List.drop_of_length_le (by omega)];rfl
 | succ f ih=>
  intro p h hp h0;by_cases hlt:p<s.size
  ·have hd:=dM s p hlt;rw [fM s p hlt]at h0;have hb:iP s p=false:=by
    cases hb:iP s p;rfl;rw [hb]at h0;simp at h0
   have hI:=ih (p+(Utf8.decode s p).2) (by omega) (by omega) (by omega);have Y4:=Lib.decodeL_drop s p;have U9:=Lib.encode_decode (s.data.toList.drop p) (by intro e;have:=congrArg List.length e;simp at this;omega) (by
    rw [Y4];rintro⟨h1,h2⟩;unfold iP at hb;rw [h1,h2]at hb;simp at hb)
   rw [Y4]at U9;rw [dF s p hlt];have e:bytesOf (((Utf8.decode s p).1:Int)::ay s (p+(Utf8.decode s p).2))=Lib.encodeRune ((Utf8.decode s p).1:Int)++bytesOf (ay s (p+(Utf8.decode s p).2)):=(by simp [bytesOf]);rw [e,U9,hI,← List.drop_drop,List.take_append_drop]
  rw [ck s p hlt,List.drop_of_length_le (by omega)];rfl
theorem AQ (s:ByteArray):oG (ay s 0)=(⟨(bytesOf (ay s 0)).toArray⟩,0)∧((⟨(bytesOf (ay s 0)).toArray⟩:ByteArray)=s↔spoilt s 0=0):=by
 have hr:=pU s s.size 0 (by omega);refine⟨by unfold oG;rw [hr];rfl,⟨fun h=>?_,fun h=>?_⟩⟩
 ·have:=(wT _ hr).2;rw [h]at this;exact this
 rw [nY s s.size 0 (by omega) (by omega) h];simp
end Go.Proofs.YtapechjebkjidaaGreatDoor
namespace Go.Proofs.YtapechjebkjidaaGreatDoor
open Go.RowKit
def pz (l:List Int):ByteArray:=⟨(bytesOf l).toArray⟩
theorem AJ (a b:List Int):bytesOf (a++b)=bytesOf a++bytesOf b:=by simp [bytesOf]
theorem ee (l m:List Int):pz l++pz m=pz (l++m):=by
 unfold pz;rw [AJ];apply ByteArray.ext;rw [ByteArray.data_append];simp
theorem bN (l:List Int):(pz l).size≤4*l.length:=by
 have h:=lH l;unfold pz;rwa [By]
theorem Aw {l:List Int} (h:l.all aK=true):ay (pz l) 0=l:=(wT l h).1
theorem QX:(⟨#[]⟩:ByteArray)=pz []:=rfl
theorem IP (r:Int):(⟨(Lib.encodeRune r).toArray⟩:ByteArray)=pz [r]:=by unfold pz bytesOf;simp
theorem IL {l:List Int} (h:l.all aK=true):oG l=(pz l,0):=by unfold oG;rw [if_pos h];rfl
theorem zS {α β:Type} (T:α→List β) (l:List α) (k:Nat) (r:α) (h:l[k]? = some r):(l.take (k+1)).flatMap T=(l.take k).flatMap T++T r:=by
 obtain⟨hk,rfl⟩:=List.getElem?_eq_some_iff.1 h;rw [List.take_succ_eq_append_getElem hk,List.flatMap_append,List.flatMap_cons,List.flatMap_nil,List.append_nil]
theorem DT {α β:Type} (T:α→List β) (m:Nat) (l:List α) (h:∀ r∈l,(T r).length≤m):(l.flatMap T).length≤m*l.length:=by
 induction l with
 | nil=>simp
 | cons a l ih=>
  have h1:=h a (by simp);have h2:=ih (fun r hr=>h r (by simp [hr]));rw [List.flatMap_cons,List.length_append,List.length_cons,Nat.mul_succ];omega
theorem drop_cons {α:Type} {l:List α} {k:Nat} {r:α} (h:l[k]? = some r):l.drop k=r::l.drop (k+1):=by
 obtain⟨hk,rfl⟩:=List.getElem?_eq_some_iff.1 h;exact List.drop_eq_getElem_cons hk
end Go.Proofs.YtapechjebkjidaaGreatDoor
namespace Go.Proofs.YtapechjebkjidaaGreatDoor
open Go.RowKit
def aR (s:ByteArray) (p:Nat):Int:=((s.get! p).toNat:Int)
theorem mT (s:ByteArray) (p:Nat):0≤aR s p∧aR s p<256:=by
 unfold aR;have:=(s.get! p).toNat_lt;omega
theorem kF (s:ByteArray) (p:Nat) (h:p<s.size):((s[p]'h).toNat:Int)=aR s p:=by
 unfold aR;have e:=get_at s p h;rw [Nat.add_zero]at e;rw [e]
def ef (j:Nat):Int:=if j=0 then 192 else if j=1 then 224 else 240
def vS (j:Nat):Int:=if j=0 then 224 else if j=1 then 240 else 248
def lu (j:Nat):Nat:=if j=0 then 2 else if j=1 then 3 else 4
def xu (j:Nat):Int:=if j=0 then 128 else if j=1 then 2048 else 65536
def ju (j:Nat) (c:Int):Bool:=decide (ef j≤c) && decide (c<ef j+(if j=0 then 32 else if j=1 then 16 else 8))
theorem Nz (j:Nat) (hj:j<3) (c:Int) (h0:0≤c) (h1:c<256):(bits BinOp.and IntKind.i64 c (vS j) != ef j) = !ju j c:=by
 have key:∀ (j:Fin 3) (c:Fin 256),(bits BinOp.and IntKind.i64 ((c.val:Nat):Int) (vS j.val) != ef j.val) = !ju j.val ((c.val:Nat):Int):=(by decide +kernel);have:=key ⟨j,hj⟩ ⟨c.toNat,by omega⟩;simpa [Int.toNat_of_nonneg h0] using this
def part (s:ByteArray) (p:Nat) (x0:Int):Nat→Int
  | 0=>x0
  | k+1=>part s p x0 k*64+aR s (p+(k+1)) % 64
theorem Qi (s:ByteArray) (p:Nat) (x0:Int) (h0:0≤x0) (h1:x0<32) (k:Nat) (hk:k≤3):0≤part s p x0 k∧part s p x0 k<8388608:=by
 have b1:=mT s (p+1);have b2:=mT s (p+2);have b3:=mT s (p+3);match k,hk with
 | 0,_=>simp only [part];omega
 | 1,_=>simp only [part];omega
 | 2,_=>simp only [part];omega
 | 3,_=>simp only [part];omega
def zg (s:ByteArray) (p:Nat):Int × Int:=if iP s p then (0,0)else (((Utf8.decode s p).1:Int),((Utf8.decode s p).2:Int))
theorem rY (s:ByteArray) (p:Nat) {r k:Nat} (h:Lib.decodeN (s.size - p) (s.get! p).toNat (s.get! (p+1)).toNat (s.get! (p+2)).toNat (s.get! (p+3)).toNat=(r,k)) :
    zg s p=if r=65533∧k=1 then (0,0)else ((r:Int),(k:Int)):=by
 unfold zg iP;rw [Lib.decode_at,h];simp
theorem Lc (s:ByteArray) (p:Nat) (hc:aR s p<128):zg s p=(aR s p,1):=by
 unfold aR at *;rw [rY s p (r:=(s.get! p).toNat) (k:=1) (by unfold Lib.decodeN;rw [if_pos (by omega)]),if_neg (by omega)];rfl
theorem LS (s:ByteArray) (p:Nat) (hc:128≤aR s p) (h:∀ j,j<3→ju j (aR s p)=true→¬ p+lu j≤s.size):zg s p=(0,0):=by
 have h0:=h 0 (by omega);have h1:=h 1 (by omega);have h2:=h 2 (by omega);simp [ju,ef,lu]at h0 h1 h2;unfold aR at *;rw [rY s p (r:=65533) (k:=1) (by
  unfold Lib.decodeN;rw [if_neg (by omega),if_neg (by omega),if_neg (by omega),if_neg (by omega)]),if_pos (by omega)]
theorem P5 (s:ByteArray) (p j i:Nat) (hj:j<3) (hc:ju j (aR s p)=true) (hi:1≤i) (hin:i<lu j) (hb:aR s (p+i) / 64≠2):zg s p=(0,0):=by
 have key:i=1∨i=2∨i=3:=by
  have:lu j≤4:=by
   unfold lu;split;omega;split <;> omega
  omega
 simp [ju,ef]at hc;unfold aR at *;rw [rY s p (r:=65533) (k:=1) ?_,if_pos (by omega)];unfold Lib.decodeN;match j,hj with
 | 0,_=>
  simp [lu]at hin hc;obtain rfl:i=1:=(by omega);rw [if_neg (by omega),if_neg (by omega),if_neg (by omega),if_neg (by omega)]
 | 1,_=>
  simp [lu]at hin hc;rcases key with rfl | rfl | rfl
  ·rw [if_neg (by omega),if_neg (by omega),if_neg (by omega),if_neg (by omega)]
  ·rw [if_neg (by omega),if_neg (by omega),if_neg (by omega),if_neg (by omega)]
  omega
 | 2,_=>
  simp [lu]at hin hc;rcases key with rfl | rfl | rfl
  ·rw [if_neg (by omega),if_neg (by omega),if_neg (by omega),if_neg (by omega)]
  ·rw [if_neg (by omega),if_neg (by omega),if_neg (by omega),if_neg (by omega)]
  rw [if_neg (by omega),if_neg (by omega),if_neg (by omega),if_neg (by omega)]
theorem CC (s:ByteArray) (p X n:Nat) (least:Int) (P:Int) (hP:P=(X:Int)) (hl:1<n)
    (hd:Lib.decodeN (s.size - p) (s.get! p).toNat (s.get! (p+1)).toNat (s.get! (p+2)).toNat (s.get! (p+3)).toNat=if least≤(X:Int)∧aK (X:Int)=true then (X,n)else (65533,1)) :
    zg s p=if (decide (least≤P) && aK P)=true then (P,(n:Int))else (0,0):=by
 subst hP;by_cases hv:least≤(X:Int)∧aK (X:Int)=true
 ·rw [if_pos hv]at hd;rw [rY s p hd,if_neg (by omega),if_pos (by simp [hv.1,hv.2])]
 rw [if_neg hv]at hd;rw [rY s p hd,if_pos (by omega),if_neg (by simpa using hv)]
theorem I8 (s:ByteArray) (p j:Nat) (hj:j<3) (hc:ju j (aR s p)=true) (hsz:p+lu j≤s.size) (hb:∀ i,1≤i→i<lu j→aR s (p+i) / 64=2) :
    zg s p=if (decide (xu j≤part s p (aR s p - ef j) (lu j - 1)) && aK (part s p (aR s p - ef j) (lu j - 1)))=true then (part s p (aR s p - ef j) (lu j - 1),(lu j:Int))else (0,0):=by
 have g0:=(s.get! p).toNat_lt;have g1:=(s.get! (p+1)).toNat_lt;have g2:=(s.get! (p+2)).toNat_lt;have g3:=(s.get! (p+3)).toNat_lt;match j,hj with
 | 0,_=>
  have h1:aR s (p+1) / 64=2:=hb 1 (by omega) (by decide);have WT:p+2≤s.size:=hsz;have hc2:192≤aR s p∧aR s p<224:=(by simpa [ju,ef] using hc);clear hb hc hsz;refine CC s p ((s.get! p).toNat % 32*64+(s.get! (p+1)).toNat % 64) 2 128 _ ?_ (by omega) ?_
  ·show(aR s p - 192)*64+aR s (p+1) % 64=_;unfold aR at *;omega
  unfold aR at *;unfold Lib.decodeN;rw [if_neg (by omega),if_pos (by omega)];by_cases hv:128≤(s.get! p).toNat % 32*64+(s.get! (p+1)).toNat % 64
  ·rw [if_pos (by omega),if_pos (by simp [aK];omega)]
  rw [if_neg (by omega),if_neg (by simp [aK];omega)]
 | 1,_=>
  have h1:aR s (p+1) / 64=2:=hb 1 (by omega) (by decide);have h2:aR s (p+2) / 64=2:=hb 2 (by omega) (by decide);have WT:p+3≤s.size:=hsz;have hc2:224≤aR s p∧aR s p<240:=(by simpa [ju,ef] using hc);clear hb hc hsz;refine CC s p ((s.get! p).toNat % 16*4096+(s.get! (p+1)).toNat % 64*64+(s.get! (p+2)).toNat % 64) 3 2048 _ ?_ (by omega) ?_
  ·show((aR s p - 224)*64+aR s (p+1) % 64)*64+aR s (p+2) % 64=_;unfold aR at *;omega
  unfold aR at *;unfold Lib.decodeN;rw [if_neg (by omega),if_neg (by omega),if_pos (by omega)];generalize (s.get! p).toNat % 16*4096+(s.get! (p+1)).toNat % 64*64+(s.get! (p+2)).toNat % 64=X;by_cases hv:2048≤X∧(X<55296∨57344≤X∧X≤1114111)
  ·rw [if_pos (by omega),if_pos (by simp [aK];omega)]
  rw [if_neg (by omega),if_neg (by simp [aK];omega)]
 | 2,_=>
  have h1:aR s (p+1) / 64=2:=hb 1 (by omega) (by decide);have h2:aR s (p+2) / 64=2:=hb 2 (by omega) (by decide);have h3:aR s (p+3) / 64=2:=hb 3 (by omega) (by decide);have WT:p+4≤s.size:=hsz;have hc2:240≤aR s p∧aR s p<248:=(by simpa [ju,ef] using hc);clear hb hc hsz;refine CC s p ((s.get! p).toNat % 8*262144+(s.get! (p+1)).toNat % 64*4096+(s.get! (p+2)).toNat % 64*64+(s.get! (p+3)).toNat % 64) 4 65536 _ ?_ (by omega) ?_
  ·show(((aR s p - 240)*64+aR s (p+1) % 64)*64+aR s (p+2) % 64)*64+aR s (p+3) % 64=_;unfold aR at *;omega
  unfold aR at *;unfold Lib.decodeN;rw [if_neg (by omega),if_neg (by omega),if_neg (by omega),if_pos (by omega)];generalize (s.get! p).toNat % 8*262144+(s.get! (p+1)).toNat % 64*4096+(s.get! (p+2)).toNat % 64*64+(s.get! (p+3)).toNat % 64=X;by_cases hv:65536≤X∧(X<55296∨57344≤X∧X≤1114111)
  ·rw [if_pos (by omega),if_pos (by simp [aK];omega)]
  rw [if_neg (by omega),if_neg (by simp [aK];omega)]
end Go.Proofs.YtapechjebkjidaaGreatDoor
namespace Go.Proofs.YtapechjebkjidaaGreatDoor
open Go.RowKit
theorem Tryz.info5:(Tryz.prog.info? 5).map (fun i=>(i.zero,i.size,i.bytes))=some (some (.int .u8 0),1,1):=by kernel_rfl
def tD (w:World) (base:Nat) (v:Value) (l:List UInt8):Prop:=w.ownsRow base 5 1 v l.length (Lib.byteCells l)
theorem tD.nil (w:World) (base:Nat):tD w base (.slice none 0 0) []:=World.ownsRow_nil _ _ _ _
theorem tD.of {w w':World} {base n:Nat} {v v':Value} {xs:List Value} {l:List UInt8}
    (h:aS base 5 1 v w n xs v' w') (hn:l.length=n) (hx:Lib.byteCells l=xs):tD w' base v' l:=by
 subst hn hx;exact h.own
def Kf (w:World) (r:Int) (e:Ending) (w':World):Prop :=
  ∃ v,e=.returned v∧tD w' w.heap.size v (Lib.encodeRune r)∧Below w.heap.size w w'
theorem pH (w:World) (l:List UInt8) (cs:Array Value) (n:Nat) (hn:l.length=n) (hm:n≤maxLen) (hc:cs.toList=Lib.byteCells l):tD (w.alloc (.cells cs 5)) w.heap.size (.slice (some ⟨w.heap.size,0,none⟩) n n) l:=by
 subst hn;have hl:cs.toList.length=l.length:=(by rw [hc];simp [Lib.byteCells]);refine⟨by simp [Lib.byteCells],.inr ⟨w.heap.size,l.length,cs,rfl,Nat.le_refl _,heap_alloc_new _ _,Nat.le_refl _,hm,by rw [Nat.mul_one,← hl,Array.length_toList],?_⟩⟩;rw [List.take_of_length_le (by omega),hc]
theorem sP (r:Int):Lib.byteCells (Lib.encodeRune r)=(Lib.encodeRuneZ r).map (Value.int .u8):=Lib.byteCells_encodeRune r
theorem Ak (r:Int) (hr:aK r=true) (w:World) :
    Calls Tryz.prog 31 #[.int .i32 r] w (Kf w r):=by
 have rE:=jJ hr;simp [aK]at hr;by_cases h1:r<128
 ·have hz:=Lib.encodeRuneZ_one (r:=r) (by omega) (by omega);have hm:=pH w (Lib.encodeRune r) #[.int .u8 r] 1 (by rw [← Lib.runeCells_length,Lib.runeCells,hz];rfl) (by simp [maxLen]) (by rw [sP,hz];rfl);have HM:=Lib.hid hm;clear hm hz;go_enter Tryz.func31,Tryz.ntmps31;go_wp2;go_ret;exact⟨_,rfl,HM.out,(Below.refl _ _).alloc (Nat.le_refl _) _⟩
 by_cases h2:r<2048
 ·have hz:=Lib.encodeRuneZ_two (r:=r) (by omega) (by omega);have hm:=pH w (Lib.encodeRune r) #[.int .u8 (192+r / 64),.int .u8 (128+r % 64)] 2 (by rw [← Lib.runeCells_length,Lib.runeCells,hz];rfl) (by simp [maxLen]) (by rw [sP,hz];rfl);have HM:=Lib.hid hm;clear hm hz;go_enter Tryz.func31,Tryz.ntmps31;go_wp2;go_ret;exact⟨_,rfl,HM.out,(Below.refl _ _).alloc (Nat.le_refl _) _⟩
 by_cases h3:r<65536
 ·have hz:=Lib.encodeRuneZ_three (r:=r) (by omega);have hm:=pH w (Lib.encodeRune r) #[.int .u8 (224+r / 4096),.int .u8 (128+r / 64 % 64),.int .u8 (128+r % 64)] 3 (by rw [← Lib.runeCells_length,Lib.runeCells,hz];rfl) (by simp [maxLen]) (by rw [sP,hz];rfl);have HM:=Lib.hid hm;clear hm hz;go_enter Tryz.func31,Tryz.ntmps31;go_wp2;go_ret;exact⟨_,rfl,HM.out,(Below.refl _ _).alloc (Nat.le_refl _) _⟩
 have hz:=Lib.encodeRuneZ_four (r:=r) (by omega) (by omega);have hm:=pH w (Lib.encodeRune r) #[.int .u8 (240+r / 262144),.int .u8 (128+r / 4096 % 64),.int .u8 (128+r / 64 % 64),.int .u8 (128+r % 64)] 4 (by rw [← Lib.runeCells_length,Lib.runeCells,hz];rfl) (by simp [maxLen]) (by rw [sP,hz];rfl);have HM:=Lib.hid hm;clear hm hz;go_enter Tryz.func31,Tryz.ntmps31;go_wp2;go_ret;exact⟨_,rfl,HM.out,(Below.refl _ _).alloc (Nat.le_refl _) _⟩
theorem jh {w:World} {base n c:Nat} {A:Option Addr} {l:List UInt8} (h:tD w base (.slice A n c) l) (hn:l.length=n) :
    (convert 39 9 (.slice A n c)).run Tryz.prog w=.ok (.string ⟨l.toArray⟩) w:=by
 subst hn;rcases h.2 with ⟨hv,h0⟩ | ⟨g,cap,cur,hv,_,hg,_⟩
 ·have:=List.eq_nil_of_length_eq_zero h0;subst this;rw [hv];exact run_convert_bytes_nil (P:=Tryz.prog) (w:=w) 39 5 Tryz.underlying39 Tryz.underlying5 0 0 _ Tryz.underlying9
 injection hv with hA _ hc;subst hA hc;exact run_convert_bytes_back w 39 9 5 ⟨g,0,none⟩ c l Tryz.underlying39 Tryz.underlying5 Tryz.underlying9 (fun j hj=>World.ownsRow.cells h (g:=g) rfl j _ (by simp [Lib.byteCells,List.getElem?_eq_getElem hj]))
end Go.Proofs.YtapechjebkjidaaGreatDoor
namespace Go.Proofs.YtapechjebkjidaaGreatDoor
open Go.RowKit Go.Maps
def qY (r:Int):Lit:=.int .i32 r
theorem II (r:Int):WideAt.IsKeyLit (qY r):=by simp [qY,WideAt.IsKeyLit]
theorem NC {r s:Int} (h:qY r=qY s):r=s:=by injection h
theorem Ch {r:Int} (h0 : -2147483648≤r) (h1:r≤2147483647):keyOf Tryz.prog 21 (.int .i32 r)=some (qY r):=keyOf_int_mk Tryz.underlying21 (WalkArith.wf_i32 ⟨h0,h1⟩)
theorem yD:Keyed Tryz.prog 21:=int_keyed Tryz.underlying21
def tV:DataW Value:=.held (.string ⟨#[]⟩)
def Eg:List (Int × ByteArray)→Int→Option ByteArray
  | [],_=>none
  | (a,s)::l,r=>if a=r then some s else Eg l r
def EI (w:World) (mb n:Nat) (l:List (Int × ByteArray)):Prop:=∃ D:DataW Value,w.ownsMap Tryz.prog 21 Raw mb n D∧IsMap D∧∀ r:Int,match Eg l r with
  | some s=>D.atKey (qY r) tV=.held (.string s)∧has D (qY r)=true
  | none=>D.atKey (qY r) tV=tV∧has D (qY r)=false
theorem EI.made (w:World):EI (w.alloc (.map #[] 0)) w.heap.size 0 []:=⟨.map [],World.ownsMap_made _ _ _ _,isMap_empty,fun r=>⟨by simp [DataW.atKey],by simp [has]⟩⟩
theorem dX {w:World} {ops:Array Oper} {rest:List Oper} {o:Oper} {a:Act} {Q:Exit→Act→World→Prop} (hg:o.guard=none) (m x v:Operand) (hop:o.op=Op.insert 25 m x v)
    (mb n:Nat) (l:List (Int × ByteArray)) (hm:a.eval m=.map (some mb)) (hM:EI w mb n l) (hn:n<maxLen) (r:Int) (s:ByteArray) (hx:a.eval x=.int .i32 r) (hv:a.eval v=.string s) (h0 : -2147483648≤r) (h1:r≤2147483647)
    (hK:∀ w',EI w' mb (n+1) ((r,s)::l)→w.grownBy w' (some mb)→wpList Tryz.prog ops Q rest (a.put o.dst undef) w'):wpList Tryz.prog ops Q (o::rest) a w:=by
 obtain⟨D,hown,hD,hl⟩:=hM;refine bL w hg m x v _ hop 21 9 yD Tryz.underlying25 Raw mb n D hm hown hn _ _ (qY r) hx hv (Ch h0 h1) (.held (.string s)) [] rfl fun w' h2 h3=>hK w' ⟨_,h2,hD.put _ _,fun q=>?_⟩ h3;unfold Eg;by_cases hq:r=q
 ·subst hq;rw [if_pos rfl];exact⟨atKey_put_same hD (II _) _ _,has_put_same hD (II _) _⟩
 rw [if_neg hq];have hne:qY q≠qY r:=fun e=>hq (NC e).symm;rw [atKey_put_other hne,has_put_other hne];exact hl q
theorem Ro (w:World):(zeroValue 9).run Tryz.prog w=.ok (.string ⟨#[]⟩) w:=by kernel_rfl
theorem jm {w:World} {ops:Array Oper} {rest:List Oper} {o:Oper} {a:Act} {Q:Exit→Act→World→Prop} (hg:o.guard=none) (m x:Operand) (hop:o.op=Op.lookup 25 m x false)
    (mb n:Nat) (l:List (Int × ByteArray)) (hm:a.eval m=.map (some mb)) (hM:EI w mb n l) (r:Int) (s:ByteArray) (hx:a.eval x=.int .i32 r) (h0 : -2147483648≤r) (h1:r≤2147483647) (hs:Eg l r=some s)
    (hK:wpList Tryz.prog ops Q rest (a.put o.dst (.string s)) w):wpList Tryz.prog ops Q (o::rest) a w:=by
 refine wpList_plain hg fun K' ZW=>?_;obtain⟨D,hown,hD,hl⟩:=hM;have h2:=hl r;rw [hs]at h2;obtain⟨v,ps,hrun,hv⟩:=hown.lookup yD Tryz.underlying25 (Ro w) (zd:=tV) (zp:=[]) rfl (Ch h0 h1);rw [h2.1]at hv;unfold Raw at hv;injection hv with hv;injection hv with hv;injection hv with hv;subst hv;unfold Oper.wp;simp [execOp,hop,hm,hx,hrun,Result.andThen];exact ZW _ _ hK
theorem sW {w:World} {ops:Array Oper} {rest:List Oper} {o:Oper} {a:Act} {Q:Exit→Act→World→Prop} (hg:o.guard=none) (m x:Operand) (hop:o.op=Op.lookup 25 m x true)
    (mb n:Nat) (l:List (Int × ByteArray)) (hm:a.eval m=.map (some mb)) (hM:EI w mb n l) (r:Int) (hx:a.eval x=.int .i32 r) (h0 : -2147483648≤r) (h1:r≤2147483647) (s:ByteArray) (q:Bool) (hs:Eg l r=if q then some s else none) (hq:q=false→s=⟨#[]⟩)
    (hK:wpList Tryz.prog ops Q rest (a.put o.dst (.tuple #[.string s,.bool q])) w):wpList Tryz.prog ops Q (o::rest) a w:=by
 obtain⟨D,hown,hD,hl⟩:=hM;have h2:=hl r;rw [hs]at h2;have h3:D.atKey (qY r) tV=.held (.string s)∧has D (qY r)=q:=by
  cases q with
  | true=>exact h2
  | false=>rw [hq rfl];exact h2
 exact wpList_lookup_own_ok w hg m x _ hop 21 9 yD Tryz.underlying25 Raw (Ro w) tV [] rfl mb n D hm hown (.int .i32 r) (qY r) hx (Ch h0 h1) (fun v ps hv=>by
  rw [h3.1]at hv;unfold Raw at hv;injection hv with hv;injection hv with hv;injection hv with hv;subst hv;rw [h3.2];exact hK)
end Go.Proofs.YtapechjebkjidaaGreatDoor
