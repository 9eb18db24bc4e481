/- ParseHex + SetWork + Walk + ShSmall -/
import Derived.Test.YtapechjebkjidaaGreatDoorZs8
import Derived.Test.YtapechjebkjidaaGreatDoorZs2
import Derived.Lib.ConvBytes
import Derived.Lib.Strings
import Derived.Test.YtapechjebkjidaaGreatDoorZs5
import Derived.BigQuiet
set_option maxHeartbeats 3200000
set_option maxRecDepth 100000
namespace Go.Proofs.YtapechjebkjidaaGreatDoor
open Go.RowKit
theorem KR (c:Int) (w:World) (h:(65≤c∧c≤70)∨(97≤c∧c≤102)) :
    Calls Tryz.prog 207 #[.int .u8 c] w fun e w'=>e=.returned (.int .u8 (ri c+87))∧w'=w:=by
 have hc:c=65∨c=66∨c=67∨c=68∨c=69∨c=70∨c=97∨c=98∨c=99∨c=100∨c=101∨c=102:=(by omega);clear h;rcases hc with rfl | rfl | rfl | rfl | rfl | rfl | rfl | rfl | rfl | rfl | rfl | rfl
 all_goals
   go_enter Tryz.func207,Tryz.ntmps207
   go_wp2_with fail
   go_ret
   exact⟨rfl,rfl⟩
def Wl (W:World) (ds:List Int) (u n i:Value) (wr:World):Prop:=u=.bool false∧∃ j:Nat,j≤ds.length∧i=.int .i64 j∧n=.int .u64 (ew (ds.take j))∧wr=W
theorem Hu (s:ByteArray) (ds:List Int) (w:World) (hs:s.data.toList=oE ds) (hd:∀ d∈ds,eV d=true) (h1:1≤ds.length) (h6:ds.length≤6) :
    Calls Tryz.prog 197 #[.string s,.int .i64 16,.int .i64 64] w fun e w'=>e=.returned (.tuple #[.int .u64 (ew ds),.nilIface])∧Below w.heap.size w w':=by
 have hsz:s.size=ds.length:=(by have h2:=congrArg List.length hs;rw [oE,List.length_map,Array.length_toList]at h2;exact h2);have sZ:=Lib.run_convert_string_bytes (P:=Tryz.prog) w 9 39 5 s Tryz.underlying9 Tryz.underlying39 Tryz.underlying5;have hcell:∀ j d,ds[j]? = some d→(Lib.bytesWorld w 5 s).cell? ⟨w.heap.size,j,none⟩=some (.int .u8 d):=fun j d h=>by
  have hj:j<s.size:=(by rw [hsz];exact(List.getElem?_eq_some_iff.1 h).1);have:=Lib.bytesWorld_cell w 5 s j hj;rw [this,hs];have hb:=pK hd d (List.mem_of_getElem? h);have:(oE ds).getD j 0=UInt8.ofNat d.toNat:=(by simp [oE,List.getD_eq_getElem?_getD,h]);rw [this];congr 2;simp;omega
 have hB:Below w.heap.size w (Lib.bytesWorld w 5 s):=Lib.below_freeze (((Below.refl _ _).drew).alloc (Nat.le_refl _) _) (p:=⟨w.heap.size,_,none⟩) (Nat.le_refl _) _;have hne:(s.toList == [])=false:=by
  rw [beq_eq_false_iff_ne,Lib.toList_data];intro e;have:=congrArg List.length e;rw [Array.length_toList]at this;have h2:s.size=0:=this;omega
 rw [hsz]at sZ;generalize Lib.bytesWorld w 5 s=W at *;generalize hk:ds.length=k at *;generalize Go.grownCap w k 0 5 = C at *;have HC:=Lib.hid hcell;have HD:=Lib.hid hd;clear hcell hd hs;go_enter Tryz.func197,Tryz.ntmps197;have hmx:IntKind.u64.wrap (IntKind.u64.wrap 18446744073709551616 - 1)=18446744073709551615:=(by decide);go_wp2_with fail;go_loopw [12,13,101] (Wl W ds) (fun _ _ i _=>k - (intOf i).toNat);(case atStart=>exact⟨rfl,0,Nat.zero_le _,rfl,rfl,rfl⟩);obtain⟨rfl,j,hj,rfl,rfl,rfl⟩:=hrel;rw [hk]at hj;by_cases hlt:j<k
 ·obtain⟨d,Yw⟩:∃ z,ds[j]? = some z:=⟨_,List.getElem?_eq_getElem (by omega)⟩;have hh:=HD.out d (List.mem_of_getElem? Yw);have d0:=HC.out j d Yw;obtain⟨x0,x1⟩:=nA (l:=ds.take j) (fun y hy=>HD.out y (List.mem_of_mem_take hy)) (by rw [List.length_take];omega);have HS:=Lib.hid (show ew (ds.take (j+1))=16*ew (ds.take j)+ri d by rw [List.take_add_one,Yw];exact Eo _ _);have hv:=xN hh;have hr:(48≤d∧d≤57)∨(97≤d∧d≤102)∨(65≤d∧d≤70):=by
   unfold eV at hh;simpa only [Bool.or_eq_true,Bool.and_eq_true,decide_eq_true_eq] using hh
  generalize ew (ds.take j)=X at *;clear Yw hh;have ZP:(48≤d∧d≤57∧ri d=d - 48)∨(¬ d≤57∧65≤d∧d≤102∧((65≤d∧d≤70)∨(97≤d∧d≤102))):=by
   unfold ri;rcases hr with h | h | h
   ·left;rw [if_pos h.2];omega
   ·right;omega
   right;omega
  rcases ZP with ⟨q1,q2,q3⟩ | ⟨q1,q2,q3,q4⟩
  ·have HV:=Lib.hid q3;clear hr q3;have vX:decide (48≤d)=true:=decide_eq_true q1;have mY:decide (d≤57)=true:=decide_eq_true q2;go_wp2_with fail;exact⟨⟨rfl,j+1,by omega,by go_num,by rw [HS.out,HV.out];congr 1;omega,rfl⟩,by simp [intOf];omega⟩
  have HL:=Lib.hid (fun(W:World)=>KR d W (by omega));have mY:decide (d≤57)=false:=decide_eq_false q1;have vX:decide (48≤d)=true:=decide_eq_true (by omega);have afp:10≤ri d:=(by unfold ri;rw [if_neg q1];split <;> omega);have h95:(d == 95)=false:=(by simp;omega);generalize ri d=v at *;clear hr q4;go_wp2_with (go_at_call 207;refine(HL.out _).mono ?_;rintro e w1 ⟨rfl,rfl⟩);exact⟨⟨rfl,j+1,by omega,by go_num,by rw [HS.out];congr 1;omega,rfl⟩,by simp [intOf];omega⟩
 obtain rfl:j=k:=(by omega);rw [List.take_of_length_le (by omega)];go_wp2_with fail;go_ret2;exact⟨rfl,hB⟩
theorem CN (s:ByteArray) (ds:List Int) (w:World) (hs:s.data.toList=oE ds) (hd:∀ d∈ds,eV d=true) (h1:1≤ds.length) (h6:ds.length≤6) :
    Calls Tryz.prog 179 #[.string s,.int .i64 16,.int .i64 64] w fun e w'=>e=.returned (.tuple #[.int .i64 (ew ds),.nilIface])∧Below w.heap.size w w':=by
 have HU:=Lib.hid (Hu s ds w hs hd h1 h6);have hsz:s.size=ds.length:=(by have h2:=congrArg List.length hs;rw [oE,List.length_map,Array.length_toList]at h2;exact h2);have hne:(s.toList == [])=false:=by
  rw [beq_eq_false_iff_ne,Lib.toList_data];intro e;have:=congrArg List.length e;rw [Array.length_toList]at this;have h2:s.size=0:=this;omega
 obtain⟨d,YD⟩:∃ z,ds[0]? = some z:=⟨_,List.getElem?_eq_getElem (by omega)⟩;have hh:=hd d (List.mem_of_getElem? YD);have hr:(48≤d∧d≤57)∨(97≤d∧d≤102)∨(65≤d∧d≤70):=by
  unfold eV at hh;simpa only [Bool.or_eq_true,Bool.and_eq_true,decide_eq_true_eq] using hh
 have Yy:∀ W:World,(Instr.index 9 (.string s) (.int .i64 0)).run Tryz.prog W=.ok (.int .u8 d) W:=fun W=>by
  rw [run_index_string W _ s _ _ Tryz.underlying9,dif_pos ⟨by omega,by omega⟩];have e:s.data.toList[0]? = some (UInt8.ofNat d.toNat):=(by rw [hs];simp [oE,YD]);have h3:s.data.toList[0]? = some (s[(0:Nat)]'(by omega)):=by
   rw [List.getElem?_eq_getElem (by rw [Array.length_toList];show 0<s.size;omega)];rfl
  rw [h3]at e;injection e with e;simp only [Int.toNat_zero];rw [e];congr 2;simp;omega
 have h43:(d == 43)=false:=(by simp;omega);have S8:(d == 45)=false:=(by simp;omega);obtain⟨x0,x1⟩:=nA hd h6;have hmx:IntKind.u64.wrap 9223372036854775808=9223372036854775808:=(by decide);generalize ew ds=X at *;clear hs hd YD hh hr;go_enter Tryz.func179,Tryz.ntmps179;go_wp2_with fail;refine HU.out.mono ?_;rintro e w1 ⟨rfl,hb⟩;have HB:=Lib.hid hb;clear hb;go_wp2_with fail;go_ret2;exact⟨rfl,HB.out⟩
theorem KH (s:ByteArray) (ds:List Int) (w:World) (hs:s.data.toList=oE ds) (hd:∀ d∈ds,eV d=true) (h1:1≤ds.length) (h6:ds.length≤6) :
    Calls Tryz.prog 160 #[.string s,.int .i64 16,.int .i64 64] w fun e w'=>e=.returned (.tuple #[.int .i64 (ew ds),.nilIface])∧Below w.heap.size w w':=by
 have HI:=Lib.hid (CN s ds w hs hd h1 h6);generalize ew ds=X at *;clear hs hd;go_enter Tryz.func160,Tryz.ntmps160;go_wp2_with fail;refine HI.out.mono ?_;rintro e w1 ⟨rfl,hb⟩;have HB:=Lib.hid hb;clear hb;go_wp2_with fail;go_ret2;exact⟨rfl,HB.out⟩
def mS (a:Int):af→af
  | []=>if a≤1114111 then [(a,1114111)]else []
  | x::s=>(if a<x.1 then [(a,x.1 - 1)]else [])++mS (x.2+1) s
theorem N1 (s:af):∀ a,0≤a→Canon s→(∀ x∈s,a≤x.1)→Canon (mS a s)∧(∀ y∈mS a s,a≤y.1)∧∀ r,a≤r→r≤1114111→bk (mS a s) r = !bk s r:=by
 induction s with
 | nil=>
  intro a h0 _ _;unfold mS;split
  ·rename_i h;refine⟨⟨by simp;omega,List.pairwise_singleton _ _⟩,by simp,fun r h1 h2=>?_⟩;simp [bk];omega
  exact⟨Canon.nil,by simp,fun r h1 h2=>by omega⟩
 | cons x s ih=>
  intro a h0 hc hl;have hx:=hc.each x List.mem_cons_self;have hax:=hl x List.mem_cons_self;have rT:=hc.low;obtain⟨i1,i2,i3⟩:=ih (x.2+1) (by omega) hc.tail (fun y hy=>by have:=rT y hy;omega);have key:∀ r,x.1≤r→r≤1114111→bk (mS (x.2+1) s) r = !bk (x::s) r:=by
   intro r h1 h2;rw [cz];by_cases hr:r≤x.2
   ·rw [eo (s:=mS (x.2+1) s) (m:=x.2) (fun y hy=>by have:=i2 y hy;omega) hr];simp [h1,hr]
   rw [i3 r (by omega) h2];simp [hr]
  unfold mS;split
  ·rename_i h;refine⟨⟨fun y hy=>?_,?_⟩,fun y hy=>?_,fun r h1 h2=>?_⟩
   ·rcases List.mem_append.1 hy with hy | hy
    ·rw [List.mem_singleton.1 hy];simp only;omega
    exact i1.each y hy
   ·rw [List.pairwise_append];refine⟨List.pairwise_singleton _ _,i1.nK,fun p hp q hq=>?_⟩;rw [List.mem_singleton.1 hp];have:=i2 q hq;simp only;omega
   ·rcases List.mem_append.1 hy with hy | hy
    ·rw [List.mem_singleton.1 hy];exact Int.le_refl _
    have:=i2 y hy;omega
   rw [ei];by_cases hr:x.1≤r
   ·rw [key r hr h2];simp [bk];omega
   rw [eo (s:=mS (x.2+1) s) (m:=x.2) (fun y hy=>by have:=i2 y hy;omega) (by omega),cz x s,eo (s:=s) (m:=x.2+1) rT (by omega)];rw [decide_eq_false hr];simp [bk];omega
  refine⟨i1,fun y hy=>by have:=i2 y hy;omega,fun r h1 h2=>?_⟩;rw [List.nil_append];exact key r (by omega) h2
def wO (s:af):af:=mS 0 s
theorem CK {s:af} (h:Canon s):Canon (wO s)∧∀ r,0≤r→r≤1114111→bk (wO s) r = !bk s r :=
  let ⟨h1,_,h3⟩:=N1 s 0 (Int.le_refl _) h (fun x hx=>(h.each x hx).1)
  ⟨h1,h3⟩
def dB:af→af→af
  | [],_=>[]
  | _::_,[]=>[]
  | x::a,y::b=>(if max x.1 y.1≤min x.2 y.2 then [(max x.1 y.1,min x.2 y.2)]else [])++(if x.2<y.2 then dB a (y::b)else dB (x::a) b)
termination_by a b=>a.length+b.length
theorem tX (b:af):dB [] b = []:=by unfold dB;rfl
theorem xG (a:af):dB a [] = []:=by cases a <;> unfold dB <;> rfl
theorem xJ (x y:Int × Int) (a b:af):dB (x::a) (y::b)=(if max x.1 y.1≤min x.2 y.2 then [(max x.1 y.1,min x.2 y.2)]else [])++(if x.2<y.2 then dB a (y::b)else dB (x::a) b):=by
 rw [dB]
theorem LI (n:Nat):∀ a b:af,a.length+b.length≤n→Canon a→Canon b →
    (dB a b).length≤a.length+b.length∧Canon (dB a b)∧(∀ z∈dB a b,(∃ x∈a,x.1≤z.1)∧∃ y∈b,y.1≤z.1)∧∀ r,bk (dB a b) r=(bk a r && bk b r):=by
 induction n with
 | zero=>
  intro a b hn _ _;obtain rfl:a = []:=List.eq_nil_of_length_eq_zero (by omega);rw [tX];exact⟨Nat.zero_le _,Canon.nil,by simp,fun r=>by simp [bk]⟩
 | succ n ih=>
  intro a b hn ha hb;cases a with
  | nil=>rw [tX];exact⟨Nat.zero_le _,Canon.nil,by simp,fun r=>by simp [bk]⟩
  | cons x a=>
   cases b with
   | nil=>rw [xG];exact⟨Nat.zero_le _,Canon.nil,by simp,fun r=>by simp [bk]⟩
   | cons y b=>
    have hx:=ha.each x List.mem_cons_self;have hy:=hb.each y List.mem_cons_self;have la:=ha.low;have lb:=hb.low;rw [List.length_cons,List.length_cons]at hn;rw [xJ];by_cases h:x.2<y.2
    ·rw [if_pos h];obtain⟨i0,i1,i2,i3⟩:=ih a (y::b) (by rw [List.length_cons];omega) ha.tail hb;rw [List.length_cons]at i0;have rT:∀ z∈dB a (y::b),x.2+1<z.1:=fun z hz=>by
      obtain⟨⟨p,hp,h1⟩,_⟩:=i2 z hz;have:=la p hp;omega
     have hmin:min x.2 y.2=x.2:=(by omega);rw [hmin];refine⟨?_,?_,fun z hz=>?_,fun r=>?_⟩
     ·rw [List.length_append,List.length_cons,List.length_cons];split <;> simp <;> omega
     ·split
      ·rename_i hm;refine⟨fun z hz=>?_,?_⟩
       ·rcases List.mem_append.1 hz with hz | hz
        ·rw [List.mem_singleton.1 hz];simp only;omega
        exact i1.each z hz
       rw [List.pairwise_append];refine⟨List.pairwise_singleton _ _,i1.nK,fun p hp q hq=>?_⟩;rw [List.mem_singleton.1 hp];exact rT q hq
      exact i1
     ·rcases List.mem_append.1 hz with hz | hz
      ·split at hz
       ·rw [List.mem_singleton.1 hz];exact⟨⟨x,List.mem_cons_self,by simp only;omega⟩,y,List.mem_cons_self,by simp only;omega⟩
       simp at hz
      obtain⟨⟨p,hp,h1⟩,h2⟩:=i2 z hz;exact⟨⟨p,List.mem_cons_of_mem _ hp,h1⟩,h2⟩
     rw [ei,i3,cz x a];have e1:bk (if max x.1 y.1≤x.2 then [(max x.1 y.1,x.2)]else []) r=((decide (x.1≤r) && decide (r≤x.2)) && decide (y.1≤r)):=by
      split
      ·rw [Bool.eq_iff_iff];simp [bk];omega
      rw [Bool.eq_iff_iff];simp [bk];omega
     rw [e1];by_cases hr:r≤x.2
     ·rw [eo (s:=a) (m:=x.2+1) la (by omega),cz y b,eo (s:=b) (m:=y.2+1) lb (by omega)];rw [Bool.eq_iff_iff];simp;omega
     simp [hr]
    rw [if_neg h];obtain⟨i0,i1,i2,i3⟩:=ih (x::a) b (by rw [List.length_cons];omega) ha hb.tail;rw [List.length_cons]at i0;have rT:∀ z∈dB (x::a) b,y.2+1<z.1:=fun z hz=>by
     obtain⟨_,⟨p,hp,h1⟩⟩:=i2 z hz;have:=lb p hp;omega
    have hmin:min x.2 y.2=y.2:=(by omega);rw [hmin];refine⟨?_,?_,fun z hz=>?_,fun r=>?_⟩
    ·rw [List.length_append,List.length_cons,List.length_cons];split <;> simp <;> omega
    ·split
     ·rename_i hm;refine⟨fun z hz=>?_,?_⟩
      ·rcases List.mem_append.1 hz with hz | hz
       ·rw [List.mem_singleton.1 hz];simp only;omega
       exact i1.each z hz
      rw [List.pairwise_append];refine⟨List.pairwise_singleton _ _,i1.nK,fun p hp q hq=>?_⟩;rw [List.mem_singleton.1 hp];exact rT q hq
     exact i1
    ·rcases List.mem_append.1 hz with hz | hz
     ·split at hz
      ·rw [List.mem_singleton.1 hz];exact⟨⟨x,List.mem_cons_self,by simp only;omega⟩,y,List.mem_cons_self,by simp only;omega⟩
      simp at hz
     obtain⟨h1,⟨p,hp,h2⟩⟩:=i2 z hz;exact⟨h1,p,List.mem_cons_of_mem _ hp,h2⟩
    rw [ei,i3,cz y b];have e1:bk (if max x.1 y.1≤y.2 then [(max x.1 y.1,y.2)]else []) r=((decide (y.1≤r) && decide (r≤y.2)) && decide (x.1≤r)):=by
     split
     ·rw [Bool.eq_iff_iff];simp [bk];omega
     rw [Bool.eq_iff_iff];simp [bk];omega
    rw [e1];by_cases hr:r≤y.2
    ·rw [eo (s:=b) (m:=y.2+1) lb (by omega),cz x a,eo (s:=a) (m:=x.2+1) la (by omega)];rw [Bool.eq_iff_iff];simp;omega
    simp [hr]
theorem DX {a b:af} (ha:Canon a) (hb:Canon b):(dB a b).length≤a.length+b.length∧Canon (dB a b)∧∀ r,bk (dB a b) r=(bk a r && bk b r) :=
  let ⟨h0,h1,_,h3⟩:=LI _ a b (Nat.le_refl _) ha hb
  ⟨h0,h1,h3⟩
def dO (out:af) (x:Int × Int):af :=
  match out.getLast? with
  | some k=>if x.1≤k.2+1 then out.dropLast++[(k.1,max k.2 x.2)]else out++[x]
  | none=>out++[x]
theorem pX (x:Int × Int):dO [] x = [x]:=rfl
theorem kW (i:af) (k x:Int × Int):dO (i++[k]) x=if x.1≤k.2+1 then i++[(k.1,max k.2 x.2)]else i++[k]++[x]:=by
 unfold dO;simp
def iT (l:af):af:=l.foldl dO []
theorem Ce {out:af} {x:Int × Int} (h:Canon out) (hx:0≤x.1∧x.1≤x.2∧x.2≤1114111) (hl:∀ y∈out,y.1≤x.1) :
    Canon (dO out x)∧(∀ y∈dO out x,y.1≤x.1)∧(dO out x).length≤out.length+1∧∀ r,bk (dO out x) r=(bk out r || (decide (x.1≤r) && decide (r≤x.2))):=by
 rcases List.eq_nil_or_concat out with rfl | ⟨i,k,rfl⟩
 ·rw [pX];exact⟨⟨by simpa using hx,List.pairwise_singleton _ _⟩,by simp,by simp,fun r=>by simp [bk]⟩
 rw [List.concat_eq_append]at h hl ⊢;obtain⟨hi,hk,hik⟩:=xd h;have hkx:=hl k (by simp);rw [kW];by_cases he:x.1≤k.2+1
 ·rw [if_pos he];refine⟨nc hi ⟨hk.1,by simp only;omega,by simp only;omega⟩ hik,fun y hy=>?_,by simp,fun r=>?_⟩
  ·rcases List.mem_append.1 hy with hy | hy;exact hl y (by simp [hy]);rw [List.mem_singleton.1 hy];exact hkx
  rw [ei,ei,Bool.or_assoc];congr 1;simp only [bk,List.any_cons,List.any_nil,Bool.or_false];rw [Bool.eq_iff_iff];simp;omega
 rw [if_neg he];refine⟨nc h hx (fun y hy=>?_),fun y hy=>?_,by simp,fun r=>?_⟩
 ·rcases List.mem_append.1 hy with hy | hy
  ·have:=hik y hy;omega
  rw [List.mem_singleton.1 hy];omega
 ·rcases List.mem_append.1 hy with hy | hy;exact hl y hy;rw [List.mem_singleton.1 hy];exact Int.le_refl _
 rw [ei];congr 1;simp [bk]
theorem LK (l:af):∀ out:af,Canon out→(∀ x∈l,0≤x.1∧x.1≤x.2∧x.2≤1114111)→l.Pairwise (fun a b=>a.1≤b.1)→(∀ y∈out,∀ x∈l,y.1≤x.1) →
    Canon (l.foldl dO out)∧(l.foldl dO out).length≤out.length+l.length∧∀ r,bk (l.foldl dO out) r=(bk out r || bk l r):=by
 induction l with
 | nil=>intro out h _ _ _;exact⟨h,Nat.le_refl _,fun r=>by simp [bk]⟩
 | cons x l ih=>
  intro out h hv hs hl;rw [List.pairwise_cons]at hs;obtain⟨m1,m2,m3,m4⟩:=Ce h (hv x List.mem_cons_self) (fun y hy=>hl y hy x List.mem_cons_self);obtain⟨i1,i2,i3⟩:=ih (dO out x) m1 (fun y hy=>hv y (List.mem_cons_of_mem _ hy)) hs.2 (fun y hy z hz=>by have:=m2 y hy;have:=hs.1 z hz;omega);rw [List.foldl_cons,List.length_cons];refine⟨i1,by omega,fun r=>?_⟩;rw [i3,m4,cz,Bool.or_assoc]
theorem Ib {l:af} (hv:∀ x∈l,0≤x.1∧x.1≤x.2∧x.2≤1114111) (hs:l.Pairwise (fun a b=>a.1≤b.1)):Canon (iT l)∧(iT l).length≤l.length∧∀ r,bk (iT l) r=bk l r:=by
 obtain⟨h1,h2,h3⟩:=LK l [] Canon.nil hv hs (by simp);exact⟨h1,by rw [iT];simpa using h2,fun r=>by rw [iT,h3];simp [bk]⟩
theorem Ja {a b:af} (h:a.Perm b) (r:Int):bk a r=bk b r:=by
 rw [Bool.eq_iff_iff,rI,rI];exact⟨fun⟨x,hx,h1⟩=>⟨x,h.mem_iff.1 hx,h1⟩,fun⟨x,hx,h1⟩=>⟨x,h.mem_iff.2 hx,h1⟩⟩
def vh (s:af):af × Int:=if 200<s.length then ([],5)else (s,0)
theorem NF {a b l:af} (ha:aJ a) (hb:aJ b) (hp:(a++b).Perm l) (hs:l.Pairwise (fun a b=>a.1≤b.1)):nR 124 a b=vh (iT l):=by
 obtain⟨h1,_,h3⟩:=Ib (l:=l) (fun x hx=>by
  rcases List.mem_append.1 (hp.mem_iff.2 hx)with h | h;exact ha.each x h;exact hb.each x h) hs
 refine MR (by decide) ha hb h1 fun r _ _=>?_;rw [h3,← Ja hp,ei];simp [nx]
theorem Pd {a b:af} (ha:aJ a) (hb:aJ b):nR 38 a b=vh (dB a b):=by
 obtain⟨_,h1,h3⟩:=DX ha.canon hb.canon;refine MR (by decide) ha hb h1 fun r _ _=>?_;rw [h3];simp [nx]
theorem Oq {a b:af} (ha:aJ a) (hb:aJ b):nR 45 a b=vh (dB a (wO b)):=by
 obtain⟨n1,n2⟩:=CK hb.canon;obtain⟨_,h1,h3⟩:=DX ha.canon n1;refine MR (by decide) ha hb h1 fun r h0 h2=>?_;rw [h3,n2 r h0 h2];simp [nx]
theorem NH {a:af} (ha:aJ a) (b:af):nR 94 a b=vh (wO a):=by
 obtain⟨n1,n2⟩:=CK ha.canon;exact TQ ha n1 n2 b
def Di (w:World) (s:ByteArray) (e:Ending) (w':World):Prop :=
  ∃ v1 v2,e=.returned (.tuple #[v1,v2,.int .i64 (spoilt s 0)])∧gN w' w.heap.size v1 (ay s 0)∧lX w' w.heap.size v2 (placesOf s 0++[(s.size:Int)])∧Below w.heap.size w w'
def Pz (w:World) (s:ByteArray) (v5 v6 v7 v8:Value) (wr:World):Prop :=
  ∃ (p n:Nat) (l q:List Int),p≤s.size∧v8=.int .i64 p∧v7=.int .i64 n∧gN wr w.heap.size v5 l∧lX wr w.heap.size v6 q∧l++ay s p=ay s 0∧q++placesOf s p=placesOf s 0 ∧
    n+spoilt s p=spoilt s 0∧l.length≤p∧q.length≤p∧Below w.heap.size w wr
theorem En (s:ByteArray) (w:World) (hs:s.size≤1099511627776) :
    Calls Tryz.prog 32 #[.string s] w (Di w s):=by
 obtain⟨i0,hi,hz0,rj,sY⟩:=info_parts Tryz.info21;obtain⟨j0,gi,gz0,gz1,gz2⟩:=info_parts Tryz.info3;have hle:=KN s s.size 0 (by omega);go_enter Tryz.func32,Tryz.ntmps32;go_wp2_with fail;go_loopw [5,6,7,8] (Pz w s) (fun _ _ _ i _=>s.size - (intOf i).toNat);(case atStart=>exact⟨0,0,[],[],Nat.zero_le _,rfl,rfl,gN.nil _ _,lX.nil _ _,rfl,rfl,by omega,Nat.le_refl _,Nat.le_refl _,Below.refl _ _⟩);obtain⟨p,n,l,q,hp,rfl,rfl,R5,hoq,hl,hq,hn,Ya,hql,hb⟩:=hrel;have hz:=hb.size;have hnb:n≤1099511627776:=(by omega);by_cases hlt:p<s.size
 ·have hd:=dM s p hlt;have hs1:=dF s p hlt;have nN:=yT s p hlt;have NT:=fM s p hlt;have hone:zg s p=if iP s p then (0,0)else (((Utf8.decode s p).1:Int),((Utf8.decode s p).2:Int)):=rfl;have RT:iP s p=true→(Utf8.decode s p).1=65533∧(Utf8.decode s p).2=1:=by
   intro h;unfold iP at h;simpa using h
  generalize (Utf8.decode s p).1=r at *;generalize (Utf8.decode s p).2=k at *;rw [hs1]at hl;rw [nN]at hq;rw [NT]at hn;have HL:=Lib.hid hl;have HQ:=Lib.hid hq;have HN:=Lib.hid hn;have Yj:=Lib.hid RT;clear hl hq hn hs1 nN NT RT;cases l8:iP s p
  ·rw [l8]at HN;rw [l8,if_neg (by simp)]at hone;have HO:=Lib.hid hone;have hk0:((k:Int) == 0)=false:=(by rw [beq_eq_false_iff_ne];omega);clear hone l8;go_wp2_with fail;refine(It s p wr hs hlt).mono ?_;rintro e w1 ⟨rfl,aT⟩;rw [HO.out];dsimp only;have Ob:=hb.trans (aT.mono hz);have aaG:=Ob.size;have MD:gN w1 w.heap.size _ l:=cS R5 aT;have Hx:lX w1 w.heap.size _ q:=cS hoq aT;clear R5 hoq;obtain⟨A6,c6,rfl,_⟩:=aH Hx;have Sp:=Lib.hid MD;have Jl:=Lib.hid (World.ownsRow.alloc Hx (.cells #[.int .i64 p] 3));have Fo:=Lib.hid (Rd.new w1 3 1 1 [.int .i64 p] rfl);clear MD Hx;go_wp2_with (at_builtin;refine ai _ rfl (.tmp 21) (.tmp 23) 36 rfl w.heap.size 3 j0 _ 1 8 Tryz.underlying36 gi gz0 gz1 gz2 rfl (by decide) _ _ _ rfl Jl.out (w1.heap.size+1) (some ⟨w1.heap.size,0,none⟩) 1 1 [.int .i64 p] rfl Fo.out ?s1 (by simp only [maxLen];omega) (by omega) (by simp;omega) ?_);(case s1=>intro u hu;simp at hu;rw [hu];rfl);intro v6 w2 an;have De:lX w2 w.heap.size v6 (q++[(p:Int)]):=lX.of an (by simp) (by simp [intCells]);have zI:gN w2 w.heap.size _ l:=fG (World.ownsRow.alloc Sp.out _) Jl.out (by decide) an;have aL:Below w.heap.size w w2:=(Ob.alloc (by omega) _).trans (an.below (by simp;omega) Jl.out);clear an Sp Jl;have abM:=aL.size;obtain⟨A5,c5,rfl,_⟩:=aH zI;have Uc:=Lib.hid De;have GC:=Lib.hid (World.ownsRow.alloc zI (.cells #[.int .i32 r] 21));have S3:=Lib.hid (Rd.new w2 21 1 1 [.int .i32 r] rfl);clear zI De
   go_wp2_with (at_builtin;refine ai _ rfl (.tmp 29) (.tmp 31) 29 rfl w.heap.size 21 i0 _ 1 4 Tryz.underlying29 hi hz0 rj sY rfl (by decide) _ _ _ rfl GC.out (w2.heap.size+1) (some ⟨w2.heap.size,0,none⟩) 1 1 [.int .i32 r] rfl S3.out ?s2 (by simp only [maxLen];omega) (by omega) (by simp;omega) ?_);(case s2=>intro u hu;simp at hu;rw [hu];rfl);intro v5 w3 an;have Tm:gN w3 w.heap.size v5 (l++[(r:Int)]):=gN.of an (by simp) (by simp [runeCells]);have SQ:lX w3 w.heap.size v6 (q++[(p:Int)]):=fG (World.ownsRow.alloc Uc.out _) GC.out (by decide) an;have bQ:Below w.heap.size w w3:=(aL.alloc (by omega) _).trans (an.below (by simp;omega) GC.out);clear an;go_wp2_with fail;exact⟨⟨p+k,n,l++[(r:Int)],q++[(p:Int)],by omega,by go_num,rfl,Tm,SQ,by rw [List.append_assoc];exact HL.out,by rw [List.append_assoc];exact HQ.out,by have:=HN.out;simpa using this,by simp;omega,by simp;omega,bQ⟩,by simp [intOf];omega⟩
  obtain⟨rfl,rfl⟩:=Yj.out l8;rw [l8]at HN;rw [l8,if_pos rfl]at hone;have HO:=Lib.hid hone;clear hone l8;go_wp2_with fail;refine(It s p wr hs hlt).mono ?_;rintro e w1 ⟨rfl,aT⟩;rw [HO.out];dsimp only;have Ob:=hb.trans (aT.mono hz);have aaG:=Ob.size;have MD:gN w1 w.heap.size _ l:=cS R5 aT;have Hx:lX w1 w.heap.size _ q:=cS hoq aT;clear R5 hoq;obtain⟨A6,c6,rfl,_⟩:=aH Hx;have Sp:=Lib.hid MD;have Jl:=Lib.hid (World.ownsRow.alloc Hx (.cells #[.int .i64 p] 3));have Fo:=Lib.hid (Rd.new w1 3 1 1 [.int .i64 p] rfl);clear MD Hx;go_wp2_with (at_builtin;refine ai _ rfl (.tmp 21) (.tmp 23) 36 rfl w.heap.size 3 j0 _ 1 8 Tryz.underlying36 gi gz0 gz1 gz2 rfl (by decide) _ _ _ rfl Jl.out (w1.heap.size+1) (some ⟨w1.heap.size,0,none⟩) 1 1 [.int .i64 p] rfl Fo.out ?s3 (by simp only [maxLen];omega) (by omega) (by simp;omega) ?_);(case s3=>intro u hu;simp at hu;rw [hu];rfl);intro v6 w2 an;have De:lX w2 w.heap.size v6 (q++[(p:Int)]):=lX.of an (by simp) (by simp [intCells]);have zI:gN w2 w.heap.size _ l:=fG (World.ownsRow.alloc Sp.out _) Jl.out (by decide) an;have aL:Below w.heap.size w w2:=(Ob.alloc (by omega) _).trans (an.below (by simp;omega) Jl.out);clear an Sp Jl;have abM:=aL.size;obtain⟨A5,c5,rfl,_⟩:=aH zI;have Uc:=Lib.hid De;have GC:=Lib.hid (World.ownsRow.alloc zI (.cells #[.int .i32 65533] 21));have S3:=Lib.hid (Rd.new w2 21 1 1 [.int .i32 65533] rfl);clear zI De;go_wp2_with (at_builtin;refine ai _ rfl (.tmp 29) (.tmp 31) 29 rfl w.heap.size 21 i0 _ 1 4 Tryz.underlying29 hi hz0 rj sY rfl (by decide) _ _ _ rfl GC.out (w2.heap.size+1) (some ⟨w2.heap.size,0,none⟩) 1 1 [.int .i32 65533] rfl S3.out ?s4 (by simp only [maxLen];omega) (by omega) (by simp;omega) ?_)
  (case s4=>intro u hu;simp at hu;rw [hu];rfl);intro v5 w3 an;have Tm:gN w3 w.heap.size v5 (l++[65533]):=gN.of an (by simp) (by simp [runeCells]);have SQ:lX w3 w.heap.size v6 (q++[(p:Int)]):=fG (World.ownsRow.alloc Uc.out _) GC.out (by decide) an;have bQ:Below w.heap.size w w3:=(aL.alloc (by omega) _).trans (an.below (by simp;omega) GC.out);clear an;go_wp2_with fail;exact⟨⟨p+1,n+1,l++[65533],q++[(p:Int)],by omega,by go_num,by go_num,Tm,SQ,by rw [List.append_assoc];exact HL.out,by rw [List.append_assoc];exact HQ.out,by have:=HN.out;simp at this;omega,by simp;omega,by simp;omega,bQ⟩,by simp [intOf];omega⟩
 rw [ck s p hlt,List.append_nil]at hl;rw [Bd s p hlt,List.append_nil]at hq;rw [fc s p hlt]at hn;obtain⟨A6,c6,rfl,_⟩:=aH hoq;have Sp:=Lib.hid R5;have Jl:=Lib.hid (World.ownsRow.alloc hoq (.cells #[.int .i64 s.size] 3));have Fo:=Lib.hid (Rd.new wr 3 1 1 [.int .i64 s.size] rfl);have HL:=Lib.hid hl;have HQ:=Lib.hid hq;have HN:=Lib.hid hn;clear R5 hoq hl hq hn;go_wp2_with (at_builtin;refine ai _ rfl (.tmp 37) (.tmp 40) 36 rfl w.heap.size 3 j0 _ 1 8 Tryz.underlying36 gi gz0 gz1 gz2 rfl (by decide) _ _ _ rfl Jl.out (wr.heap.size+1) (some ⟨wr.heap.size,0,none⟩) 1 1 [.int .i64 s.size] rfl Fo.out ?s5 (by simp only [maxLen];omega) (by omega) (by simp;omega) ?_);(case s5=>intro u hu;simp at hu;rw [hu];rfl);intro v6 w2 an;have De:lX w2 w.heap.size v6 (q++[(s.size:Int)]):=lX.of an (by simp) (by simp [intCells]);have zI:gN w2 w.heap.size _ l:=fG (World.ownsRow.alloc Sp.out _) Jl.out (by decide) an;have aL:Below w.heap.size w w2:=(hb.alloc (by omega) _).trans (an.below (by simp;omega) Jl.out);clear an;rw [HL.out]at zI;rw [HQ.out]at De;go_wp2_with fail;go_ret3;unfold Di;rw [← HN.out];exact⟨_,_,rfl,zI,De,aL⟩
theorem fu (s:ByteArray) (w:World):Calls Tryz.prog 16 #[.string s] w fun e w'=>e=.returned (.bool (decide ((s.size:Int)≤1000)))∧w'=w:=by
 go_enter Tryz.func16,Tryz.ntmps16;go_wp2_with fail;go_ret;exact⟨rfl,rfl⟩
theorem de (r:Int) (hr:aK r=true) (w:World):Calls Tryz.prog 20 #[.int .i32 r] w fun e w'=>e=.returned (.string (pz [r]))∧Below w.heap.size w w':=by
 go_enter Tryz.func20,Tryz.ntmps20;go_wp2_with fail;refine(Ak r hr w).mono ?_;rintro e w1 ⟨v,rfl,hv,hb⟩;obtain⟨A,c,rfl,_⟩:=aH hv;have sZ:=jh hv rfl;rw [IP]at sZ;have HB:=Lib.hid hb;clear hv hb;go_wp2_with fail;go_ret;exact⟨rfl,HB.out⟩
theorem jj (s:ByteArray) (w:World) (hs:s.size≤1099511627776):Calls Tryz.prog 23 #[.string s] w fun e w'=>(∃ v,e=.returned v∧gN w' w.heap.size v (ay s 0))∧Below w.heap.size w w':=by
 go_enter Tryz.func23,Tryz.ntmps23;go_wp2_with fail;refine(En s w hs).mono ?_;rintro e w1 ⟨v1,v2,rfl,UH,Dp,hb⟩;have HO:=Lib.hid UH;have HB:=Lib.hid hb;clear UH Dp hb;go_wp2_with fail;go_ret;exact⟨⟨_,rfl,HO.out⟩,HB.out⟩
theorem fA (s:ByteArray):(ay s 0).all aK=true:=by
 have h:=(AQ s).1;unfold oG at h;split at h;assumption;injection h with _ h;cases h
theorem kT {s:ByteArray} {k:Nat} {r:Int} (h:(ay s 0)[k]? = some r):aK r=true:=List.all_eq_true.1 (fA s) r (List.mem_of_getElem? h)
def Vl (w:World) (n:Nat) (T:Int→List Int) (L:List Int) (out i:Value) (wr:World):Prop:=∃ j:Nat,j≤n∧i=.int .i64 j∧out=.string (pz ((L.take j).flatMap T))∧Below w.heap.size w wr
theorem RX (s:ByteArray) (hs:s.size≤1000) (f:Nat) (cap:Array Value) (T:Int→List Int) (w:World) (eg:∀ args w,(callFunc f args).run Tryz.prog w=.ok (.enter f args) w) (hT:∀ r,(T r).length≤100)
    (hf:∀ (W:World) (r:Int),aK r=true→Calls Tryz.prog f (#[.int .i32 r]++cap) W fun e w2=>e=.returned (.string (pz (T r)))∧Below W.heap.size W w2) :
    Calls Tryz.prog 18 #[.string s,.func (.func f) #[] cap] w fun e w'=>e=.returned (.string (pz ((ay s 0).flatMap T)))∧Below w.heap.size w w':=by
 have HF:=Lib.hid hf;have Ya:=cZ s;have HR:=Lib.hid (fun(k:Nat) (r:Int) (h:(ay s 0)[k]? = some r)=>kT h);have Xi:=Lib.hid (fun(j:Nat)=>show(pz (((ay s 0).take j).flatMap T)).size≤400000 from by
  have h1:=bN (((ay s 0).take j).flatMap T);have h2:=DT T 100 ((ay s 0).take j) (fun r _=>hT r);have h3:((ay s 0).take j).length≤1000:=(by rw [List.length_take];omega);omega)
 have fW:=Lib.hid (fun(r:Int)=>show(pz (T r)).size≤400 from by have:=bN (T r);have:=hT r;omega);have GN:=Lib.hid (jj s w (by omega));clear hf;generalize ay s 0=L at *;go_enter Tryz.func18,Tryz.ntmps18;go_wp2_with fail;refine GN.out.mono ?_;rintro e w1 ⟨⟨v,rfl,ho⟩,aT⟩;obtain⟨A,c,rfl,_⟩:=aH ho;have HL:=Lib.hid (Rd.cj ho);have bT:=Lib.hid aT;clear ho aT;generalize hn:L.length=n at *;have HN:=Lib.hid hn;clear hn;go_wp2_with fail;go_loopw [5,11] (Vl w1 n T L) (fun _ i _=>n - (intOf i).toNat);(case atStart=>exact⟨0,Nat.zero_le _,rfl,rfl,Below.refl _ _⟩);obtain⟨j,hj,rfl,rfl,hb⟩:=hrel;by_cases hlt:j<n
 ·obtain⟨r,hr⟩:∃ r,L[j]? = some r:=⟨_,List.getElem?_eq_getElem (by rw [HN.out];exact hlt)⟩;obtain⟨b,off,rfl,dL,hcells⟩:=HL.out.2 (by omega);have d0:wr.cell? ⟨b,off+j,none⟩=some (.int .i32 r):=(hb.cell (p:=⟨b,off+j,none⟩) dL).trans (hcells j _ (by rw [bC,hr];rfl));have HC:=Lib.hid (HF.out wr r (HR.out j r hr));have HTK:=Lib.hid (zS T L j r hr);have hs1:=Xi.out j;have nN:=fW.out r;have HB:=Lib.hid hb;have VW:=Lib.hid (ee ((L.take j).flatMap T) (T r));clear hcells hr hb;generalize (L.take j).flatMap T=acc at *;go_wp2_with fail;refine HC.out.mono ?_;rintro e w2 ⟨rfl,aL⟩;have aW:=Lib.hid (HB.out.trans (aL.mono HB.out.size));clear aL;go_wp2_with fail;exact⟨⟨j+1,by omega,by go_num,by rw [HTK.out,← VW.out],aW.out⟩,by simp [intOf];omega⟩
 obtain rfl:j=n:=(by omega);have HB:=Lib.hid hb;have HE:=Lib.hid (show(L.take j)=L by rw [List.take_of_length_le (by rw [HN.out];exact Nat.le_refl _)]);clear hb;rw [HE.out];go_wp2_with fail;go_ret;exact⟨rfl,bT.out.trans (HB.out.mono bT.out.size)⟩
end Go.Proofs.YtapechjebkjidaaGreatDoor
