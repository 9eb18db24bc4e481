/- SortSpan + SetFour + CurSpan + RdSpace + RdWord + RdName -/
import Derived.Test.YtapechjebkjidaaGreatDoorShelf2
import Derived.Test.YtapechjebkjidaaGreatDoorShelfM
import Derived.Test.YtapechjebkjidaaGreatDoorZs11
import Derived.Test.YtapechjebkjidaaGreatDoorZs23
import Derived.Test.YtapechjebkjidaaGreatDoorZs15
import Derived.Test.YtapechjebkjidaaGreatDoorZs35
import Derived.Test.YtapechjebkjidaaGreatDoorZs12
set_option maxHeartbeats 6400000
set_option maxRecDepth 100000
namespace Go.Proofs.YtapechjebkjidaaGreatDoor
open Go.RowKit
def nj (x:Int × Int):List Value:=[.int .i32 x.1,.int .i32 x.2]
def lR (x y:Int × Int):Int:=Lib.compareInt x.1 y.1
theorem Cj (x y:Int × Int):ltOf lR x y=decide (x.1<y.1):=by
 unfold ltOf lR Lib.compareInt;by_cases h1:x.1<y.1
 ·simp [h1]
 by_cases h2:y.1<x.1 <;> simp [h1,h2]
theorem Pq:Sort.SWO (ltOf lR) where
  irrefl x:=by rw [Cj];simp
  trans x y z h1 h2:=by rw [Cj]at *;simp at *;omega
  ntrans x y z h1 h2:=by rw [Cj]at *;simp at *;omega
theorem FI (x:Int) (w:World):Calls Tryz.prog 158 #[.int .i32 x] w fun e w'=>e=.returned (.bool false)∧w'=w:=by
 have h:(x != x)=false:=(by simp);go_enter Tryz.func158,Tryz.ntmps158;go_wp2_with fail;go_ret;exact⟨rfl,rfl⟩
theorem Oj (x y:Int) (w:World):Calls Tryz.prog 142 #[.int .i32 x,.int .i32 y] w fun e w'=>e=.returned (.int .i64 (Lib.compareInt x y))∧w'=w:=by
 unfold Lib.compareInt;by_cases h1:x<y
 ·rw [if_pos h1];go_enter Tryz.func142,Tryz.ntmps142;go_wp2_with (go_at_call 158;refine(FI _ _).mono ?_;rintro e w' ⟨rfl,rfl⟩);go_ret;exact⟨rfl,rfl⟩
 rw [if_neg h1];by_cases h2:x > y
 ·rw [if_pos h2];go_enter Tryz.func142,Tryz.ntmps142;go_wp2_with (go_at_call 158;refine(FI _ _).mono ?_;rintro e w' ⟨rfl,rfl⟩);go_ret;exact⟨rfl,rfl⟩
 rw [if_neg h2];go_enter Tryz.func142,Tryz.ntmps142;go_wp2_with (go_at_call 158;refine(FI _ _).mono ?_;rintro e w' ⟨rfl,rfl⟩);go_ret;exact⟨rfl,rfl⟩
theorem SW (x y:Int × Int) (W:World):Calls Tryz.prog 141 #[.agg #[.int .i32 x.1,.int .i32 x.2],.agg #[.int .i32 y.1,.int .i32 y.2]] W fun e w'=>e=.returned (.int .i64 (lR x y))∧∃ q os',w'=Sort.grow (W.drewN q) os':=by
 have N7:=fun W'=>Oj x.1 y.1 W';unfold lR;generalize Lib.compareInt x.1 y.1=r at N7 ⊢;go_enter Tryz.func141,Tryz.ntmps141;go_wp2_with (go_at_call 142;refine(N7 _).mono ?_;rintro e w' ⟨rfl,rfl⟩);go_ret;exact⟨rfl,0,_,by rw [Sort.alloc_eq_grow,Sort.alloc_eq_grow,Sort.grow_grow];rfl⟩
theorem Pv (blk off size:Nat) (w:World):CmpLays Tryz.prog 141 #[] nj 2 lR blk off size w:=fun _ _ _ _ x y=>SW x y _
theorem oh (l:af) (t:Nat) (h:t<l.length*2):(aj l)[t]? = some ((nj (l.toArray[t / 2]!))[t % 2]!):=by
 have hk:t / 2<l.length:=(by omega);obtain⟨⟨x,y⟩,hx⟩:∃ z,l[t / 2]? = some z:=⟨_,List.getElem?_eq_getElem hk⟩;obtain⟨c0,c1⟩:=kz l (t / 2) x y hx;have hg:l.toArray[t / 2]! =(x,y):=by
  rw [getElem!_pos l.toArray (t / 2) (by simpa using hk)];simp only [List.getElem_toArray];exact(List.getElem?_eq_some_iff.1 hx).2
 rw [hg];rcases Nat.mod_two_eq_zero_or_one t with h0 | h0
 ·rw [h0];have e:t=t / 2*2:=(by omega);rw [← e]at c0;exact c0
 rw [h0];have e:t=t / 2*2+1:=(by omega);rw [← e]at c1;exact c1
theorem Bq {l:af} {n:Nat} {d':Array (Int × Int)} (hn:l.length=n) (hp:Sort.PermIn 0 n l.toArray d') (hs:Sort.SortedIn (ltOf lR) 0 n d') :
    d'.size=n∧l.Perm d'.toList∧d'.toList.Pairwise (fun a b=>a.1≤b.1):=by
 obtain⟨h1,_,h3⟩:=hp;have hsz:d'.size=n:=(by rw [h1];simpa using hn);have e1:(d'.extract 0 n).toList=d'.toList:=(by rw [← hsz];simp);have e2:(l.toArray.extract 0 n).toList=l:=(by rw [← hn];simp);rw [e1,e2]at h3;refine⟨hsz,h3.symm,List.pairwise_iff_getElem.2 fun i j hi hj hij=>?_⟩;have hi':i<d'.size:=(by simpa using hi);have hj':j<d'.size:=(by simpa using hj);have:=hs i j (Nat.zero_le _) hij (by omega);rw [Cj,getElem!_pos d' i hi',getElem!_pos d' j hj',decide_eq_false_iff_not]at this;simp only [Array.getElem_toList];omega
theorem qp (w:World) (g m:Nat) (dk:Array (Int × Int)) (os:Array Obj):bM w g (sortWorldK nj 2 w g 0 m dk os):=by
 unfold sortWorldK Sort.putRowK Sort.putRow Sort.mapBlock Sort.grow Sort.ahead;refine⟨by simp,rfl,rfl,rfl,fun k hk hne=>?_⟩;simp only;rw [Array.getElem?_append_left (by simpa using hk),Array.getElem?_modify,if_neg (Ne.symm hne)]
theorem Hw (g n c base:Nat) (l:af) (w:World) (hn:n≤100000) (hl:l.length=n) (ho:w.ownsRow base 112 2 (.slice (some ⟨g,0,none⟩) n c) n (aj l)) :
    Calls Tryz.prog 140 #[.slice (some ⟨g,0,none⟩) n c,.func (.func 141) #[] #[]] w fun e w'=>e=.returned (.tuple #[])∧bM w g w' ∧
      ∃ l',l.Perm l'∧l'.Pairwise (fun a b=>a.1≤b.1)∧mX w' w'.heap.size (some ⟨g,0,none⟩) n l':=by
 have hg:=(bG ho rfl).2;have hH:Sort.HoldsK nj 2 w g 0 l.toArray:=by
  intro j hj;rw [Sort.size_flatK]at hj;have hj2:j<l.length*2:=(by simpa using hj);rw [Sort.get_flatK _ _ _ _ (by simpa using hj2),Nat.zero_add];refine⟨?_,ho.frozenAt _⟩;rw [ho.cellAt _ (by omega)];exact oh l j hj2
 have hsz:l.toArray.size=n:=(by simpa using hl);have eg:∀ args w,(callFunc 141 args).run Tryz.prog w=.ok (.enter 141 args) w:=enters_of Tryz.func141 (by kernel_rfl) rfl;have N7:=AnyQ.slices_SortFunc Tryz.sortSpan 2 Tryz.isAgg112 Tryz.sizeOf112 nj (fun _=>rfl) (fun x v hv=>by simp [nj]at hv;rcases hv with rfl | rfl <;> rfl) lR Pq 141 #[] g 0 c l.toArray w eg (Pv g 0 _ w) hH hg (by rw [hsz];omega);rw [hsz]at N7;refine Calls.mono N7 ?_;rintro e w' ⟨rfl,d',m,os,hp,hs,rfl⟩;obtain⟨h1,h2,h3⟩:=Bq hl hp hs;refine⟨rfl,qp _ _ _ _ _,d'.toList,h2,h3,⟨by rw [bB];simp [h1],fun h0=>⟨g,0,rfl,Nat.lt_of_lt_of_le hg (qp w g m d' os).1,fun j u hu=>?_⟩⟩⟩;have hj:j<d'.toList.length*2:=(by have:=(List.getElem?_eq_some_iff.1 hu).1;rwa [bB]at this);rw [oh _ j hj]at hu;have hK:=holdsK_sortWorldK_c nj 2 w g 0 l.toArray d' m os hH hg (by rw [h1,hsz]);have:=(hK j (by rw [Sort.size_flatK];simpa using hj)).1;rw [Sort.get_flatK _ _ _ _ (by simpa using hj)]at this;rw [this];simpa using hu
theorem L4 (w:World) :
    Calls Tryz.prog 140 #[.slice none 0 0,.func (.func 141) #[] #[]] w fun e w'=>e=.returned (.tuple #[])∧w'=w:=by
 have H1:=Lib.hid (show Calls Tryz.prog 166 #[.slice none 0 0,.int .i64 0,.int .i64 0,.func (.func 141) #[] #[]] w fun e w'=>e=.returned (.tuple #[])∧w'=w by
  go_enter Tryz.func166,Tryz.ntmps166;go_wp2_with fail;go_loopw [8] (fun i wr=>i=.int .i64 1∧wr=w) (fun _ _=>0);(case atStart=>exact⟨rfl,rfl⟩);obtain⟨rfl,rfl⟩:=hrel;go_wp2_with fail;go_end0;exact⟨rfl,rfl⟩)
 have H2:=Lib.hid (fun(x:Int)=>show Calls Tryz.prog 156 #[.slice none 0 0,.int .i64 0,.int .i64 0,.int .i64 x,.func (.func 141) #[] #[]] w fun e w'=>e=.returned (.tuple #[])∧w'=w by
  go_enter Tryz.func156,Tryz.ntmps156;go_wp2_with fail;go_loopw [1,2,3] (fun a b c wr=>a=.int .i64 0∧b=.int .i64 0∧c=.int .i64 x∧wr=w) (fun _ _ _ _=>0);(case atStart=>exact⟨rfl,rfl,rfl,rfl⟩);obtain⟨rfl,rfl,rfl,rfl⟩:=hrel;go_wp2_with fail;refine H1.out.mono ?_;rintro e w1 ⟨rfl,rfl⟩;go_wp2_with fail;(try simp only [Exit.inBlock,Exit.then]);refine bodyPost_ret (results_none rfl _ _ _) rfl ?_;exact⟨rfl,rfl⟩)
 have H3:=Lib.hid (show Calls Tryz.prog 157 #[.int .u64 0] w fun e w'=>e=.returned (.int .i64 (Lib.bitLen 0:Nat))∧w'=w from Tryz.bits_Len 0 w (by decide) (by decide));go_enter Tryz.func140,Tryz.ntmps140;go_wp2_with (first | (go_at_call 157;refine H3.out.mono ?_;rintro e w1 ⟨rfl,rfl⟩) | (go_at_call 156;refine(H2.out _).mono ?_;rintro e w1 ⟨rfl,rfl⟩));go_end0;exact⟨rfl,rfl⟩
def bY (w:World) (r:af × Int) (e:Ending) (w':World):Prop:=∃ A' n' c',e=.returned (.tuple #[.slice A' n' c',.int .i64 r.2])∧di w' (fun b=>w.heap.size≤b) 2 A' n' (aj r.1)∧n'≤200∧n'≤c'∧Below w.heap.size w w'
theorem bY.yy {w w1:World} {A:Option Addr} {n c:Nat} {s:af} {e:Ending} {w':World} (h1:di w1 (fun b=>w.heap.size≤b) 2 A n (aj s)) (hc:n≤c) (hb:Below w.heap.size w w1)
    (he:e=.returned (if 200<n then .tuple #[.slice none 0 0,.int .i64 5]else .tuple #[.slice A n c,.int .i64 0])∧w'=w1):bY w (vh s) e w':=by
 obtain⟨rfl,rfl⟩:=he;have hl:s.length=n:=(by have:=h1.1;rw [bB]at this;omega);unfold vh;rw [hl];by_cases h:200<n
 ·rw [if_pos h,if_pos h];exact⟨none,0,0,rfl,⟨rfl,fun h=>absurd h (by omega)⟩,by omega,by omega,hb⟩
 rw [if_neg h,if_neg h];exact⟨A,n,c,rfl,h1,by omega,hc,hb⟩
theorem di.lift {w:World} {X X':Nat→Prop} {sz n:Nat} {A:Option Addr} {xs:List Value} (h:di w X sz A n xs) (hX:∀ b,X b→X' b):di w X' sz A n xs:=h.keep (ag.refl hX)
def Wj (w:World) (n:Nat) (i:Value) (wr:World):Prop:=∃ j:Nat,j≤n∧i=.int .i64 j∧Below w.heap.size w wr
def Ts (w:World) (l:af) (e:Ending) (w':World):Prop:=∃ l',l.Perm l'∧l'.Pairwise (fun a b=>a.1≤b.1)∧bY w (vh (iT l')) e w'
theorem P7 (A:Option Addr) (n c:Nat) (l:af) (w:World) (hn:n≤1000) (hr:oI l) (hl:mX w w.heap.size A n l) :
    Calls Tryz.prog 120 #[.slice A n c] w (Ts w l):=by
 have aY:=Lib.hid hl.len;have HL:=Lib.hid hl;have HR:=Lib.hid hr;clear hl hr;go_enter Tryz.func120,Tryz.ntmps120;go_wp2_with fail;go_loopw [9] (Wj w n) (fun i _=>n - (intOf i).toNat);(case atStart=>exact⟨0,Nat.zero_le _,rfl,Below.refl _ _⟩);obtain⟨j,hj,rfl,hb⟩:=hrel;have hz:=hb.size;by_cases hlt:j<n
 ·obtain⟨⟨x,y⟩,hx⟩:∃ z,l[j]? = some z:=⟨_,List.getElem?_eq_getElem (by rw [aY.out];exact hlt)⟩;obtain⟨b,off,rfl,dL,c0,c1⟩:=HL.out.at hx;have d0:=(hb.cell (p:=⟨b,off+j*2,none⟩) dL).trans c0;have d1:=(hb.cell (p:=⟨b,off+j*2+1,none⟩) dL).trans c1;have hxy:=HR.out (x,y) (List.mem_of_getElem? hx);simp only at hxy;have bT:=Lib.hid (hb.alloc hz (.cells #[.int .i32 x,.int .i32 y] 112));have g1:decide (x<0)=false:=decide_eq_false (by omega);have g2:decide (1114111<y)=false:=decide_eq_false (by omega);have g3:decide (y<x)=false:=decide_eq_false (by omega);clear hx c0 c1 hb;go_wp2_with fail;exact⟨⟨j+1,by omega,by go_num,bT.out⟩,by simp [intOf];omega⟩
 obtain rfl:j=n:=(by omega);have yG:=Lib.hid (EZ A j c l wr (by omega) ((Rd.below HL.out hb).more hz));have HB:=Lib.hid hb;clear hb;go_wp2_with fail;refine yG.out.mono ?_;rintro e w1 ⟨⟨v,rfl,ho⟩,aT⟩;have bT:=Lib.hid (HB.out.trans (aT.mono hz));have AI:=Lib.hid (jD ho hz);clear aT yG;have HWL:=Lib.hid (aH ho);rcases ho.2 with ⟨rfl,hn0⟩ | ⟨g,cap,cur,rfl,hg,hh,U1⟩
 ·obtain rfl:j=0:=hn0;have IG:l = []:=List.eq_nil_of_length_eq_zero aY.out;subst IG;clear ho HWL;go_wp2_with fail;refine(L4 _).mono ?_;rintro e w2 ⟨rfl,rfl⟩;have HM:=Lib.hid (uW none 0 0 [] w2 (by omega) (by intro x hx;simp at hx) Rd.nil);go_wp2_with fail;refine HM.out.mono ?_;rintro e w3 ⟨A3,n3,c3,rfl,mG,UD,lD,bQ⟩;have bW:=Lib.hid (bT.out.trans (bQ.mono bT.out.size));have HP:=Lib.hid (fun(e:Ending) (w':World) h=>show bY w (vh (iT [])) e w' from bY.yy (mG.lift (X':=fun b=>w.heap.size≤b) (fun _ h=>Nat.le_trans bT.out.size h)) lD bW.out h);clear mG bQ;go_wp2_with fail;refine(oH A3 n3 c3 w3).mono ?_;rintro e w4 he;obtain⟨A5,n5,c5,rfl,h5⟩:=HP.out e w4 he;have H5:=Lib.hid h5;clear h5 he HP;go_wp2_with fail;go_ret2;exact⟨[],List.Perm.nil,List.Pairwise.nil,A5,n5,c5,rfl,H5.out⟩
 have HS:=Lib.hid (Hw g j cap w.heap.size l w1 (by omega) aY.out AI.out);have HGW:=Lib.hid (Nat.le_trans hz hg);clear ho HWL U1 hh hg;go_wp2_with fail;refine HS.out.mono ?_;rintro e w2 ⟨rfl,nG,l',hp,WH,hrd⟩;have aW:=Lib.hid (bT.out.trans (nG.to bT.out.size HGW.out));have iW:=Lib.hid (show oI l' from fun x hx=>HR.out x (hp.mem_iff.2 hx));have HP:=Lib.hid hp;have Ow:=Lib.hid WH;have HM:=Lib.hid (uW (some ⟨g,0,none⟩) j cap l' w2 (by omega) iW.out hrd);clear nG hp WH hrd HS;go_wp2_with fail;refine HM.out.mono ?_;rintro e w3 ⟨A3,n3,c3,rfl,mG,UD,lD,bQ⟩;have bW:=Lib.hid (aW.out.trans (bQ.mono aW.out.size));have HT:=Lib.hid (fun(e:Ending) (w':World) h=>show bY w (vh (iT l')) e w' from bY.yy (mG.lift (X':=fun b=>w.heap.size≤b) (fun _ h=>Nat.le_trans aW.out.size h)) lD bW.out h);clear mG bQ;go_wp2_with fail;refine(oH A3 n3 c3 w3).mono ?_;rintro e w4 he;obtain⟨A5,n5,c5,rfl,h5⟩:=HT.out e w4 he;have H5:=Lib.hid h5;clear h5 he HT;go_wp2_with fail;go_ret2;exact⟨l',HP.out,Ow.out,A5,n5,c5,rfl,H5.out⟩
structure b7 (w:World) (A:Option Addr) (n c:Nat) (s:af):Prop where
  right:aJ s
  rd:mX w w.heap.size A n s
  cap:n≤c
theorem b7.below {w w':World} {A:Option Addr} {n c:Nat} {s:af} (h:b7 w A n c s) (hb:Below w.heap.size w w'):b7 w' A n c s:=⟨h.right,(Rd.below h.rd hb).more hb.size,h.cap⟩
theorem b7.le {w:World} {A:Option Addr} {n c:Nat} {s:af} (h:b7 w A n c s):n≤200:=by have:=h.rd.len;have:=h.right.size;omega
theorem b7.Tf {w:World} {A:Option Addr} {n c:Nat} {s:af} (h:b7 w A n c s):mV w EA s [.slice A n c] :=
  ⟨_,rfl,A,n,c,rfl,di.I4 h.rd (Nat.le_refl _) (fun _ _=>trivial),by have:=h.le;simp only [maxLen];omega⟩
theorem Mw {w:World} {A:Option Addr} {n c:Nat} {s:af} (h:b7 w A n c s) :
    cm (mV (w.alloc (.cells #[.slice A n c] 44)) EA) (w.alloc (.cells #[.slice A n c] 44)) EA 1 (some ⟨w.heap.size,0,none⟩) 1 [s]:=by
 have hb:=(Below.refl w.heap.size w).alloc (Nat.le_refl _) (.cells #[.slice A n c] 44);refine⟨[[.slice A n c]],rfl,rfl,?_,by simp,di.new 44 [.slice A n c] rfl trivial⟩;intro i a cs ha hc;rcases i with _ | i
 ·simp at ha hc;subst ha hc;exact(h.below hb).Tf
 simp at ha
theorem Mx {w:World} {A B:Option Addr} {n c m d:Nat} {a b:af} (ha:b7 w A n c a) (hb:b7 w B m d b) :
    cm (mV (w.alloc (.cells #[.slice A n c,.slice B m d] 44)) EA) (w.alloc (.cells #[.slice A n c,.slice B m d] 44)) EA 1 (some ⟨w.heap.size,0,none⟩) 2 [a,b]:=by
 have eO:=(Below.refl w.heap.size w).alloc (Nat.le_refl _) (.cells #[.slice A n c,.slice B m d] 44);refine⟨[[.slice A n c],[.slice B m d]],rfl,rfl,?_,by simp,di.new 44 [.slice A n c,.slice B m d] rfl trivial⟩;intro i x cs hx hc;match i with
 | 0=>simp at hx hc;subst hx hc;exact(ha.below eO).Tf
 | 1=>simp at hx hc;subst hx hc;exact(hb.below eO).Tf
 | i+2=>simp at hx
theorem wY {w:World} {A:Option Addr} {n c:Nat} {s:af} (h:b7 w A n c s) :
    Calls Tryz.prog 119 #[.slice (some ⟨w.heap.size,0,none⟩) 1 1] (w.alloc (.cells #[.slice A n c] 44)) fun e w'=>e=.returned (.int .i64 0)∧Below w.heap.size w w' :=
  (wU EA [s] _ 1 1 _ (by decide) (by simpa using h.right) (Mw h)).mono fun _ _ ⟨he,hb⟩=>⟨he,((Below.refl _ _).alloc (Nat.le_refl _) _).trans (hb.mono (by simp))⟩
theorem kL {w:World} {A B:Option Addr} {n c m d:Nat} {a b:af} (ha:b7 w A n c a) (hb:b7 w B m d b) :
    Calls Tryz.prog 119 #[.slice (some ⟨w.heap.size,0,none⟩) 2 2] (w.alloc (.cells #[.slice A n c,.slice B m d] 44)) fun e w'=>e=.returned (.int .i64 0)∧Below w.heap.size w w' :=
  (wU EA [a,b] _ 2 2 _ (by decide) (by simpa using ⟨ha.right,hb.right⟩) (Mx ha hb)).mono fun _ _ ⟨he,hb⟩=>⟨he,((Below.refl _ _).alloc (Nat.le_refl _) _).trans (hb.mono (by simp))⟩
theorem vt {w:World} {A B:Option Addr} {n c m d:Nat} {a b:af} (ha:b7 w A n c a) (hb:b7 w B m d b) :
    Calls Tryz.prog 121 #[.slice (some ⟨w.heap.size,0,none⟩) 2 2] (w.alloc (.cells #[.slice A n c,.slice B m d] 44)) fun e w'=>
      ∃ A' c' k,e=.returned (.slice A' k c')∧k≤1000∧mX w' w'.heap.size A' k (a++b)∧Below w.heap.size w w':=by
 have eO:=(Below.refl w.heap.size w).alloc (Nat.le_refl _) (.cells #[.slice A n c,.slice B m d] 44);have hf : [a,b].flatten=a++b:=(by simp)
 have h:=BM [a,b] [.slice A n c,.slice B m d] (some ⟨w.heap.size,0,none⟩) 2 2 (w.alloc (.cells #[.slice A n c,.slice B m d] 44)) rfl
   (by have:=Rd.new w 44 1 2 [.slice A n c,.slice B m d] rfl;simpa using this)
   (by
     intro i l u hl hu
     match i with
     | 0=>simp at hl hu;subst hl hu;exact⟨A,n,c,rfl,(ha.below eO).rd⟩
     | 1=>simp at hl hu;subst hl hu;exact⟨B,m,d,rfl,(hb.below eO).rd⟩
     | i+2=>simp at hl)
   (by rw [hf,List.length_append];have:=ha.right.size;have:=hb.right.size;omega) (by decide)
 rw [hf]at h;refine h.mono ?_;rintro e w' ⟨⟨v,rfl,ho⟩,aT⟩;obtain⟨A',c',rfl,_⟩:=aH ho;exact⟨A',c',_,rfl,by rw [List.length_append];have:=ha.right.size;have:=hb.right.size;omega,Rd.cj ho,eO.trans (aT.mono (by simp))⟩
theorem qS (A B:Option Addr) (n c m d:Nat) (a b:af) (w:World) (ha:b7 w A n c a) (hb:b7 w B m d b) :
    Calls Tryz.prog 103 #[.slice A n c,.slice B m d] w (bY w (nR 124 a b)):=by
 have HA:=Lib.hid ha;have HB:=Lib.hid hb;clear ha hb;go_enter Tryz.func103,Tryz.ntmps103;go_wp2_with fail;refine(kL HA.out HB.out).mono ?_;rintro e w1 ⟨rfl,aT⟩;have qh:=Lib.hid (HA.out.below aT);have bT:=Lib.hid (HB.out.below aT);have wm:=Lib.hid aT;clear aT;go_wp2_with fail;refine(vt qh.out bT.out).mono ?_;rintro e w2 ⟨A2,c2,k,rfl,hlen,hrd,aL⟩;have F3:=Lib.hid (wm.out.trans (aL.mono wm.out.size));have HO:=Lib.hid (P7 A2 k c2 (a++b) w2 hlen (fun x hx=>by
  rcases List.mem_append.1 hx with h | h;exact HA.out.right.each x h;exact HB.out.right.each x h) hrd)
 clear hrd aL;go_wp2_with fail;refine HO.out.mono ?_;rintro e w3 ⟨l',hp,WH,A3,n3,c3,rfl,h1,h2,h3,h4⟩;rw [← NF HA.out.right HB.out.right hp WH]at h1 ⊢;have H1:=Lib.hid (h1.lift (X':=fun b=>w.heap.size≤b) (fun _ h=>Nat.le_trans F3.out.size h));have H4:=Lib.hid (F3.out.trans (h4.mono F3.out.size));clear h1 h4 hp WH HO;go_wp2_with fail;go_ret2;exact⟨A3,n3,c3,rfl,H1.out,h2,h3,H4.out⟩
theorem yW (A B:Option Addr) (n c m d:Nat) (a b:af) (w:World) (ha:b7 w A n c a) (hb:b7 w B m d b) :
    Calls Tryz.prog 105 #[.slice A n c,.slice B m d] w (bY w (nR 38 a b)):=by
 have HA:=Lib.hid ha;have HB:=Lib.hid hb;clear ha hb;rw [Pd HA.out.right HB.out.right];go_enter Tryz.func105,Tryz.ntmps105;go_wp2_with fail;refine(kL HA.out HB.out).mono ?_;rintro e w1 ⟨rfl,aT⟩;have HM:=Lib.hid (AF A B n m c d a b w1 (by have:=HA.out.le;have:=HB.out.le;omega) HA.out.cap HB.out.cap HA.out.right.canon HB.out.right.canon (HA.out.below aT).rd (HB.out.below aT).rd);have wm:=Lib.hid aT;clear aT;go_wp2_with fail;refine HM.out.mono ?_;rintro e w3 ⟨A3,n3,c3,rfl,mG,UD,lD,bQ⟩;have bW:=Lib.hid (wm.out.trans (bQ.mono wm.out.size));have HT:=Lib.hid (fun(e:Ending) (w':World) h=>show bY w (vh (dB a b)) e w' from bY.yy (mG.lift (X':=fun b=>w.heap.size≤b) (fun _ h=>Nat.le_trans wm.out.size h)) lD bW.out h);clear mG bQ;go_wp2_with fail;refine(oH A3 n3 c3 w3).mono ?_;rintro e w4 he;obtain⟨A5,n5,c5,rfl,h5⟩:=HT.out e w4 he;have H5:=Lib.hid h5;clear h5 he HT;go_wp2_with fail;go_ret2;exact⟨A5,n5,c5,rfl,H5.out⟩
theorem FC (A B:Option Addr) (n c m d:Nat) (a b:af) (w:World) (ha:b7 w A n c a) (hb:b7 w B m d b) :
    Calls Tryz.prog 106 #[.slice A n c,.slice B m d] w (bY w (nR 45 a b)):=by
 have HA:=Lib.hid ha;have HB:=Lib.hid hb;clear ha hb;rw [Oq HA.out.right HB.out.right];go_enter Tryz.func106,Tryz.ntmps106;go_wp2_with fail;refine(kL HA.out HB.out).mono ?_;rintro e w1 ⟨rfl,aT⟩;have qh:=Lib.hid (HA.out.below aT);have HN:=Lib.hid (Ei B m d b w1 HB.out.le HB.out.right (HB.out.below aT).rd);have wm:=Lib.hid aT;clear aT;go_wp2_with fail;refine HN.out.mono ?_;rintro e w2 ⟨A2,n2,c2,rfl,jb,hn2,hc2,aL⟩;have aW:=Lib.hid (wm.out.trans (aL.mono wm.out.size));have HM:=Lib.hid (AF A A2 n n2 c c2 a (wO b) w2 (by have:=HA.out.le;omega) HA.out.cap hc2 HA.out.right.canon (CK HB.out.right.canon).1 (qh.out.below aL).rd jb.of);clear jb aL;go_wp2_with fail;refine HM.out.mono ?_;rintro e w3 ⟨A3,n3,c3,rfl,mG,UD,lD,bQ⟩;have bW:=Lib.hid (aW.out.trans (bQ.mono aW.out.size));have HT:=Lib.hid (fun(e:Ending) (w':World) h=>show bY w (vh (dB a (wO b))) e w' from bY.yy (mG.lift (X':=fun b=>w.heap.size≤b) (fun _ h=>Nat.le_trans aW.out.size h)) lD bW.out h);clear mG bQ;go_wp2_with fail;refine(oH A3 n3 c3 w3).mono ?_;rintro e w4 he;obtain⟨A5,n5,c5,rfl,h5⟩:=HT.out e w4 he;have H5:=Lib.hid h5;clear h5 he HT;go_wp2_with fail;go_ret2;exact⟨A5,n5,c5,rfl,H5.out⟩
theorem Bg (A:Option Addr) (n c:Nat) (a b:af) (w:World) (ha:b7 w A n c a) :
    Calls Tryz.prog 108 #[.slice A n c] w (bY w (nR 94 a b)):=by
 have HA:=Lib.hid ha;clear ha;rw [NH HA.out.right b];go_enter Tryz.func108,Tryz.ntmps108;go_wp2_with fail;refine(wY HA.out).mono ?_;rintro e w1 ⟨rfl,aT⟩;have HN:=Lib.hid (Ei A n c a w1 HA.out.le HA.out.right (HA.out.below aT).rd);have wm:=Lib.hid aT;clear aT;go_wp2_with fail;refine HN.out.mono ?_;rintro e w3 ⟨A3,n3,c3,rfl,mG,UD,lD,bQ⟩;have bW:=Lib.hid (wm.out.trans (bQ.mono wm.out.size));have HT:=Lib.hid (fun(e:Ending) (w':World) h=>show bY w (vh (wO a)) e w' from bY.yy (mG.lift (X':=fun b=>w.heap.size≤b) (fun _ h=>Nat.le_trans wm.out.size h)) lD bW.out h);clear mG bQ;go_wp2_with fail;refine(oH A3 n3 c3 w3).mono ?_;rintro e w4 he;obtain⟨A5,n5,c5,rfl,h5⟩:=HT.out e w4 he;have H5:=Lib.hid h5;clear h5 he HT;go_wp2_with fail;go_ret2;exact⟨A5,n5,c5,rfl,H5.out⟩
theorem cM (w:World) (C:Nat) (A:Option Addr) (n c:Nat) (L:List Int) (i:Nat) (h:ax w C A n c L i) :
    Calls Tryz.prog 58 #[.pointer (some ⟨C,0,none⟩)] w fun e w'=>e=.returned (.int .i32 (pk L i))∧ax w' C A n c L i∧bM w C w' :=
  (mJ w C A n c L i h).mono fun e w' ⟨he,m,hw⟩=>⟨he,by rw [hw];exact h.drewN m,by rw [hw];exact bM.drewN w C m⟩
theorem mu (w:World) (C:Nat) (A:Option Addr) (n c:Nat) (L:List Int) (i k:Nat) (h:ax w C A n c L i) (hk:k≤1000) :
    Calls Tryz.prog 77 #[.pointer (some ⟨C,0,none⟩),.int .i64 k] w fun e w'=>e=.returned (.int .i32 (pk L (i+k)))∧ax w' C A n c L i∧bM w C w' :=
  (EW w C A n c L i k h hk).mono fun e w' ⟨he,m,hw⟩=>⟨he,by rw [hw];exact h.drewN m,by rw [hw];exact bM.drewN w C m⟩
def eC (w:World) (C:Nat) (A:Option Addr) (n c:Nat) (L:List Int) (r:kf af) (e:Ending) (w':World):Prop :=
  match r with
  | .ok (s,j)=>(∃ B m d,e=.returned (.slice B m d)∧di w' (fun b=>w.heap.size≤b) 2 B m (aj s)∧m≤d)∧ax w' C A n c L j∧bM w C w'
  | .error (x,p)=>e=aV x p∧bM w C w'
def j5 (L:List Int) (i:Nat):kf af:=match jz L i with
  | .error e=>.error e
  | .ok (x,j)=>.ok ([x],j)
theorem N4 {L:List Int} {i:Nat} {e:Int × Nat} (h:cX L i=.error e):j5 L i=.error e:=by unfold j5 jz;rw [h]
theorem z8 {L:List Int} {i j:Nat} {x:Int} (h:cX L i=.ok (x,j)) (h2:¬(pk L j=45∧pk L (j+1)≠91)):j5 L i=.ok ([(x,x)],j):=by unfold j5 jz;rw [h];simp only;rw [if_neg h2]
theorem MV {L:List Int} {i j:Nat} {x:Int} {e:Int × Nat} (h:cX L i=.ok (x,j)) (h2:pk L j=45∧pk L (j+1)≠91) (h3:cX L (j+1)=.error e):j5 L i=.error e:=by
 unfold j5 jz;rw [h];simp only;rw [if_pos h2,h3]
theorem Nd {L:List Int} {i j k:Nat} {x y:Int} (h:cX L i=.ok (x,j)) (h2:pk L j=45∧pk L (j+1)≠91) (h3:cX L (j+1)=.ok (y,k)) (h4:y<x):j5 L i=.error (3,j+1):=by
 unfold j5 jz;rw [h];simp only;rw [if_pos h2,h3];simp only;rw [if_pos h4]
theorem KC {L:List Int} {i j k:Nat} {x y:Int} (h:cX L i=.ok (x,j)) (h2:pk L j=45∧pk L (j+1)≠91) (h3:cX L (j+1)=.ok (y,k)) (h4:¬ y<x):j5 L i=.ok ([(x,y)],k):=by
 unfold j5 jz;rw [h];simp only;rw [if_pos h2,h3];simp only;rw [if_neg h4]
theorem tO {w W:World} {C:Nat} {A:Option Addr} {n c:Nat} {L:List Int} {j:Nat} (x y:Int) (h:ax W C A n c L j) (hb:bM w C W) :
    eC w C A n c L (.ok ([(x,y)],j)) (.returned (.slice (some ⟨W.heap.size,0,none⟩) 1 1)) (W.alloc (.cells #[.int .i32 x,.int .i32 y] 112)) :=
  ⟨⟨_,1,1,rfl,di.new 112 [.int .i32 x,.int .i32 y] rfl hb.1,Nat.le_refl _⟩,h.below ((Below.refl _ _).alloc (Nat.le_refl _) _),hb.trans (bM.below C ((Below.refl _ _).alloc (Nat.le_refl _) _))⟩
theorem LN (w:World) (C:Nat) (A:Option Addr) (n c:Nat) (L:List Int) (i:Nat) (h:ax w C A n c L i) (hL:gL L) :
    Calls Tryz.prog 107 #[.pointer (some ⟨C,0,none⟩)] w (eC w C A n c L (j5 L i)):=by
 have hs:=h.size;have hlen:=h.len;have HC:=Lib.hid h;have iA:=Lib.hid (fun(W:World) (k:Nat) (h:ax W C A n c L k)=>cM W C A n c L k h);have OQ:=Lib.hid (fun(W:World) (k:Nat) (h:ax W C A n c L k)=>mu W C A n c L k 1 h (by decide));have K1:=Lib.hid (fun(W:World) (k:Nat) (h:ax W C A n c L k)=>EJ W C A n c L k h hL);have Nu:=Lib.hid hL.ok;clear h hL;obtain⟨R,hR⟩:∃ R,j5 L i=R:=⟨_,rfl⟩;rw [hR];have fI:=Lib.hid hR;clear hR;have H1:=Lib.hid (K1.out w i HC.out);cases h1:cX L i with
 | error e0=>
  obtain⟨x,p⟩:=e0;rw [h1]at H1;have HR:=Lib.hid (fI.out.symm.trans (N4 h1));clear h1;go_enter Tryz.func107,Tryz.ntmps107;go_wp2_with fail;refine H1.out.mono ?_;rintro e w5 ⟨he,hb⟩;unfold aV at he;subst he;have eK:=Lib.hid hb;clear hb;go_wp2_with fail;rw [HR.out];exact⟨rfl,rfl,eK.out⟩
 | ok q=>
  obtain⟨x,j⟩:=q;rw [h1]at H1;have jE:=Lib.hid h1;obtain⟨_,hx0,hx1⟩:=oz Nu.out h1;clear h1;by_cases hd:pk L j=45
  ·have Ec:j<n:=(by rw [← hlen];exact bw (by omega));have tw:=Lib.hid (fun(W:World) (h:ax W C A n c L j)=>show Calls Tryz.prog 58 #[.pointer (some ⟨C,0,none⟩)] W fun e w'=>e=.returned (.int .i32 45)∧ax w' C A n c L j∧bM W C w' by have:=iA.out W j h;rwa [hd]at this);by_cases hb:pk L (j+1)=91
   ·have HR:=Lib.hid (fI.out.symm.trans (z8 jE.out (fun h=>h.2 hb)));have NG:=Lib.hid (fun(W:World) (h:ax W C A n c L j)=>show Calls Tryz.prog 77 #[.pointer (some ⟨C,0,none⟩),.int .i64 1] W fun e w'=>e=.returned (.int .i32 91)∧ax w' C A n c L j∧bM W C w' by have:=OQ.out W j h;rwa [hb]at this);clear hd hb;go_enter Tryz.func107,Tryz.ntmps107;go_wp2_with fail;refine H1.out.mono ?_;rintro e w5 ⟨rfl,hc,hb⟩;have tc:=Lib.hid hc;have eK:=Lib.hid hb;clear hb hc;go_wp2_with fail;refine(tw.out _ tc.out).mono ?_;rintro e w6 ⟨rfl,hc,hb⟩;have FA:=Lib.hid hc;have iS:=Lib.hid (eK.out.trans hb);clear hb hc;go_wp2_with fail;refine(NG.out _ FA.out).mono ?_;rintro e w7 ⟨rfl,hc,hb⟩;have IV:=Lib.hid hc;have mW:=Lib.hid (iS.out.trans hb);clear hb hc;go_wp2_with fail;go_ret;rw [HR.out];exact tO x x IV.out mW.out
   have NG:=Lib.hid (fun(W:World) (h:ax W C A n c L j)=>OQ.out W j h);have hq:(pk L (j+1) != 91)=true:=(by simp;exact hb);have HCN:=Lib.hid (And.intro hd hb);generalize pk L (j+1)=r2 at hq NG;have H2:=Lib.hid (fun(W:World) (h:ax W C A n c L (j+1))=>K1.out W (j+1) h);have hcast:((j+1:Nat):Int)=(j:Int)+1:=(by omega);have hw1:IntKind.i64.wrap ((j:Int)+1)=(j:Int)+1:=wrap_small _ (by omega) (by omega);clear hd hb;cases h2:cX L (j+1)with
   | error e0=>
    obtain⟨x2,p2⟩:=e0;rw [h2]at H2;have HR:=Lib.hid (fI.out.symm.trans (MV jE.out HCN.out h2));clear h2;go_enter Tryz.func107,Tryz.ntmps107;go_wp2_with fail;refine H1.out.mono ?_;rintro e w5 ⟨rfl,hc,hb⟩;have tc:=Lib.hid hc;have eK:=Lib.hid hb;clear hb hc;go_wp2_with fail;refine(tw.out _ tc.out).mono ?_;rintro e w6 ⟨rfl,hc,hb⟩;have FA:=Lib.hid hc;have iS:=Lib.hid (eK.out.trans hb);clear hb hc;go_wp2_with fail;refine(NG.out _ FA.out).mono ?_;rintro e w7 ⟨rfl,hc,hb⟩;have IV:=Lib.hid hc;have mW:=Lib.hid (iS.out.trans hb);clear hb hc;obtain⟨d1,d2,d3,d4⟩:=IV.out.step Ec;have SU:=Lib.hid d3;have yR:=Lib.hid (mW.out.trans d4);clear d3 d4;go_wp2_with fail;refine(H2.out _ SU.out).mono ?_;rintro e w9 ⟨he,hb⟩;unfold aV at he;subst he;have fN:=Lib.hid (yR.out.trans hb);clear hb;go_wp2_with fail;rw [HR.out];exact⟨rfl,rfl,fN.out⟩
   | ok q=>
    obtain⟨y,k⟩:=q;rw [h2]at H2;have qy:=Lib.hid h2;obtain⟨_,hy0,hy1⟩:=oz Nu.out h2;clear h2;go_enter Tryz.func107,Tryz.ntmps107;go_wp2_with fail;refine H1.out.mono ?_;rintro e w5 ⟨rfl,hc,hb⟩;have tc:=Lib.hid hc;have eK:=Lib.hid hb;clear hb hc;go_wp2_with fail;refine(tw.out _ tc.out).mono ?_;rintro e w6 ⟨rfl,hc,hb⟩;have FA:=Lib.hid hc;have iS:=Lib.hid (eK.out.trans hb);clear hb hc;go_wp2_with fail;refine(NG.out _ FA.out).mono ?_;rintro e w7 ⟨rfl,hc,hb⟩;have IV:=Lib.hid hc;have mW:=Lib.hid (iS.out.trans hb);clear hb hc;obtain⟨d1,d2,d3,d4⟩:=IV.out.step Ec;have SU:=Lib.hid d3;have yR:=Lib.hid (mW.out.trans d4);clear d3 d4;go_wp2_with fail;refine(H2.out _ SU.out).mono ?_;rintro e w9 ⟨rfl,hc,hb⟩;have HC9:=Lib.hid hc;have fN:=Lib.hid (yR.out.trans hb);clear hb hc;by_cases hlt:y<x
    ·have HR:=Lib.hid (fI.out.symm.trans (Nd jE.out HCN.out qy.out hlt));have HF:=Lib.hid (fun(W:World)=>b8 3 ((j:Int)+1) W);go_wp2_with fail;refine(HF.out _).mono ?_;rintro e RN ⟨rfl,rfl⟩;go_wp2_with fail;rw [HR.out];exact⟨rfl,by rw [aV,hcast],fN.out⟩
    have HR:=Lib.hid (fI.out.symm.trans (KC jE.out HCN.out qy.out hlt));go_wp2_with fail;go_ret;rw [HR.out];exact tO x y HC9.out fN.out
  have HR:=Lib.hid (fI.out.symm.trans (z8 jE.out (fun h=>hd h.1)));have hq:(pk L j == 45)=false:=(by simp;exact hd);go_enter Tryz.func107,Tryz.ntmps107;go_wp2_with fail;refine H1.out.mono ?_;rintro e w5 ⟨rfl,hc,hb⟩;have tc:=Lib.hid hc;have eK:=Lib.hid hb;clear hb hc;go_wp2_with fail;refine(iA.out _ _ tc.out).mono ?_;rintro e w6 ⟨rfl,hc,hb⟩;have FA:=Lib.hid hc;have iS:=Lib.hid (eK.out.trans hb);clear hb hc;go_wp2_with fail;go_ret;rw [HR.out];exact tO x x FA.out iS.out
theorem GD {L:List Int} {f j:Nat} (h:pk L (aQ L j)≠35):eZ L (f+1) j=aQ L j:=by rw [eZ,if_neg h]
theorem JB {L:List Int} {f j:Nat} (h:pk L (aQ L j)=35):eZ L (f+1) j=eZ L f (aA qP L (aQ L j)):=by rw [eZ,if_pos h]
theorem AH (r:Int) (w:World) :
    Calls Tryz.prog 128 #[.int .i32 r] w fun e w'=>e=.returned (.bool (kB r))∧w'=w:=by
 go_enter Tryz.func128,Tryz.ntmps128;go_wp2;(all_goals go_ret);(all_goals refine⟨bI ?_,rfl⟩);(all_goals (rw [Bool.eq_iff_iff];simp [kB];try omega))
theorem jA (w:World) (C:Nat) (A:Option Addr) (n c:Nat) (L:List Int) (i:Nat) (h:ax w C A n c L i) :
    Calls Tryz.prog 57 #[.pointer (some ⟨C,0,none⟩)] w fun e w'=>e=.returned (.tuple #[])∧ax w' C A n c L (az L i)∧bM w C w':=by
 have hs:=h.size;have hl:=h.len;have HC:=Lib.hid h;clear h;go_enter Tryz.func57,Tryz.ntmps57;go_wp2_with fail;go_loopw [2] (fun _ wr=>∃ f j:Nat,j≤n∧n+1≤f+j∧az L i=eZ L f j∧ax wr C A n c L j∧bM w C wr) (fun _ wr=>n - (match wr.cell? ⟨C,1,none⟩with | some (.int _ j)=>j.toNat | _=>0));(case atStart=>exact⟨L.length+1,i,HC.out.le,by omega,rfl,HC.out,bM.refl _ _⟩);obtain⟨f0,j,hj,hf,hsp,hc,hb⟩:=hrel;obtain⟨f,rfl⟩:∃ f,f0=f+1:=⟨f0 - 1,by omega⟩;have HJ:=Lib.hid hc;have HB:=Lib.hid hb;have rq:=Lib.hid hsp;have nU:=Lib.hid (hc.blk.cell 1);obtain⟨k,hk⟩:∃ k,aQ L j=k:=⟨_,rfl⟩;have HK:=Lib.hid hk;have hjk:j≤k:=(by rw [← hk];exact ey L j);have iA:=Lib.hid (fun(W:World) (m:Nat) (h:ax W C A n c L m)=>cM W C A n c L m h);clear hc hb hsp;go_wp2_with fail;refine(iV wr C A n c L j HJ.out).mono ?_;rintro e w1 ⟨rfl,hc1,aT⟩;rw [hk]at hc1;have jE:=Lib.hid hc1;have bT:=Lib.hid (HB.out.trans aT);clear hc1 aT hk;go_wp2_with fail;refine(iA.out _ k jE.out).mono ?_;rintro e w2 ⟨rfl,hc2,aL⟩;have qy:=Lib.hid hc2;have aW:=Lib.hid (bT.out.trans aL);clear hc2 aL;by_cases tU:pk L k=35
 ·have hlt:k<L.length:=bw (by omega);have rZ:=Lib.hid (show az L i=eZ L f (aA qP L k) by rw [rq.out,JB (by rw [HK.out];exact tU),HK.out]);have RG:=Lib.hid (show k+1≤aA qP L k by rw [dU hlt (by rw [tU];rfl)];exact eP _ _ _);have HLE:=Lib.hid (show aA qP L k≤n by rw [← hl];exact(iD (Nat.le_of_lt hlt)).2);obtain⟨m0,hm0⟩:∃ m0,aA qP L k=m0:=⟨_,rfl⟩;rw [hm0]at rZ RG HLE;have HM:=Lib.hid hm0;rw [tU];clear hm0 tU;go_wp2_with fail;go_loopw [11] (fun _ wy=>∃ m:Nat,k≤m∧m≤n∧m0=aA qP L m∧ax wy C A n c L m∧bM w C wy) (fun _ wy=>n - (match wy.cell? ⟨C,1,none⟩with | some (.int _ j)=>j.toNat | _=>0));(case atStart=>exact⟨k,Nat.le_refl _,by omega,HM.out.symm,qy.out,aW.out⟩);obtain⟨m,hkm,hmn,hrun,Yv,Ux⟩:=hrel;have RF:=Lib.hid Yv;have HBM:=Lib.hid Ux;have HRM:=Lib.hid hrun;have TV:=Lib.hid (Yv.blk.cell 1);clear Yv Ux hrun;cases hrem:qP (pk L m)with
  | true=>
   have aab:m<L.length:=bw (fun e=>by rw [e]at hrem;exact absurd hrem (by decide));have LH:=Lib.hid (HRM.out.trans (dU aab hrem));have h0:0≤pk L m∧pk L m≠10:=(by simpa [qP] using hrem);have hg0:decide ((0:Int)≤pk L m)=true:=decide_eq_true h0.1;have hg1:(pk L m != 10)=true:=(by simp;exact h0.2);have hwm:IntKind.i64.wrap ((m:Int)+1)=(m:Int)+1:=wrap_small _ (by omega) (by omega);clear hrem h0;go_wp2_with fail;refine(iA.out _ m RF.out).mono ?_;rintro e w3 ⟨rfl,lD,bQ⟩;have rm:=Lib.hid lD;have bW:=Lib.hid (HBM.out.trans bQ);clear lD bQ;go_wp2_with fail;refine(iA.out _ m rm.out).mono ?_;rintro e w4 ⟨rfl,mo,hb4⟩;have zO:=Lib.hid mo;have eM:=Lib.hid (bW.out.trans hb4);clear mo hb4;obtain⟨d1,d2,d3,d4⟩:=zO.out.step (by omega);have vN:=Lib.hid d3;have eK:=Lib.hid (eM.out.trans d4);clear d3 d4;go_wp2_with fail;refine⟨⟨m+1,by omega,by omega,LH.out,vN.out,eK.out⟩,?_⟩;have e1:(w4.setCell ⟨C,1,none⟩ (.int .i64 ((m:Int)+1))).cell? ⟨C,1,none⟩=some (.int .i64 ((m+1:Nat):Int)):=vN.out.blk.cell 1;have e2:wr.cell? ⟨C,1,none⟩=some (.int .i64 (m:Int)):=TV.out;rw [e1,e2];simp only [Int.toNat_natCast];omega
  | false=>
   obtain rfl:m0=m:=HRM.out.trans (cQ (fun _=>hrem));have hor:pk L m0<0∨(0≤pk L m0∧pk L m0=10):=by
    simp [qP]at hrem;by_cases h:pk L m0<0;exact .inl h;exact .inr ⟨by omega,hrem (by omega)⟩
   have hge:=RG.out;clear hrem HRM;rcases hor with h0 | ⟨_,h0⟩
   ·go_wp2_with fail;refine(iA.out _ m0 RF.out).mono ?_;rintro e w3 ⟨rfl,lD,bQ⟩;have rm:=Lib.hid lD;have bW:=Lib.hid (HBM.out.trans bQ);clear lD bQ;go_wp2_with fail;refine⟨⟨f,m0,hmn,by omega,rZ.out,rm.out,bW.out⟩,?_⟩;rw [rm.out.blk.cell 1,nU.out];simp only [Int.toNat_natCast,List.getElem?_toArray,List.getElem?_cons_succ,List.getElem?_cons_zero];omega
   go_wp2_with fail;refine(cM _ C A n c L m0 RF.out).mono ?_;rintro e w3 ⟨rfl,lD,bQ⟩;rw [h0];have rm:=Lib.hid lD;have bW:=Lib.hid (HBM.out.trans bQ);clear lD bQ;go_wp2_with fail;refine(cM _ C A n c L m0 rm.out).mono ?_;rintro e w4 ⟨rfl,mo,hb4⟩;rw [h0];have zO:=Lib.hid mo;have eM:=Lib.hid (bW.out.trans hb4);clear mo hb4;go_wp2_with fail;refine⟨⟨f,m0,hmn,by omega,rZ.out,zO.out,eM.out⟩,?_⟩;rw [zO.out.blk.cell 1,nU.out];simp only [Int.toNat_natCast,List.getElem?_toArray,List.getElem?_cons_succ,List.getElem?_cons_zero];omega
 have E0:=Lib.hid (show az L i=k by rw [rq.out,GD (by rw [HK.out];exact tU),HK.out]);have hq:(pk L k != 35)=true:=(by simp;exact tU);clear tU;go_wp2_with fail;(try simp only [Exit.inBlock,Exit.then]);refine bodyPost_ret (results_none rfl _ _ _) rfl ?_;rw [E0.out];exact⟨rfl,qy.out,aW.out⟩
def MA {α:Type} (V:α→Value) (w:World) (C:Nat) (A:Option Addr) (n c:Nat) (L:List Int) (r:kf α) (e:Ending) (w':World):Prop :=
  match r with
  | .ok (d,j)=>e=.returned (V d)∧ax w' C A n c L j∧bM w C w'
  | .error (x,p)=>e=aV x p∧bM w C w'
theorem LM (w:World) (C:Nat) (A:Option Addr) (n c:Nat) (L:List Int) (i:Nat) (h:ax w C A n c L i) :
    Calls Tryz.prog 83 #[.pointer (some ⟨C,0,none⟩)] w (MA (Value.int .i64) w C A n c L (eU L i)):=by
 have hs:=h.size;have hl:=h.len;have hle:=h.le;have HC:=Lib.hid h;have iA:=Lib.hid (fun(W:World) (m:Nat) (h:ax W C A n c L m)=>cM W C A n c L m h);have OQ:=Lib.hid (fun(W:World) (h:ax W C A n c L i)=>mu W C A n c L i 1 h (by decide));have hw1:IntKind.i64.wrap ((i:Int)+1)=(i:Int)+1:=wrap_small _ (by omega) (by omega);have Dj:IntKind.i64.wrap ((i:Int)+2)=(i:Int)+2:=wrap_small _ (by omega) (by omega);clear h;obtain⟨R,hR⟩:∃ R,eU L i=R:=⟨_,rfl⟩;rw [hR];have fI:=Lib.hid hR;clear hR;by_cases Lf:pk L i=62
 ·have i6:=Lib.hid (show R=.ok (1,i+1) by rw [← fI.out];unfold eU;rw [if_pos Lf]);have hlt:i<L.length:=bw (by omega);go_enter Tryz.func83,Tryz.ntmps83;go_wp2_with fail;refine(iA.out _ i HC.out).mono ?_;rintro e w1 ⟨rfl,hc1,aT⟩;rw [Lf];have jE:=Lib.hid hc1;have bT:=Lib.hid aT;clear hc1 aT Lf;obtain⟨d1,d2,d3,d4⟩:=jE.out.step (by omega);have vN:=Lib.hid d3;have eK:=Lib.hid (bT.out.trans d4);clear d3 d4;go_wp2_with fail;go_ret;rw [i6.out];exact⟨rfl,vN.out,eK.out⟩
 have q62:(pk L i == 62)=false:=(by rw [beq_eq_false_iff_ne];exact Lf);by_cases zN:pk L i=60
 ·have hlt:i<L.length:=bw (by omega);by_cases h2:pk L (i+1)=62
  ·have i6:=Lib.hid (show R=.ok (3,i+2) by rw [← fI.out];unfold eU;rw [if_neg Lf,if_pos ⟨zN,h2⟩]);have hlt2:i+1<L.length:=bw (by omega);go_enter Tryz.func83,Tryz.ntmps83;go_wp2_with fail;refine(iA.out _ i HC.out).mono ?_;rintro e w1 ⟨rfl,hc1,aT⟩;have jE:=Lib.hid hc1;have bT:=Lib.hid aT;clear hc1 aT;go_wp2_with fail;refine(iA.out _ i jE.out).mono ?_;rintro e w2 ⟨rfl,hc2,aL⟩;rw [zN];have qy:=Lib.hid hc2;have aW:=Lib.hid (bT.out.trans aL);clear hc2 aL;go_wp2_with fail;refine(OQ.out _ qy.out).mono ?_;rintro e w3 ⟨rfl,lD,bQ⟩;rw [h2];have rm:=Lib.hid lD;have bW:=Lib.hid (aW.out.trans bQ);clear lD bQ;have d1:=rm.out.blk.cell 1;have d2:=rm.out.blk.frozen 1;have hm:=rm.out.move (j:=i+2) (by omega);rw [show(((i+2:Nat)):Int)=(i:Int)+2 by omega]at hm;have vN:=Lib.hid hm;have eK:=Lib.hid (bW.out.trans (bM.set w3 C 1 (.int .i64 ((i:Int)+2))));clear hm;go_wp2_with fail;go_ret;rw [i6.out];exact⟨rfl,vN.out,eK.out⟩
  have q2:(pk L (i+1) == 62)=false:=(by rw [beq_eq_false_iff_ne];exact h2);have i6:=Lib.hid (show R=.ok (2,i+1) by rw [← fI.out];unfold eU;rw [if_neg Lf,if_neg (fun h=>h2 h.2)];unfold aU;rw [if_pos zN]);have KW:=Lib.hid (fun(W:World) (h:ax W C A n c L i)=>show Calls Tryz.prog 60 #[.pointer (some ⟨C,0,none⟩),.int .i32 60] W fun e w'=>e=.returned (.tuple #[])∧ax w' C A n c L (i+1)∧bM W C w' by have:=fE W C A n c L i 60 h (by decide);rwa [show aU L i 60=.ok (i+1) by unfold aU;rw [if_pos zN]]at this);go_enter Tryz.func83,Tryz.ntmps83;go_wp2_with fail;refine(iA.out _ i HC.out).mono ?_;rintro e w1 ⟨rfl,hc1,aT⟩;have jE:=Lib.hid hc1;have bT:=Lib.hid aT;clear hc1 aT;go_wp2_with fail;refine(iA.out _ i jE.out).mono ?_;rintro e w2 ⟨rfl,hc2,aL⟩;rw [zN];have qy:=Lib.hid hc2;have aW:=Lib.hid (bT.out.trans aL);clear hc2 aL;go_wp2_with fail;refine(OQ.out _ qy.out).mono ?_;rintro e w3 ⟨rfl,lD,bQ⟩;have rm:=Lib.hid lD;have bW:=Lib.hid (aW.out.trans bQ);clear lD bQ;go_wp2_with fail;refine(KW.out _ rm.out).mono ?_;rintro e w4 ⟨rfl,mo,hb4⟩;have zO:=Lib.hid mo;have eM:=Lib.hid (bW.out.trans hb4);clear mo hb4;go_wp2_with fail;go_ret;rw [i6.out];exact⟨rfl,zO.out,eM.out⟩
 have q60:(pk L i == 60)=false:=(by rw [beq_eq_false_iff_ne];exact zN);have i6:=Lib.hid (show R=.error (2,i) by rw [← fI.out];unfold eU;rw [if_neg Lf,if_neg (fun h=>zN h.1)];unfold aU;rw [if_neg zN]);have KW:=Lib.hid (fun(W:World) (h:ax W C A n c L i)=>show Calls Tryz.prog 60 #[.pointer (some ⟨C,0,none⟩),.int .i32 60] W fun e w'=>e=aV 2 i∧bM W C w' by have:=fE W C A n c L i 60 h (by decide);rwa [show aU L i 60=.error (2,i) by unfold aU;rw [if_neg zN]]at this);go_enter Tryz.func83,Tryz.ntmps83;go_wp2_with fail;refine(iA.out _ i HC.out).mono ?_;rintro e w1 ⟨rfl,hc1,aT⟩;have jE:=Lib.hid hc1;have bT:=Lib.hid aT;clear hc1 aT;go_wp2_with fail;refine(iA.out _ i jE.out).mono ?_;rintro e w2 ⟨rfl,hc2,aL⟩;have qy:=Lib.hid hc2;have aW:=Lib.hid (bT.out.trans aL);clear hc2 aL;go_wp2_with fail;refine(KW.out _ qy.out).mono ?_;rintro e w4 ⟨he,hb4⟩;unfold aV at he;subst he;have eM:=Lib.hid (aW.out.trans hb4);clear hb4;go_wp2_with fail;rw [i6.out];exact⟨rfl,rfl,eM.out⟩
def R7 (r:Int):Bool:=kB r || Bs r
theorem G0 {L:List Int} {i:Nat} (h:kB (pk L i)=false):aX L i=i:=by unfold aX;rw [h];rfl
theorem E8 {L:List Int} {i:Nat} (h:kB (pk L i)=true):aX L i=aA R7 L (i+1):=by
 have hlt:i<L.length:=bw (fun e=>by rw [e]at h;exact absurd h (by decide));unfold aX;rw [if_pos h];exact dU (p:=R7) hlt (by unfold R7;rw [h];rfl)
def Jm (L:List Int) (i j:Nat):Prop:=j=i∨(i<j∧aX L i=aA R7 L j)
theorem Jm.next {L:List Int} {i j:Nat} (h:Jm L i j) (hj:kB (pk L j)=true∨(i<j∧Bs (pk L j)=true)):Jm L i (j+1):=by
 have hl:R7 (pk L j)=true:=by
  unfold R7;rcases hj with h | h
  ·rw [h];rfl
  rw [h.2,Bool.or_true]
 have hlt:j<L.length:=bw (fun e=>by rw [e]at hl;exact absurd hl (by decide));rcases h with rfl | ⟨h1,h2⟩
 ·rcases hj with h | h;exact .inr ⟨by omega,E8 h⟩;omega
 exact .inr ⟨by omega,h2.trans (dU hlt hl)⟩
theorem Jm.done {L:List Int} {i j:Nat} (h:Jm L i j) (h1:kB (pk L j)=false) (h2:i<j→Bs (pk L j)=false):aX L i=j:=by
 rcases h with rfl | ⟨h3,h4⟩;exact G0 h1;rw [h4];exact cQ (fun _=>by unfold R7;rw [h1,h2 h3];rfl)
theorem rK (w:World) (C:Nat) (A:Option Addr) (n c:Nat) (L:List Int) (i:Nat) (h:ax w C A n c L i) (h0:0<n) :
    Calls Tryz.prog 79 #[.pointer (some ⟨C,0,none⟩)] w fun e w'=>e=.returned (.string (ic L i))∧ax w' C A n c L (aX L i)∧bM w C w':=by
 have hs:=h.size;have hl:=h.len;have hi:=h.le;obtain⟨b,off,rfl,_,_⟩:=h.at h0;have HC:=Lib.hid h;have iA:=Lib.hid (fun(W:World) (m:Nat) (h:ax W C (some ⟨b,off,none⟩) n c L m)=>cM W C (some ⟨b,off,none⟩) n c L m h);have c1:=h.blk.cell 1;clear h;go_enter Tryz.func79,Tryz.ntmps79;go_upto_block 0 with (go_at_call 58;refine(iA.out _ i HC.out).mono ?_;rintro e w1 ⟨rfl,hc1,aT⟩);have jE:=Lib.hid hc1;have bT:=Lib.hid aT;clear hc1 aT c1;go_cut [3] (fun v wx=>v=.int .i64 (i:Int)∧ax wx C (some ⟨b,off,none⟩) n c L (aX L i)∧bM w C wx);case first=>
  go_wp2_with fail;go_loopw [4] (fun v wr=>∃ j:Nat,i≤j∧j≤n∧v=.int .i32 (pk L j)∧Jm L i j∧ax wr C (some ⟨b,off,none⟩) n c L j∧bM w C wr) (fun _ wr=>n - (match wr.cell? ⟨C,1,none⟩with | some (.int _ j)=>j.toNat | _=>0));(case atStart=>exact⟨i,Nat.le_refl _,hi,rfl,.inl rfl,jE.out,bT.out⟩);obtain⟨j,hij,hjn,rfl,VJ,uQ,CI⟩:=hrel;have HJ:=Lib.hid uQ;have HB:=Lib.hid CI;have TO:=Lib.hid VJ;have nU:=Lib.hid (uQ.blk.cell 1);have k1:=uQ.blk.cell 1;clear uQ CI VJ;have Ev:=Lib.hid (fun h1 h2=>TO.out.done h1 h2);have Iy:=Lib.hid (fun hj=>TO.out.next hj);have Fe:=Lib.hid (fun(W:World) (h:ax W C (some ⟨b,off,none⟩) n c L (j+1))=>iA.out W (j+1) h);obtain⟨x,hx⟩:∃ x,pk L j=x:=⟨_,rfl⟩;have hjl:0≤x→j<n:=fun h=>(by rw [← hl];exact bw (by rw [hx];omega));rw [hx]at Ev Iy;rw [hx];have hwj:IntKind.i64.wrap ((j:Int)+1)=(j:Int)+1:=wrap_small _ (by omega) (by omega);clear hx;have VR:(kB x=true∧((97≤x∧x≤122)∨x=95))∨(kB x=false∧i<j∧Bs x=true∧48≤x∧x≤57)∨(kB x=false∧(i<j→Bs x=false)∧(x<48∨(48≤x∧x≤57∧j=i)∨(57<x∧x<95)∨x=96∨122<x)):=by
   by_cases h1:kB x=true;exact .inl ⟨h1,by simpa [kB] using h1⟩;rw [Bool.not_eq_true]at h1;have h2:¬((97≤x∧x≤122)∨x=95):=(by simpa [kB] using h1);right;by_cases h3:i<j∧Bs x=true;exact .inl ⟨h1,h3.1,h3.2,by simpa [Bs] using h3.2⟩;right;refine⟨h1,fun h4=>by rw [Bool.eq_false_iff];exact fun h5=>h3 ⟨h4,h5⟩,?_⟩;by_cases h4:48≤x∧x≤57
   ·have:¬ i<j:=fun h5=>h3 ⟨h5,by simp [Bs,h4]⟩;omega
   omega
  rcases VR with ⟨h1,hr⟩ | ⟨h1,hlt,h2,hr⟩ | ⟨h1,h2,hr⟩
  ·have HN:=Lib.hid (Iy.out (.inl h1));have Qf:j<n:=hjl (by omega);obtain⟨d1,d2,d3,d4⟩:=HJ.out.step Qf;have vN:=Lib.hid d3;have eK:=Lib.hid (HB.out.trans d4);clear d3 d4;rcases hr with ⟨r1,r2⟩ | r1
   all_goals
     go_wp2_with fail
     refine(Fe.out _ vN.out).mono ?_
     rintro e w5 ⟨rfl,mg,eH⟩
     have tc:=Lib.hid mg
     have iS:=Lib.hid (eK.out.trans eH)
     clear mg eH
     go_wp2_with fail
     refine⟨⟨j+1,by omega,by omega,rfl,HN.out,tc.out,iS.out⟩,?_⟩
     have e1:w5.cell? ⟨C,1,none⟩=some (.int .i64 ((j+1:Nat):Int)):=tc.out.blk.cell 1
     have e2:wr.cell? ⟨C,1,none⟩=some (.int .i64 (j:Int)):=nU.out
     rw [e1,e2]
     simp only [Int.toNat_natCast]
     omega
  ·have HN:=Lib.hid (Iy.out (.inr ⟨hlt,h2⟩));have Qf:j<n:=hjl (by omega);obtain⟨d1,d2,d3,d4⟩:=HJ.out.step Qf;have vN:=Lib.hid d3;have eK:=Lib.hid (HB.out.trans d4);have hgt:decide ((i:Int)<(j:Int))=true:=decide_eq_true (by omega);clear d3 d4;obtain⟨r1,r2⟩:=hr;go_wp2_with fail;refine(Fe.out _ vN.out).mono ?_;rintro e w5 ⟨rfl,mg,eH⟩;have tc:=Lib.hid mg;have iS:=Lib.hid (eK.out.trans eH);clear mg eH;go_wp2_with fail;refine⟨⟨j+1,by omega,by omega,rfl,HN.out,tc.out,iS.out⟩,?_⟩;have e1:w5.cell? ⟨C,1,none⟩=some (.int .i64 ((j+1:Nat):Int)):=tc.out.blk.cell 1;have e2:wr.cell? ⟨C,1,none⟩=some (.int .i64 (j:Int)):=nU.out;rw [e1,e2];simp only [Int.toNat_natCast];omega
  have HE:=Lib.hid (Ev.out h1 h2);clear Ev Iy TO h1 h2;rcases hr with r1 | ⟨r1,r2,r3⟩ | ⟨r1,r2⟩ | r1 | r1
  all_goals
    have q95:(x == 95)=false:=by rw [beq_eq_false_iff_ne];omega
    by_cases hgt:(i:Int)<(j:Int)
    all_goals first
    | (exfalso;omega)
    | (go_wp2_with fail
       go_meet
       rw [HE.out]
       exact⟨rfl,HJ.out,HB.out⟩)
 obtain⟨rfl,Iz,hbc⟩:=hcut;have HT:=Lib.hid (show ic L i=runesBytes (aO L i (aX L i)) from rfl);have hir:i≤aX L i:=by
  unfold aX;split;exact eP _ _ _;exact Nat.le_refl _
 obtain⟨r,hr⟩:∃ r,aX L i=r:=⟨_,rfl⟩;rw [hr]at Iz HT hir;have lU:=Lib.hid hr;clear hr;have Xz:=Lib.hid Iz;have TS:=Lib.hid hbc;have hrn:=Iz.le;have d0:=Iz.blk.cell 0;have d1:=Iz.blk.cell 1;have sZ:=wX (Iz.drewN 1) hir hrn;have hk1:(i:Int)≤(r:Int):=(by omega);have hk2:(r:Int)≤(c:Int):=(by have:=Iz.cap;omega);have Q3:(0:Int)≤(i:Int):=(by omega);clear Iz hbc jE bT HC;generalize runesBytes (aO L i r)=T at *;go_upto_region 6 with fail;refine aB (S:=(fun w'=>w'.cell? ⟨C,0,none⟩=some (.slice (some ⟨b,off,none⟩) n c)∧w'.cell? ⟨C,1,none⟩=some (.int .i64 r)∧(convert 29 9 (.slice (if c=i then some ⟨b,off,none⟩else some ⟨b,off+i,none⟩) (r - i) (c - i))).run Tryz.prog w'=.ok (.string T) w')) [4,10,12] (by kernel_rfl) ⟨d0,d1,sZ⟩ (fun bt=>?_);apply tp 0 54 rfl (by kernel_rfl) (fun _ _ _ h=>h) (by rfl)
 ·intro wq _;go_simp;(try with_reducible rfl)
 (try simp only [zp,za,z0,zs]);apply tp 1 55 rfl (by kernel_rfl) (fun _ _ _ h=>h) (by rfl)
 ·intro wq _;go_simp;(try with_reducible rfl)
 (try simp only [zp,za,z0,zs]);apply tp 2 56 rfl (by kernel_rfl) (fun _ _ _ h=>h) (by rfl)
 ·intro wq _;go_simp;(try with_reducible rfl)
 (try simp only [zp,za,z0,zs]);apply tp 3 57 rfl (by kernel_rfl) (fun _ _ _ h=>h) (by rfl)
 ·intro wq _;go_simp;(try with_reducible rfl)
 (try simp only [zp,za,z0,zs]);apply tt 4 58 rfl (by kernel_rfl) (fun _ _ _ h=>h) (by rfl) (by assumption)
 ·intro wq bR;(try dsimp only at bR);go_simp;(try with_reducible rfl)
 (try simp only [zp,za,z0,zs]);apply tp 5 59 rfl (by kernel_rfl) (fun _ _ _ h=>h) (by rfl)
 ·intro wq _;go_simp;(try with_reducible rfl)
 (try simp only [zp,za,z0,zs]);apply tp 6 60 rfl (by kernel_rfl) (fun _ _ _ h=>h) (by rfl)
 ·intro wq _;go_simp;(try with_reducible rfl)
 (try simp only [zp,za,z0,zs]);apply tp 7 61 rfl (by kernel_rfl) (fun _ _ _ h=>h) (by rfl)
 ·intro wq _;go_simp;(try with_reducible rfl)
 (try simp only [zp,za,z0,zs]);apply tp 8 62 rfl (by kernel_rfl) (fun _ _ _ h=>h) (by rfl)
 ·intro wq _;go_simp;(try with_reducible rfl)
 (try simp only [zp,za,z0,zs]);apply tp 9 63 rfl (by kernel_rfl) (fun _ _ _ h=>h) (by rfl)
 ·intro wq _;go_simp;(try with_reducible rfl)
 (try simp only [zp,za,z0,zs]);apply tt 10 64 rfl (by kernel_rfl) (fun _ _ _ h=>h) (by rfl) (by assumption)
 ·intro wq bR;(try dsimp only at bR);go_simp;(try with_reducible rfl)
 (try simp only [zp,za,z0,zs]);apply tp 11 65 rfl (by kernel_rfl) (fun _ _ _ h=>h) (by rfl)
 ·intro wq _;go_simp;(try with_reducible rfl)
 (try simp only [zp,za,z0,zs]);apply tt 12 66 rfl (by kernel_rfl) (fun _ _ _ h=>h) (by rfl) (by assumption)
 ·intro wq bR;(try dsimp only at bR);go_simp;(try with_reducible rfl)
 (try simp only [zp,za,z0,zs]);apply tp 13 2 rfl (by kernel_rfl) (fun _ _ _ h=>h) (by rfl)
 ·intro wq _;go_simp;(try with_reducible rfl)
 (try simp only [zp,za,z0,zs]);refine aN (by kernel_rfl) ?_ _;generalize (if c=i then some ({ block:=b,off:=off }:Addr)else some { block:=b,off:=off+i })=Z;go_simp;go_wp2_with fail;go_ret;rw [HT.out,lU.out];exact⟨rfl,Xz.out.drewN 1,TS.out.trans (bM.drewN wc C 1)⟩
theorem Iw (w:World) (C:Nat) (A:Option Addr) (n c:Nat) (L:List Int) (i:Nat) (h:ax w C A n c L i) (h0:0<n) :
    Calls Tryz.prog 81 #[.pointer (some ⟨C,0,none⟩)] w (MA Value.string w C A n c L (gG L i)):=by
 have HW:=Lib.hid (rK w C A n c L i h h0);have c1:=h.blk.cell 1;have HN:=Lib.hid (show gG L i=if ep (ic L i)=true then .ok (ic L i,aX L i)else .error (7,i) from rfl);obtain⟨R,hR⟩:∃ R,gG L i=R:=⟨_,rfl⟩;rw [hR];rw [hR]at HN;clear h hR;generalize ic L i=T at *;generalize aX L i=r at *;have F7:=Lib.hid (fun(W:World)=>jr T W);cases hnm:ep T with
 | true=>
  rw [hnm]at HN F7;go_enter Tryz.func81,Tryz.ntmps81;go_wp2_with fail;refine HW.out.mono ?_;rintro e w1 ⟨rfl,hc1,aT⟩;have jE:=Lib.hid hc1;have bT:=Lib.hid aT;clear hc1 aT;go_wp2_with fail;refine(F7.out _).mono ?_;rintro e w2 ⟨rfl,rfl⟩;go_wp2_with fail;go_ret;rw [HN.out];exact⟨rfl,jE.out,bT.out⟩
 | false=>
  rw [hnm]at HN F7;go_enter Tryz.func81,Tryz.ntmps81;go_wp2_with fail;refine HW.out.mono ?_;rintro e w1 ⟨rfl,hc1,aT⟩;have jE:=Lib.hid hc1;have bT:=Lib.hid aT;clear hc1 aT;go_wp2_with fail;refine(F7.out _).mono ?_;rintro e w2 ⟨rfl,rfl⟩;go_wp2_with fail;refine(b8 7 i _).mono ?_;rintro e w3 ⟨rfl,rfl⟩;go_wp2_with fail;rw [HN.out];exact⟨rfl,rfl,bT.out⟩
def MI (L:List Int) (i:Nat):Bool:=decide (pk L (az L (aX L (i+1)))=61)
theorem uU (w:World) (C:Nat) (A:Option Addr) (n c:Nat) (L:List Int) (i:Nat) (h:ax w C A n c L i) (hi:i<n) :
    Calls Tryz.prog 80 #[.pointer (some ⟨C,0,none⟩)] w fun e w'=>e=.returned (.bool (MI L i))∧Below w.heap.size w w':=by
 have hs:=h.size;have c0:=h.blk.cell 0;have c1:=h.blk.cell 1;have hw1:IntKind.i64.wrap ((i:Int)+1)=(i:Int)+1:=wrap_small _ (by omega) (by omega)
 have HN:=Lib.hid (show ax (w.alloc (.cells #[.slice A n c,.int .i64 ((i:Int)+1)] 90)) w.heap.size A n c L (i+1) from
   ⟨⟨_,by rw [show(((i+1:Nat)):Int)=(i:Int)+1 by omega];exact ak.new _ _ _⟩,(h.row.lift (X':=fun _=>True) (fun _ _=>trivial)).keep (ag.alloc _ (fun b _ hl=>Nat.ne_of_lt hl)),h.size,hi,h.cap⟩)
 have HB:=Lib.hid (show Below w.heap.size w (w.alloc (.cells #[.slice A n c,.int .i64 ((i:Int)+1)] 90)) from(Below.refl _ _).alloc (Nat.le_refl _) _);have HV:=Lib.hid (show MI L i=decide (pk L (az L (aX L (i+1)))=61) from rfl);clear h;go_enter Tryz.func80,Tryz.ntmps80;go_wp2_with fail;refine(rK _ w.heap.size A n c L (i+1) HN.out (by omega)).mono ?_;rintro e w1 ⟨rfl,hc1,aT⟩;have jE:=Lib.hid hc1;have bT:=Lib.hid (HB.out.trans (aT.to HB.out.size (Nat.le_refl _)));clear hc1 aT;go_wp2_with fail;refine(jA _ w.heap.size A n c L _ jE.out).mono ?_;rintro e w2 ⟨rfl,hc2,aL⟩;have qy:=Lib.hid hc2;have aW:=Lib.hid (bT.out.trans (aL.to bT.out.size (Nat.le_refl _)));clear hc2 aL;go_wp2_with fail;refine(cM _ w.heap.size A n c L _ qy.out).mono ?_;rintro e w3 ⟨rfl,lD,bQ⟩;have bW:=Lib.hid (aW.out.trans (bQ.to aW.out.size (Nat.le_refl _)));clear lD bQ;go_wp2_with fail;go_ret;rw [HV.out];exact⟨bI (by first | rfl | (rw [Bool.eq_iff_iff];simp)),bW.out⟩
end Go.Proofs.YtapechjebkjidaaGreatDoor
