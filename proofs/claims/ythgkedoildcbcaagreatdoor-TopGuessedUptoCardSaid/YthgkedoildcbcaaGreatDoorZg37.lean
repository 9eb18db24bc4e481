/- SortSpan + SetFour + CurSpan + RdSpace + RdWord + RdName -/
import Derived.Test.YthgkedoildcbcaaGreatDoorShelf2
import Derived.Test.YthgkedoildcbcaaGreatDoorShelfM
import Derived.Test.YthgkedoildcbcaaGreatDoorZg11
import Derived.Test.YthgkedoildcbcaaGreatDoorZg22
import Derived.Test.YthgkedoildcbcaaGreatDoorZg14
import Derived.Test.YthgkedoildcbcaaGreatDoorZg33
import Derived.Test.YthgkedoildcbcaaGreatDoorZg13
set_option maxHeartbeats 6400000
set_option maxRecDepth 100000
namespace Go.Proofs.YthgkedoildcbcaaGreatDoor
open Go.RowKit
def mw (x:Int × Int):List Value:=[.int .i32 x.1,.int .i32 x.2]
def kK (x y:Int × Int):Int:=Lib.compareInt x.1 y.1
theorem AJ (x y:Int × Int):ltOf kK x y=decide (x.1<y.1):=by
 unfold ltOf kK Lib.compareInt;by_cases h1:x.1<y.1
 ·simp [h1]
 by_cases h2:y.1<x.1 <;> simp [h1,h2]
theorem NN:Sort.SWO (ltOf kK) where
  irrefl x:=by rw [AJ];simp
  trans x y z h1 h2:=by rw [AJ]at *;simp at *;omega
  ntrans x y z h1 h2:=by rw [AJ]at *;simp at *;omega
theorem EN (x:Int) (w:World):Calls Tryz.prog 141 #[.int .i32 x] w fun e w'=>e=.returned (.bool false)∧w'=w:=by
 have h:(x != x)=false:=(by simp);go_enter Tryz.func141,Tryz.ntmps141;go_wp2_with fail;go_ret;exact⟨rfl,rfl⟩
theorem Ly (x y:Int) (w:World):Calls Tryz.prog 128 #[.int .i32 x,.int .i32 y] w fun e w'=>e=.returned (.int .i64 (Lib.compareInt x y))∧w'=w:=by
 unfold Lib.compareInt;by_cases h1:x<y
 ·rw [if_pos h1];go_enter Tryz.func128,Tryz.ntmps128;go_wp2_with (go_at_call 141;refine(EN _ _).mono ?_;rintro e w' ⟨rfl,rfl⟩);go_ret;exact⟨rfl,rfl⟩
 rw [if_neg h1];by_cases h2:x > y
 ·rw [if_pos h2];go_enter Tryz.func128,Tryz.ntmps128;go_wp2_with (go_at_call 141;refine(EN _ _).mono ?_;rintro e w' ⟨rfl,rfl⟩);go_ret;exact⟨rfl,rfl⟩
 rw [if_neg h2];go_enter Tryz.func128,Tryz.ntmps128;go_wp2_with (go_at_call 141;refine(EN _ _).mono ?_;rintro e w' ⟨rfl,rfl⟩);go_ret;exact⟨rfl,rfl⟩
theorem QG (x y:Int × Int) (W:World):Calls Tryz.prog 127 #[.agg #[.int .i32 x.1,.int .i32 x.2],.agg #[.int .i32 y.1,.int .i32 y.2]] W fun e w'=>e=.returned (.int .i64 (kK x y))∧∃ q os',w'=Sort.grow (W.drewN q) os':=by
 have KL:=fun W'=>Ly x.1 y.1 W';unfold kK;generalize Lib.compareInt x.1 y.1=r at KL ⊢;go_enter Tryz.func127,Tryz.ntmps127;go_wp2_with (go_at_call 128;refine(KL _).mono ?_;rintro e w' ⟨rfl,rfl⟩);go_ret;exact⟨rfl,0,_,by rw [Sort.alloc_eq_grow,Sort.alloc_eq_grow,Sort.grow_grow];rfl⟩
theorem OC (blk off size:Nat) (w:World):CmpLays Tryz.prog 127 #[] mw 2 kK blk off size w:=fun _ _ _ _ x y=>QG x y _
theorem mO (l:af) (t:Nat) (h:t<l.length*2):(ak l)[t]? = some ((mw (l.toArray[t / 2]!))[t % 2]!):=by
 have hk:t / 2<l.length:=(by omega);obtain⟨⟨x,y⟩,hx⟩:∃ z,l[t / 2]? = some z:=⟨_,List.getElem?_eq_getElem hk⟩;obtain⟨c0,c1⟩:=jQ l (t / 2) x y hx;have hg:l.toArray[t / 2]! =(x,y):=by
  rw [getElem!_pos l.toArray (t / 2) (by simpa using hk)];simp only [List.getElem_toArray];exact(List.getElem?_eq_some_iff.1 hx).2
 rw [hg];rcases Nat.mod_two_eq_zero_or_one t with h0 | h0
 ·rw [h0];have e:t=t / 2*2:=(by omega);rw [← e]at c0;exact c0
 rw [h0];have e:t=t / 2*2+1:=(by omega);rw [← e]at c1;exact c1
theorem AN {l:af} {n:Nat} {d':Array (Int × Int)} (hn:l.length=n) (hp:Sort.PermIn 0 n l.toArray d') (hs:Sort.SortedIn (ltOf kK) 0 n d') :
    d'.size=n∧l.Perm d'.toList∧d'.toList.Pairwise (fun a b=>a.1≤b.1):=by
 obtain⟨h1,_,h3⟩:=hp;have hsz:d'.size=n:=(by rw [h1];simpa using hn);have e1:(d'.extract 0 n).toList=d'.toList:=(by rw [← hsz];simp);have e2:(l.toArray.extract 0 n).toList=l:=(by rw [← hn];simp);rw [e1,e2]at h3;refine⟨hsz,h3.symm,List.pairwise_iff_getElem.2 fun i j hi hj hij=>?_⟩;have hi':i<d'.size:=(by simpa using hi);have hj':j<d'.size:=(by simpa using hj);have:=hs i j (Nat.zero_le _) hij (by omega);rw [AJ,getElem!_pos d' i hi',getElem!_pos d' j hj',decide_eq_false_iff_not]at this;simp only [Array.getElem_toList];omega
theorem oL (w:World) (g m:Nat) (dk:Array (Int × Int)) (os:Array Obj):bJ w g (sortWorldK mw 2 w g 0 m dk os):=by
 unfold sortWorldK Sort.putRowK Sort.putRow Sort.mapBlock Sort.grow Sort.ahead;refine⟨by simp,rfl,rfl,rfl,fun k hk hne=>?_⟩;simp only;rw [Array.getElem?_append_left (by simpa using hk),Array.getElem?_modify,if_neg (Ne.symm hne)]
theorem EI (g n c base:Nat) (l:af) (w:World) (hn:n≤100000) (hl:l.length=n) (ho:w.ownsRow base 77 2 (.slice (some ⟨g,0,none⟩) n c) n (ak l)) :
    Calls Tryz.prog 126 #[.slice (some ⟨g,0,none⟩) n c,.func (.func 127) #[] #[]] w fun e w'=>e=.returned (.tuple #[])∧bJ w g w' ∧
      ∃ l',l.Perm l'∧l'.Pairwise (fun a b=>a.1≤b.1)∧jz w' w'.heap.size (some ⟨g,0,none⟩) n l':=by
 have hg:=(aU ho rfl).2;have hH:Sort.HoldsK mw 2 w g 0 l.toArray:=by
  intro j hj;rw [Sort.size_flatK]at hj;have hj2:j<l.length*2:=(by simpa using hj);rw [Sort.get_flatK _ _ _ _ (by simpa using hj2),Nat.zero_add];refine⟨?_,ho.frozenAt _⟩;rw [ho.cellAt _ (by omega)];exact mO l j hj2
 have hsz:l.toArray.size=n:=(by simpa using hl);have eg:∀ args w,(callFunc 127 args).run Tryz.prog w=.ok (.enter 127 args) w:=enters_of Tryz.func127 (by kernel_rfl) rfl;have KL:=AnyQ.slices_SortFunc Tryz.sortSpan 2 Tryz.isAgg77 Tryz.sizeOf77 mw (fun _=>rfl) (fun x v hv=>by simp [mw]at hv;rcases hv with rfl | rfl <;> rfl) kK NN 127 #[] g 0 c l.toArray w eg (OC g 0 _ w) hH hg (by rw [hsz];omega);rw [hsz]at KL;refine Calls.mono KL ?_;rintro e w' ⟨rfl,d',m,os,hp,hs,rfl⟩;obtain⟨h1,h2,h3⟩:=AN hl hp hs;refine⟨rfl,oL _ _ _ _ _,d'.toList,h2,h3,⟨by rw [bC];simp [h1],fun h0=>⟨g,0,rfl,Nat.lt_of_lt_of_le hg (oL w g m d' os).1,fun j u hu=>?_⟩⟩⟩;have hj:j<d'.toList.length*2:=(by have:=(List.getElem?_eq_some_iff.1 hu).1;rwa [bC]at this);rw [mO _ j hj]at hu;have hK:=holdsK_sortWorldK_c mw 2 w g 0 l.toArray d' m os hH hg (by rw [h1,hsz]);have:=(hK j (by rw [Sort.size_flatK];simpa using hj)).1;rw [Sort.get_flatK _ _ _ _ (by simpa using hj)]at this;rw [this];simpa using hu
theorem Ky (w:World) :
    Calls Tryz.prog 126 #[.slice none 0 0,.func (.func 127) #[] #[]] w fun e w'=>e=.returned (.tuple #[])∧w'=w:=by
 have H1:=qqh (show Calls Tryz.prog 155 #[.slice none 0 0,.int .i64 0,.int .i64 0,.func (.func 127) #[] #[]] w fun e w'=>e=.returned (.tuple #[])∧w'=w by
  go_enter Tryz.func155,Tryz.ntmps155;go_wp2_with fail;go_loopw [8] (fun i wr=>i=.int .i64 1∧wr=w) (fun _ _=>0);(case atStart=>exact⟨rfl,rfl⟩);obtain⟨rfl,rfl⟩:=hrel;go_wp2_with fail;go_end0;exact⟨rfl,rfl⟩)
 have H2:=qqh (fun(x:Int)=>show Calls Tryz.prog 140 #[.slice none 0 0,.int .i64 0,.int .i64 0,.int .i64 x,.func (.func 127) #[] #[]] w fun e w'=>e=.returned (.tuple #[])∧w'=w by
  go_enter Tryz.func140,Tryz.ntmps140;go_wp2_with fail;go_loopw [1,2,3] (fun a b c wr=>a=.int .i64 0∧b=.int .i64 0∧c=.int .i64 x∧wr=w) (fun _ _ _ _=>0);(case atStart=>exact⟨rfl,rfl,rfl,rfl⟩);obtain⟨rfl,rfl,rfl,rfl⟩:=hrel;go_wp2_with fail;refine H1.out.mono ?_;rintro e w1 ⟨rfl,rfl⟩;go_wp2_with fail;(try simp only [Exit.inBlock,Exit.then]);refine bodyPost_ret (results_none rfl _ _ _) rfl ?_;exact⟨rfl,rfl⟩)
 have H3:=qqh (show Calls Tryz.prog 136 #[.int .u64 0] w fun e w'=>e=.returned (.int .i64 (Lib.bitLen 0:Nat))∧w'=w from Tryz.bits_Len 0 w (by decide) (by decide));go_enter Tryz.func126,Tryz.ntmps126;go_wp2_with (first | (go_at_call 136;refine H3.out.mono ?_;rintro e w1 ⟨rfl,rfl⟩) | (go_at_call 140;refine(H2.out _).mono ?_;rintro e w1 ⟨rfl,rfl⟩));go_end0;exact⟨rfl,rfl⟩
def bR (w:World) (r:af × Int) (e:Ending) (w':World):Prop:=∃ A' n' c',e=.returned (.tuple #[.slice A' n' c',.int .i64 r.2])∧cE w' (fun b=>w.heap.size≤b) 2 A' n' (ak r.1)∧n'≤200∧n'≤c'∧Below w.heap.size w w'
theorem bR.u7 {w w1:World} {A:Option Addr} {n c:Nat} {s:af} {e:Ending} {w':World} (h1:cE w1 (fun b=>w.heap.size≤b) 2 A n (ak s)) (hc:n≤c) (hb:Below w.heap.size w w1)
    (he:e=.returned (if 200<n then .tuple #[.slice none 0 0,.int .i64 5]else .tuple #[.slice A n c,.int .i64 0])∧w'=w1):bR w (tT s) e w':=by
 obtain⟨rfl,rfl⟩:=he;have hl:s.length=n:=(by have:=h1.1;rw [bC]at this;omega);unfold tT;rw [hl];by_cases h:200<n
 ·rw [if_pos h,if_pos h];exact⟨none,0,0,rfl,⟨rfl,fun h=>absurd h (by omega)⟩,by omega,by omega,hb⟩
 rw [if_neg h,if_neg h];exact⟨A,n,c,rfl,h1,by omega,hc,hb⟩
theorem cE.lift {w:World} {X X':Nat→Prop} {sz n:Nat} {A:Option Addr} {xs:List Value} (h:cE w X sz A n xs) (hX:∀ b,X b→X' b):cE w X' sz A n xs:=h.keep (aa.refl hX)
def Ty (w:World) (n:Nat) (i:Value) (wr:World):Prop:=∃ j:Nat,j≤n∧i=.int .i64 j∧Below w.heap.size w wr
def Qc (w:World) (l:af) (e:Ending) (w':World):Prop:=∃ l',l.Perm l'∧l'.Pairwise (fun a b=>a.1≤b.1)∧bR w (tT (iw l')) e w'
theorem NF (A:Option Addr) (n c:Nat) (l:af) (w:World) (hn:n≤1000) (hr:nX l) (hl:jz w w.heap.size A n l) :
    Calls Tryz.prog 104 #[.slice A n c] w (Qc w l):=by
 have aO:=qqh hl.len;have HL:=qqh hl;have HR:=qqh hr;clear hl hr;go_enter Tryz.func104,Tryz.ntmps104;go_wp2_with fail;go_loopw [9] (Ty w n) (fun i _=>n - (intOf i).toNat);(case atStart=>exact⟨0,Nat.zero_le _,rfl,Below.refl _ _⟩);obtain⟨j,hj,rfl,hb⟩:=hrel;have hz:=hb.size;by_cases hlt:j<n
 ·obtain⟨⟨x,y⟩,hx⟩:∃ z,l[j]? = some z:=⟨_,List.getElem?_eq_getElem (by rw [aO.out];exact hlt)⟩;obtain⟨b,off,rfl,cC,c0,c1⟩:=HL.out.at hx;have d0:=(hb.cell (p:=⟨b,off+j*2,none⟩) cC).trans c0;have d1:=(hb.cell (p:=⟨b,off+j*2+1,none⟩) cC).trans c1;have hxy:=HR.out (x,y) (List.mem_of_getElem? hx);simp only at hxy;have bI:=qqh (hb.alloc hz (.cells #[.int .i32 x,.int .i32 y] 77));have g1:decide (x<0)=false:=decide_eq_false (by omega);have g2:decide (1114111<y)=false:=decide_eq_false (by omega);have g3:decide (y<x)=false:=decide_eq_false (by omega);clear hx c0 c1 hb;go_wp2_with fail;exact⟨⟨j+1,by omega,by go_num,bI.out⟩,by simp [intOf];omega⟩
 obtain rfl:j=n:=(by omega);have qq:=qqh (Cr A j c l wr (by omega) ((Rd.below HL.out hb).more hz));have HB:=qqh hb;clear hb;go_wp2_with fail;refine qq.out.mono ?_;rintro e w1 ⟨⟨v,rfl,ho⟩,aP⟩;have bI:=qqh (HB.out.trans (aP.mono hz));have yH:=qqh (lX ho hz);clear aP qq;have HWL:=qqh (aI ho);rcases ho.2 with ⟨rfl,hn0⟩ | ⟨g,cap,cur,rfl,hg,hh,US⟩
 ·obtain rfl:j=0:=hn0;have Cm:l = []:=List.eq_nil_of_length_eq_zero aO.out;subst Cm;clear ho HWL;go_wp2_with fail;refine(Ky _).mono ?_;rintro e w2 ⟨rfl,rfl⟩;have HM:=qqh (sA none 0 0 [] w2 (by omega) (by intro x hx;simp at hx) Rd.nil);go_wp2_with fail;refine HM.out.mono ?_;rintro e w3 ⟨A3,n3,c3,rfl,iY,My,kN,bL⟩;have bF:=qqh (bI.out.trans (bL.mono bI.out.size));have HP:=qqh (fun(e:Ending) (w':World) h=>show bR w (tT (iw [])) e w' from bR.u7 (iY.lift (X':=fun b=>w.heap.size≤b) (fun _ h=>Nat.le_trans bI.out.size h)) kN bF.out h);clear iY bL;go_wp2_with fail;refine(mW A3 n3 c3 w3).mono ?_;rintro e w4 he;obtain⟨A5,n5,c5,rfl,h5⟩:=HP.out e w4 he;have H5:=qqh h5;clear h5 he HP;go_wp2_with fail;go_ret2;exact⟨[],List.Perm.nil,List.Pairwise.nil,A5,n5,c5,rfl,H5.out⟩
 have HS:=qqh (EI g j cap w.heap.size l w1 (by omega) aO.out yH.out);have RZ:=qqh (Nat.le_trans hz hg);clear ho HWL US hh hg;go_wp2_with fail;refine HS.out.mono ?_;rintro e w2 ⟨rfl,mh,l',hp,T5,hrd⟩;have bw:=qqh (bI.out.trans (mh.to bI.out.size RZ.out));have iT:=qqh (show nX l' from fun x hx=>HR.out x (hp.mem_iff.2 hx));have HP:=qqh hp;have J2:=qqh T5;have HM:=qqh (sA (some ⟨g,0,none⟩) j cap l' w2 (by omega) iT.out hrd);clear mh hp T5 hrd HS;go_wp2_with fail;refine HM.out.mono ?_;rintro e w3 ⟨A3,n3,c3,rfl,iY,My,kN,bL⟩;have bF:=qqh (bw.out.trans (bL.mono bw.out.size));have HT:=qqh (fun(e:Ending) (w':World) h=>show bR w (tT (iw l')) e w' from bR.u7 (iY.lift (X':=fun b=>w.heap.size≤b) (fun _ h=>Nat.le_trans bw.out.size h)) kN bF.out h);clear iY bL;go_wp2_with fail;refine(mW A3 n3 c3 w3).mono ?_;rintro e w4 he;obtain⟨A5,n5,c5,rfl,h5⟩:=HT.out e w4 he;have H5:=qqh h5;clear h5 he HT;go_wp2_with fail;go_ret2;exact⟨l',HP.out,J2.out,A5,n5,c5,rfl,H5.out⟩
structure bU (w:World) (A:Option Addr) (n c:Nat) (s:af):Prop where
  right:aE s
  rd:jz w w.heap.size A n s
  cap:n≤c
theorem bU.below {w w':World} {A:Option Addr} {n c:Nat} {s:af} (h:bU w A n c s) (hb:Below w.heap.size w w'):bU w' A n c s:=⟨h.right,(Rd.below h.rd hb).more hb.size,h.cap⟩
theorem bU.le {w:World} {A:Option Addr} {n c:Nat} {s:af} (h:bU w A n c s):n≤200:=by have:=h.rd.len;have:=h.right.size;omega
theorem bU.P6 {w:World} {A:Option Addr} {n c:Nat} {s:af} (h:bU w A n c s):mU w Cv s [.slice A n c] :=
  ⟨_,rfl,A,n,c,rfl,cE.FP h.rd (Nat.le_refl _) (fun _ _=>trivial),by have:=h.le;simp only [maxLen];omega⟩
theorem JP {w:World} {A:Option Addr} {n c:Nat} {s:af} (h:bU w A n c s) :
    bH (mU (w.alloc (.cells #[.slice A n c] 41)) Cv) (w.alloc (.cells #[.slice A n c] 41)) Cv 1 (some ⟨w.heap.size,0,none⟩) 1 [s]:=by
 have hb:=(Below.refl w.heap.size w).alloc (Nat.le_refl _) (.cells #[.slice A n c] 41);refine⟨[[.slice A n c]],rfl,rfl,?_,by simp,cE.new 41 [.slice A n c] rfl trivial⟩;intro i a cs ha hc;rcases i with _ | i
 ·simp at ha hc;subst ha hc;exact(h.below hb).P6
 simp at ha
theorem Lg {w:World} {A B:Option Addr} {n c m d:Nat} {a b:af} (ha:bU w A n c a) (hb:bU w B m d b) :
    bH (mU (w.alloc (.cells #[.slice A n c,.slice B m d] 41)) Cv) (w.alloc (.cells #[.slice A n c,.slice B m d] 41)) Cv 1 (some ⟨w.heap.size,0,none⟩) 2 [a,b]:=by
 have dV:=(Below.refl w.heap.size w).alloc (Nat.le_refl _) (.cells #[.slice A n c,.slice B m d] 41);refine⟨[[.slice A n c],[.slice B m d]],rfl,rfl,?_,by simp,cE.new 41 [.slice A n c,.slice B m d] rfl trivial⟩;intro i x cs hx hc;match i with
 | 0=>simp at hx hc;subst hx hc;exact(ha.below dV).P6
 | 1=>simp at hx hc;subst hx hc;exact(hb.below dV).P6
 | i+2=>simp at hx
theorem vZ {w:World} {A:Option Addr} {n c:Nat} {s:af} (h:bU w A n c s) :
    Calls Tryz.prog 50 #[.slice (some ⟨w.heap.size,0,none⟩) 1 1] (w.alloc (.cells #[.slice A n c] 41)) fun e w'=>e=.returned (.int .i64 0)∧Below w.heap.size w w' :=
  (uH Cv [s] _ 1 1 _ (by decide) (by simpa using h.right) (JP h)).mono fun _ _ ⟨he,hb⟩=>⟨he,((Below.refl _ _).alloc (Nat.le_refl _) _).trans (hb.mono (by simp))⟩
theorem j4 {w:World} {A B:Option Addr} {n c m d:Nat} {a b:af} (ha:bU w A n c a) (hb:bU w B m d b) :
    Calls Tryz.prog 50 #[.slice (some ⟨w.heap.size,0,none⟩) 2 2] (w.alloc (.cells #[.slice A n c,.slice B m d] 41)) fun e w'=>e=.returned (.int .i64 0)∧Below w.heap.size w w' :=
  (uH Cv [a,b] _ 2 2 _ (by decide) (by simpa using ⟨ha.right,hb.right⟩) (Lg ha hb)).mono fun _ _ ⟨he,hb⟩=>⟨he,((Below.refl _ _).alloc (Nat.le_refl _) _).trans (hb.mono (by simp))⟩
theorem tN {w:World} {A B:Option Addr} {n c m d:Nat} {a b:af} (ha:bU w A n c a) (hb:bU w B m d b) :
    Calls Tryz.prog 105 #[.slice (some ⟨w.heap.size,0,none⟩) 2 2] (w.alloc (.cells #[.slice A n c,.slice B m d] 41)) fun e w'=>
      ∃ A' c' k,e=.returned (.slice A' k c')∧k≤1000∧jz w' w'.heap.size A' k (a++b)∧Below w.heap.size w w':=by
 have dV:=(Below.refl w.heap.size w).alloc (Nat.le_refl _) (.cells #[.slice A n c,.slice B m d] 41);have hf : [a,b].flatten=a++b:=(by simp)
 have h:=zZ [a,b] [.slice A n c,.slice B m d] (some ⟨w.heap.size,0,none⟩) 2 2 (w.alloc (.cells #[.slice A n c,.slice B m d] 41)) rfl
   (by have:=Rd.new w 41 1 2 [.slice A n c,.slice B m d] rfl;simpa using this)
   (by
     intro i l u hl hu
     match i with
     | 0=>simp at hl hu;subst hl hu;exact⟨A,n,c,rfl,(ha.below dV).rd⟩
     | 1=>simp at hl hu;subst hl hu;exact⟨B,m,d,rfl,(hb.below dV).rd⟩
     | i+2=>simp at hl)
   (by rw [hf,List.length_append];have:=ha.right.size;have:=hb.right.size;omega) (by decide)
 rw [hf]at h;refine h.mono ?_;rintro e w' ⟨⟨v,rfl,ho⟩,aP⟩;obtain⟨A',c',rfl,_⟩:=aI ho;exact⟨A',c',_,rfl,by rw [List.length_append];have:=ha.right.size;have:=hb.right.size;omega,Rd.ck ho,dV.trans (aP.mono (by simp))⟩
theorem oO (A B:Option Addr) (n c m d:Nat) (a b:af) (w:World) (ha:bU w A n c a) (hb:bU w B m d b) :
    Calls Tryz.prog 81 #[.slice A n c,.slice B m d] w (bR w (mJ 124 a b)):=by
 have HA:=qqh ha;have HB:=qqh hb;clear ha hb;go_enter Tryz.func81,Tryz.ntmps81;go_wp2_with fail;refine(j4 HA.out HB.out).mono ?_;rintro e w1 ⟨rfl,aP⟩;have oG:=qqh (HA.out.below aP);have bI:=qqh (HB.out.below aP);have tV:=qqh aP;clear aP;go_wp2_with fail;refine(tN oG.out bI.out).mono ?_;rintro e w2 ⟨A2,c2,k,rfl,hlen,hrd,aR⟩;have Ea:=qqh (tV.out.trans (aR.mono tV.out.size));have HO:=qqh (NF A2 k c2 (a++b) w2 hlen (fun x hx=>by
  rcases List.mem_append.1 hx with h | h;exact HA.out.right.each x h;exact HB.out.right.each x h) hrd)
 clear hrd aR;go_wp2_with fail;refine HO.out.mono ?_;rintro e w3 ⟨l',hp,T5,A3,n3,c3,rfl,h1,h2,h3,h4⟩;rw [← LB HA.out.right HB.out.right hp T5]at h1 ⊢;have H1:=qqh (h1.lift (X':=fun b=>w.heap.size≤b) (fun _ h=>Nat.le_trans Ea.out.size h));have H4:=qqh (Ea.out.trans (h4.mono Ea.out.size));clear h1 h4 hp T5 HO;go_wp2_with fail;go_ret2;exact⟨A3,n3,c3,rfl,H1.out,h2,h3,H4.out⟩
theorem xd (A B:Option Addr) (n c m d:Nat) (a b:af) (w:World) (ha:bU w A n c a) (hb:bU w B m d b) :
    Calls Tryz.prog 83 #[.slice A n c,.slice B m d] w (bR w (mJ 38 a b)):=by
 have HA:=qqh ha;have HB:=qqh hb;clear ha hb;rw [Nz HA.out.right HB.out.right];go_enter Tryz.func83,Tryz.ntmps83;go_wp2_with fail;refine(j4 HA.out HB.out).mono ?_;rintro e w1 ⟨rfl,aP⟩;have HM:=qqh (yQ A B n m c d a b w1 (by have:=HA.out.le;have:=HB.out.le;omega) HA.out.cap HB.out.cap HA.out.right.canon HB.out.right.canon (HA.out.below aP).rd (HB.out.below aP).rd);have tV:=qqh aP;clear aP;go_wp2_with fail;refine HM.out.mono ?_;rintro e w3 ⟨A3,n3,c3,rfl,iY,My,kN,bL⟩;have bF:=qqh (tV.out.trans (bL.mono tV.out.size));have HT:=qqh (fun(e:Ending) (w':World) h=>show bR w (tT (dy a b)) e w' from bR.u7 (iY.lift (X':=fun b=>w.heap.size≤b) (fun _ h=>Nat.le_trans tV.out.size h)) kN bF.out h);clear iY bL;go_wp2_with fail;refine(mW A3 n3 c3 w3).mono ?_;rintro e w4 he;obtain⟨A5,n5,c5,rfl,h5⟩:=HT.out e w4 he;have H5:=qqh h5;clear h5 he HT;go_wp2_with fail;go_ret2;exact⟨A5,n5,c5,rfl,H5.out⟩
theorem Ez (A B:Option Addr) (n c m d:Nat) (a b:af) (w:World) (ha:bU w A n c a) (hb:bU w B m d b) :
    Calls Tryz.prog 84 #[.slice A n c,.slice B m d] w (bR w (mJ 45 a b)):=by
 have HA:=qqh ha;have HB:=qqh hb;clear ha hb;rw [Kj HA.out.right HB.out.right];go_enter Tryz.func84,Tryz.ntmps84;go_wp2_with fail;refine(j4 HA.out HB.out).mono ?_;rintro e w1 ⟨rfl,aP⟩;have oG:=qqh (HA.out.below aP);have HN:=qqh (Bu B m d b w1 HB.out.le HB.out.right (HB.out.below aP).rd);have tV:=qqh aP;clear aP;go_wp2_with fail;refine HN.out.mono ?_;rintro e w2 ⟨A2,n2,c2,rfl,iI,hn2,hc2,aR⟩;have bw:=qqh (tV.out.trans (aR.mono tV.out.size));have HM:=qqh (yQ A A2 n n2 c c2 a (wI b) w2 (by have:=HA.out.le;omega) HA.out.cap hc2 HA.out.right.canon (AQ HB.out.right.canon).1 (oG.out.below aR).rd iI.of);clear iI aR;go_wp2_with fail;refine HM.out.mono ?_;rintro e w3 ⟨A3,n3,c3,rfl,iY,My,kN,bL⟩;have bF:=qqh (bw.out.trans (bL.mono bw.out.size));have HT:=qqh (fun(e:Ending) (w':World) h=>show bR w (tT (dy a (wI b))) e w' from bR.u7 (iY.lift (X':=fun b=>w.heap.size≤b) (fun _ h=>Nat.le_trans bw.out.size h)) kN bF.out h);clear iY bL;go_wp2_with fail;refine(mW A3 n3 c3 w3).mono ?_;rintro e w4 he;obtain⟨A5,n5,c5,rfl,h5⟩:=HT.out e w4 he;have H5:=qqh h5;clear h5 he HT;go_wp2_with fail;go_ret2;exact⟨A5,n5,c5,rfl,H5.out⟩
theorem zW (A:Option Addr) (n c:Nat) (a b:af) (w:World) (ha:bU w A n c a) :
    Calls Tryz.prog 86 #[.slice A n c] w (bR w (mJ 94 a b)):=by
 have HA:=qqh ha;clear ha;rw [Mh HA.out.right b];go_enter Tryz.func86,Tryz.ntmps86;go_wp2_with fail;refine(vZ HA.out).mono ?_;rintro e w1 ⟨rfl,aP⟩;have HN:=qqh (Bu A n c a w1 HA.out.le HA.out.right (HA.out.below aP).rd);have tV:=qqh aP;clear aP;go_wp2_with fail;refine HN.out.mono ?_;rintro e w3 ⟨A3,n3,c3,rfl,iY,My,kN,bL⟩;have bF:=qqh (tV.out.trans (bL.mono tV.out.size));have HT:=qqh (fun(e:Ending) (w':World) h=>show bR w (tT (wI a)) e w' from bR.u7 (iY.lift (X':=fun b=>w.heap.size≤b) (fun _ h=>Nat.le_trans tV.out.size h)) kN bF.out h);clear iY bL;go_wp2_with fail;refine(mW A3 n3 c3 w3).mono ?_;rintro e w4 he;obtain⟨A5,n5,c5,rfl,h5⟩:=HT.out e w4 he;have H5:=qqh h5;clear h5 he HT;go_wp2_with fail;go_ret2;exact⟨A5,n5,c5,rfl,H5.out⟩
theorem cK (w:World) (C:Nat) (A:Option Addr) (n c:Nat) (L:List Int) (i:Nat) (h:av w C A n c L i) :
    Calls Tryz.prog 34 #[.pointer (some ⟨C,0,none⟩)] w fun e w'=>e=.returned (.int .i32 (pk L i))∧av w' C A n c L i∧bJ w C w' :=
  (lJ w C A n c L i h).mono fun e w' ⟨he,m,hw⟩=>⟨he,by rw [hw];exact h.drewN m,by rw [hw];exact bJ.drewN w C m⟩
theorem lN (w:World) (C:Nat) (A:Option Addr) (n c:Nat) (L:List Int) (i k:Nat) (h:av w C A n c L i) (hk:k≤1000) :
    Calls Tryz.prog 53 #[.pointer (some ⟨C,0,none⟩),.int .i64 k] w fun e w'=>e=.returned (.int .i32 (pk L (i+k)))∧av w' C A n c L i∧bJ w C w' :=
  (Bf w C A n c L i k h hk).mono fun e w' ⟨he,m,hw⟩=>⟨he,by rw [hw];exact h.drewN m,by rw [hw];exact bJ.drewN w C m⟩
def ef (w:World) (C:Nat) (A:Option Addr) (n c:Nat) (L:List Int) (r:jN af) (e:Ending) (w':World):Prop :=
  match r with
  | .ok (s,j)=>(∃ B m d,e=.returned (.slice B m d)∧cE w' (fun b=>w.heap.size≤b) 2 B m (ak s)∧m≤d)∧av w' C A n c L j∧bJ w C w'
  | .error (x,p)=>e=aS x p∧bJ w C w'
def jy (L:List Int) (i:Nat):jN af:=match i6 L i with
  | .error e=>.error e
  | .ok (x,j)=>.ok ([x],j)
theorem KQ {L:List Int} {i:Nat} {e:Int × Nat} (h:cQ L i=.error e):jy L i=.error e:=by unfold jy i6;rw [h]
theorem yt {L:List Int} {i j:Nat} {x:Int} (h:cQ L i=.ok (x,j)) (h2:¬(pk L j=45∧pk L (j+1)≠91)):jy L i=.ok ([(x,x)],j):=by unfold jy i6;rw [h];simp only;rw [if_neg h2]
theorem Li {L:List Int} {i j:Nat} {x:Int} {e:Int × Nat} (h:cQ L i=.ok (x,j)) (h2:pk L j=45∧pk L (j+1)≠91) (h3:cQ L (j+1)=.error e):jy L i=.error e:=by
 unfold jy i6;rw [h];simp only;rw [if_pos h2,h3]
theorem Kr {L:List Int} {i j k:Nat} {x y:Int} (h:cQ L i=.ok (x,j)) (h2:pk L j=45∧pk L (j+1)≠91) (h3:cQ L (j+1)=.ok (y,k)) (h4:y<x):jy L i=.error (3,j+1):=by
 unfold jy i6;rw [h];simp only;rw [if_pos h2,h3];simp only;rw [if_pos h4]
theorem Gr {L:List Int} {i j k:Nat} {x y:Int} (h:cQ L i=.ok (x,j)) (h2:pk L j=45∧pk L (j+1)≠91) (h3:cQ L (j+1)=.ok (y,k)) (h4:¬ y<x):jy L i=.ok ([(x,y)],k):=by
 unfold jy i6;rw [h];simp only;rw [if_pos h2,h3];simp only;rw [if_neg h4]
theorem rA {w W:World} {C:Nat} {A:Option Addr} {n c:Nat} {L:List Int} {j:Nat} (x y:Int) (h:av W C A n c L j) (hb:bJ w C W) :
    ef w C A n c L (.ok ([(x,y)],j)) (.returned (.slice (some ⟨W.heap.size,0,none⟩) 1 1)) (W.alloc (.cells #[.int .i32 x,.int .i32 y] 77)) :=
  ⟨⟨_,1,1,rfl,cE.new 77 [.int .i32 x,.int .i32 y] rfl hb.1,Nat.le_refl _⟩,h.below ((Below.refl _ _).alloc (Nat.le_refl _) _),hb.trans (bJ.below C ((Below.refl _ _).alloc (Nat.le_refl _) _))⟩
theorem LZ (w:World) (C:Nat) (A:Option Addr) (n c:Nat) (L:List Int) (i:Nat) (h:av w C A n c L i) (hL:fP L) :
    Calls Tryz.prog 85 #[.pointer (some ⟨C,0,none⟩)] w (ef w C A n c L (jy L i)):=by
 have hs:=h.size;have hlen:=h.len;have HC:=qqh h;have gP:=qqh (fun(W:World) (k:Nat) (h:av W C A n c L k)=>cK W C A n c L k h);have Mm:=qqh (fun(W:World) (k:Nat) (h:av W C A n c L k)=>lN W C A n c L k 1 h (by decide));have GO:=qqh (fun(W:World) (k:Nat) (h:av W C A n c L k)=>CR W C A n c L k h hL);have Dq:=qqh hL.ok;clear h hL;obtain⟨R,hR⟩:∃ R,jy L i=R:=⟨_,rfl⟩;rw [hR];have fB:=qqh hR;clear hR;have H1:=qqh (GO.out w i HC.out);cases h1:cQ L i with
 | error e0=>
  obtain⟨x,p⟩:=e0;rw [h1]at H1;have HR:=qqh (fB.out.symm.trans (KQ h1));clear h1;go_enter Tryz.func85,Tryz.ntmps85;go_wp2_with fail;refine H1.out.mono ?_;rintro e w5 ⟨he,hb⟩;unfold aS at he;subst he;have dN:=qqh hb;clear hb;go_wp2_with fail;rw [HR.out];exact⟨rfl,rfl,dN.out⟩
 | ok q=>
  obtain⟨x,j⟩:=q;rw [h1]at H1;have jq:=qqh h1;obtain⟨_,hx0,hx1⟩:=mP Dq.out h1;clear h1;by_cases hd:pk L j=45
  ·have BP:j<n:=(by rw [← hlen];exact bB (by omega));have rL:=qqh (fun(W:World) (h:av W C A n c L j)=>show Calls Tryz.prog 34 #[.pointer (some ⟨C,0,none⟩)] W fun e w'=>e=.returned (.int .i32 45)∧av w' C A n c L j∧bJ W C w' by have:=gP.out W j h;rwa [hd]at this);by_cases hb:pk L (j+1)=91
   ·have HR:=qqh (fB.out.symm.trans (yt jq.out (fun h=>h.2 hb)));have KZ:=qqh (fun(W:World) (h:av W C A n c L j)=>show Calls Tryz.prog 53 #[.pointer (some ⟨C,0,none⟩),.int .i64 1] W fun e w'=>e=.returned (.int .i32 91)∧av w' C A n c L j∧bJ W C w' by have:=Mm.out W j h;rwa [hb]at this);clear hd hb;go_enter Tryz.func85,Tryz.ntmps85;go_wp2_with fail;refine H1.out.mono ?_;rintro e w5 ⟨rfl,hc,hb⟩;have tA:=qqh hc;have dN:=qqh hb;clear hb hc;go_wp2_with fail;refine(rL.out _ tA.out).mono ?_;rintro e w6 ⟨rfl,hc,hb⟩;have Ip:=qqh hc;have fC:=qqh (dN.out.trans hb);clear hb hc;go_wp2_with fail;refine(KZ.out _ Ip.out).mono ?_;rintro e w7 ⟨rfl,hc,hb⟩;have Jg:=qqh hc;have kV:=qqh (fC.out.trans hb);clear hb hc;go_wp2_with fail;go_ret;rw [HR.out];exact rA x x Jg.out kV.out
   have KZ:=qqh (fun(W:World) (h:av W C A n c L j)=>Mm.out W j h);have hq:(pk L (j+1) != 91)=true:=(by simp;exact hb);have Xx:=qqh (And.intro hd hb);generalize pk L (j+1)=r2 at hq KZ;have H2:=qqh (fun(W:World) (h:av W C A n c L (j+1))=>GO.out W (j+1) h);have hcast:((j+1:Nat):Int)=(j:Int)+1:=(by omega);have hw1:IntKind.i64.wrap ((j:Int)+1)=(j:Int)+1:=wrap_small _ (by omega) (by omega);clear hd hb;cases h2:cQ L (j+1)with
   | error e0=>
    obtain⟨x2,p2⟩:=e0;rw [h2]at H2;have HR:=qqh (fB.out.symm.trans (Li jq.out Xx.out h2));clear h2;go_enter Tryz.func85,Tryz.ntmps85;go_wp2_with fail;refine H1.out.mono ?_;rintro e w5 ⟨rfl,hc,hb⟩;have tA:=qqh hc;have dN:=qqh hb;clear hb hc;go_wp2_with fail;refine(rL.out _ tA.out).mono ?_;rintro e w6 ⟨rfl,hc,hb⟩;have Ip:=qqh hc;have fC:=qqh (dN.out.trans hb);clear hb hc;go_wp2_with fail;refine(KZ.out _ Ip.out).mono ?_;rintro e w7 ⟨rfl,hc,hb⟩;have Jg:=qqh hc;have kV:=qqh (fC.out.trans hb);clear hb hc;obtain⟨d1,d2,d3,d4⟩:=Jg.out.step BP;have Qu:=qqh d3;have xk:=qqh (kV.out.trans d4);clear d3 d4;go_wp2_with fail;refine(H2.out _ Qu.out).mono ?_;rintro e w9 ⟨he,hb⟩;unfold aS at he;subst he;have fe:=qqh (xk.out.trans hb);clear hb;go_wp2_with fail;rw [HR.out];exact⟨rfl,rfl,fe.out⟩
   | ok q=>
    obtain⟨y,k⟩:=q;rw [h2]at H2;have mB:=qqh h2;obtain⟨_,hy0,hy1⟩:=mP Dq.out h2;clear h2;go_enter Tryz.func85,Tryz.ntmps85;go_wp2_with fail;refine H1.out.mono ?_;rintro e w5 ⟨rfl,hc,hb⟩;have tA:=qqh hc;have dN:=qqh hb;clear hb hc;go_wp2_with fail;refine(rL.out _ tA.out).mono ?_;rintro e w6 ⟨rfl,hc,hb⟩;have Ip:=qqh hc;have fC:=qqh (dN.out.trans hb);clear hb hc;go_wp2_with fail;refine(KZ.out _ Ip.out).mono ?_;rintro e w7 ⟨rfl,hc,hb⟩;have Jg:=qqh hc;have kV:=qqh (fC.out.trans hb);clear hb hc;obtain⟨d1,d2,d3,d4⟩:=Jg.out.step BP;have Qu:=qqh d3;have xk:=qqh (kV.out.trans d4);clear d3 d4;go_wp2_with fail;refine(H2.out _ Qu.out).mono ?_;rintro e w9 ⟨rfl,hc,hb⟩;have HC9:=qqh hc;have fe:=qqh (xk.out.trans hb);clear hb hc;by_cases hlt:y<x
    ·have HR:=qqh (fB.out.symm.trans (Kr jq.out Xx.out mB.out hlt));have HF:=qqh (fun(W:World)=>bV 3 ((j:Int)+1) W);go_wp2_with fail;refine(HF.out _).mono ?_;rintro e OJ ⟨rfl,rfl⟩;go_wp2_with fail;rw [HR.out];exact⟨rfl,by rw [aS,hcast],fe.out⟩
    have HR:=qqh (fB.out.symm.trans (Gr jq.out Xx.out mB.out hlt));go_wp2_with fail;go_ret;rw [HR.out];exact rA x y HC9.out fe.out
  have HR:=qqh (fB.out.symm.trans (yt jq.out (fun h=>hd h.1)));have hq:(pk L j == 45)=false:=(by simp;exact hd);go_enter Tryz.func85,Tryz.ntmps85;go_wp2_with fail;refine H1.out.mono ?_;rintro e w5 ⟨rfl,hc,hb⟩;have tA:=qqh hc;have dN:=qqh hb;clear hb hc;go_wp2_with fail;refine(gP.out _ _ tA.out).mono ?_;rintro e w6 ⟨rfl,hc,hb⟩;have Ip:=qqh hc;have fC:=qqh (dN.out.trans hb);clear hb hc;go_wp2_with fail;go_ret;rw [HR.out];exact rA x x Ip.out fC.out
theorem DW {L:List Int} {f j:Nat} (h:pk L (aN L j)≠35):eH L (f+1) j=aN L j:=by rw [eH,if_neg h]
theorem H7 {L:List Int} {f j:Nat} (h:pk L (aN L j)=35):eH L (f+1) j=eH L f (aB pL L (aN L j)):=by rw [eH,if_pos h]
theorem yo (r:Int) (w:World) :
    Calls Tryz.prog 112 #[.int .i32 r] w fun e w'=>e=.returned (.bool (jF r))∧w'=w:=by
 go_enter Tryz.func112,Tryz.ntmps112;go_wp2;(all_goals go_ret);(all_goals refine⟨bg ?_,rfl⟩);(all_goals (rw [Bool.eq_iff_iff];simp [jF];try omega))
theorem i5 (w:World) (C:Nat) (A:Option Addr) (n c:Nat) (L:List Int) (i:Nat) (h:av w C A n c L i) :
    Calls Tryz.prog 33 #[.pointer (some ⟨C,0,none⟩)] w fun e w'=>e=.returned (.tuple #[])∧av w' C A n c L (ay L i)∧bJ w C w':=by
 have hs:=h.size;have hl:=h.len;have HC:=qqh h;clear h;go_enter Tryz.func33,Tryz.ntmps33;go_wp2_with fail;go_loopw [2] (fun _ wr=>∃ f j:Nat,j≤n∧n+1≤f+j∧ay L i=eH L f j∧av wr C A n c L j∧bJ w C wr) (fun _ wr=>n - (match wr.cell? ⟨C,1,none⟩with | some (.int _ j)=>j.toNat | _=>0));(case atStart=>exact⟨L.length+1,i,HC.out.le,by omega,rfl,HC.out,bJ.refl _ _⟩);obtain⟨f0,j,hj,hf,hsp,hc,hb⟩:=hrel;obtain⟨f,rfl⟩:∃ f,f0=f+1:=⟨f0 - 1,by omega⟩;have HJ:=qqh hc;have HB:=qqh hb;have pW:=qqh hsp;have nT:=qqh (hc.blk.cell 1);obtain⟨k,hk⟩:∃ k,aN L j=k:=⟨_,rfl⟩;have HK:=qqh hk;have hjk:j≤k:=(by rw [← hk];exact dY L j);have gP:=qqh (fun(W:World) (m:Nat) (h:av W C A n c L m)=>cK W C A n c L m h);clear hc hb hsp;go_wp2_with fail;refine(ig wr C A n c L j HJ.out).mono ?_;rintro e w1 ⟨rfl,hc1,aP⟩;rw [hk]at hc1;have jq:=qqh hc1;have bI:=qqh (HB.out.trans aP);clear hc1 aP hk;go_wp2_with fail;refine(gP.out _ k jq.out).mono ?_;rintro e w2 ⟨rfl,hc2,aR⟩;have mB:=qqh hc2;have bw:=qqh (bI.out.trans aR);clear hc2 aR;by_cases rF:pk L k=35
 ·have hlt:k<L.length:=bB (by omega);have qw:=qqh (show ay L i=eH L f (aB pL L k) by rw [pW.out,H7 (by rw [HK.out];exact rF),HK.out]);have Pb:=qqh (show k+1≤aB pL L k by rw [dK hlt (by rw [rF];rfl)];exact eI _ _ _);have HLE:=qqh (show aB pL L k≤n by rw [← hl];exact(gV (Nat.le_of_lt hlt)).2);obtain⟨m0,hm0⟩:∃ m0,aB pL L k=m0:=⟨_,rfl⟩;rw [hm0]at qw Pb HLE;have HM:=qqh hm0;rw [rF];clear hm0 rF;go_wp2_with fail;go_loopw [11] (fun _ wy=>∃ m:Nat,k≤m∧m≤n∧m0=aB pL L m∧av wy C A n c L m∧bJ w C wy) (fun _ wy=>n - (match wy.cell? ⟨C,1,none⟩with | some (.int _ j)=>j.toNat | _=>0));(case atStart=>exact⟨k,Nat.le_refl _,by omega,HM.out.symm,mB.out,bw.out⟩);obtain⟨m,hkm,hmn,hrun,Xm,Sa⟩:=hrel;have OW:=qqh Xm;have Y4:=qqh Sa;have XG:=qqh hrun;have PU:=qqh (Xm.blk.cell 1);clear Xm Sa hrun;cases hrem:pL (pk L m)with
  | true=>
   have aaz:m<L.length:=bB (fun e=>by rw [e]at hrem;exact absurd hrem (by decide));have Jo:=qqh (XG.out.trans (dK aaz hrem));have h0:0≤pk L m∧pk L m≠10:=(by simpa [pL] using hrem);have hg0:decide ((0:Int)≤pk L m)=true:=decide_eq_true h0.1;have hg1:(pk L m != 10)=true:=(by simp;exact h0.2);have hwm:IntKind.i64.wrap ((m:Int)+1)=(m:Int)+1:=wrap_small _ (by omega) (by omega);clear hrem h0;go_wp2_with fail;refine(gP.out _ m OW.out).mono ?_;rintro e w3 ⟨rfl,kN,bL⟩;have og:=qqh kN;have bF:=qqh (Y4.out.trans bL);clear kN bL;go_wp2_with fail;refine(gP.out _ m og.out).mono ?_;rintro e w4 ⟨rfl,lF,hb4⟩;have Cs:=qqh lF;have dP:=qqh (bF.out.trans hb4);clear lF hb4;obtain⟨d1,d2,d3,d4⟩:=Cs.out.step (by omega);have tj:=qqh d3;have dN:=qqh (dP.out.trans d4);clear d3 d4;go_wp2_with fail;refine⟨⟨m+1,by omega,by omega,Jo.out,tj.out,dN.out⟩,?_⟩;have e1:(w4.setCell ⟨C,1,none⟩ (.int .i64 ((m:Int)+1))).cell? ⟨C,1,none⟩=some (.int .i64 ((m+1:Nat):Int)):=tj.out.blk.cell 1;have e2:wr.cell? ⟨C,1,none⟩=some (.int .i64 (m:Int)):=PU.out;rw [e1,e2];simp only [Int.toNat_natCast];omega
  | false=>
   obtain rfl:m0=m:=XG.out.trans (cI (fun _=>hrem));have hor:pk L m0<0∨(0≤pk L m0∧pk L m0=10):=by
    simp [pL]at hrem;by_cases h:pk L m0<0;exact .inl h;exact .inr ⟨by omega,hrem (by omega)⟩
   have hge:=Pb.out;clear hrem XG;rcases hor with h0 | ⟨_,h0⟩
   ·go_wp2_with fail;refine(gP.out _ m0 OW.out).mono ?_;rintro e w3 ⟨rfl,kN,bL⟩;have og:=qqh kN;have bF:=qqh (Y4.out.trans bL);clear kN bL;go_wp2_with fail;refine⟨⟨f,m0,hmn,by omega,qw.out,og.out,bF.out⟩,?_⟩;rw [og.out.blk.cell 1,nT.out];simp only [Int.toNat_natCast,List.getElem?_toArray,List.getElem?_cons_succ,List.getElem?_cons_zero];omega
   go_wp2_with fail;refine(cK _ C A n c L m0 OW.out).mono ?_;rintro e w3 ⟨rfl,kN,bL⟩;rw [h0];have og:=qqh kN;have bF:=qqh (Y4.out.trans bL);clear kN bL;go_wp2_with fail;refine(cK _ C A n c L m0 og.out).mono ?_;rintro e w4 ⟨rfl,lF,hb4⟩;rw [h0];have Cs:=qqh lF;have dP:=qqh (bF.out.trans hb4);clear lF hb4;go_wp2_with fail;refine⟨⟨f,m0,hmn,by omega,qw.out,Cs.out,dP.out⟩,?_⟩;rw [Cs.out.blk.cell 1,nT.out];simp only [Int.toNat_natCast,List.getElem?_toArray,List.getElem?_cons_succ,List.getElem?_cons_zero];omega
 have Co:=qqh (show ay L i=k by rw [pW.out,DW (by rw [HK.out];exact rF),HK.out]);have hq:(pk L k != 35)=true:=(by simp;exact rF);clear rF;go_wp2_with fail;(try simp only [Exit.inBlock,Exit.then]);refine bodyPost_ret (results_none rfl _ _ _) rfl ?_;rw [Co.out];exact⟨rfl,mB.out,bw.out⟩
def Ma {α:Type} (V:α→Value) (w:World) (C:Nat) (A:Option Addr) (n c:Nat) (L:List Int) (r:jN α) (e:Ending) (w':World):Prop :=
  match r with
  | .ok (d,j)=>e=.returned (V d)∧av w' C A n c L j∧bJ w C w'
  | .error (x,p)=>e=aS x p∧bJ w C w'
theorem Jz (w:World) (C:Nat) (A:Option Addr) (n c:Nat) (L:List Int) (i:Nat) (h:av w C A n c L i) :
    Calls Tryz.prog 61 #[.pointer (some ⟨C,0,none⟩)] w (Ma (Value.int .i64) w C A n c L (eG L i)):=by
 have hs:=h.size;have hl:=h.len;have hle:=h.le;have HC:=qqh h;have gP:=qqh (fun(W:World) (m:Nat) (h:av W C A n c L m)=>cK W C A n c L m h);have Mm:=qqh (fun(W:World) (h:av W C A n c L i)=>lN W C A n c L i 1 h (by decide));have hw1:IntKind.i64.wrap ((i:Int)+1)=(i:Int)+1:=wrap_small _ (by omega) (by omega);have xP:IntKind.i64.wrap ((i:Int)+2)=(i:Int)+2:=wrap_small _ (by omega) (by omega);clear h;obtain⟨R,hR⟩:∃ R,eG L i=R:=⟨_,rfl⟩;rw [hR];have fB:=qqh hR;clear hR;by_cases Hy:pk L i=62
 ·have iR:=qqh (show R=.ok (1,i+1) by rw [← fB.out];unfold eG;rw [if_pos Hy]);have hlt:i<L.length:=bB (by omega);go_enter Tryz.func61,Tryz.ntmps61;go_wp2_with fail;refine(gP.out _ i HC.out).mono ?_;rintro e w1 ⟨rfl,hc1,aP⟩;rw [Hy];have jq:=qqh hc1;have bI:=qqh aP;clear hc1 aP Hy;obtain⟨d1,d2,d3,d4⟩:=jq.out.step (by omega);have tj:=qqh d3;have dN:=qqh (bI.out.trans d4);clear d3 d4;go_wp2_with fail;go_ret;rw [iR.out];exact⟨rfl,tj.out,dN.out⟩
 have q62:(pk L i == 62)=false:=(by rw [beq_eq_false_iff_ne];exact Hy);by_cases yU:pk L i=60
 ·have hlt:i<L.length:=bB (by omega);by_cases h2:pk L (i+1)=62
  ·have iR:=qqh (show R=.ok (3,i+2) by rw [← fB.out];unfold eG;rw [if_neg Hy,if_pos ⟨yU,h2⟩]);have hlt2:i+1<L.length:=bB (by omega);go_enter Tryz.func61,Tryz.ntmps61;go_wp2_with fail;refine(gP.out _ i HC.out).mono ?_;rintro e w1 ⟨rfl,hc1,aP⟩;have jq:=qqh hc1;have bI:=qqh aP;clear hc1 aP;go_wp2_with fail;refine(gP.out _ i jq.out).mono ?_;rintro e w2 ⟨rfl,hc2,aR⟩;rw [yU];have mB:=qqh hc2;have bw:=qqh (bI.out.trans aR);clear hc2 aR;go_wp2_with fail;refine(Mm.out _ mB.out).mono ?_;rintro e w3 ⟨rfl,kN,bL⟩;rw [h2];have og:=qqh kN;have bF:=qqh (bw.out.trans bL);clear kN bL;have d1:=og.out.blk.cell 1;have d2:=og.out.blk.frozen 1;have hm:=og.out.move (j:=i+2) (by omega);rw [show(((i+2:Nat)):Int)=(i:Int)+2 by omega]at hm;have tj:=qqh hm;have dN:=qqh (bF.out.trans (bJ.set w3 C 1 (.int .i64 ((i:Int)+2))));clear hm;go_wp2_with fail;go_ret;rw [iR.out];exact⟨rfl,tj.out,dN.out⟩
  have q2:(pk L (i+1) == 62)=false:=(by rw [beq_eq_false_iff_ne];exact h2);have iR:=qqh (show R=.ok (2,i+1) by rw [← fB.out];unfold eG;rw [if_neg Hy,if_neg (fun h=>h2 h.2)];unfold aQ;rw [if_pos yU]);have I8:=qqh (fun(W:World) (h:av W C A n c L i)=>show Calls Tryz.prog 36 #[.pointer (some ⟨C,0,none⟩),.int .i32 60] W fun e w'=>e=.returned (.tuple #[])∧av w' C A n c L (i+1)∧bJ W C w' by have:=eS W C A n c L i 60 h (by decide);rwa [show aQ L i 60=.ok (i+1) by unfold aQ;rw [if_pos yU]]at this);go_enter Tryz.func61,Tryz.ntmps61;go_wp2_with fail;refine(gP.out _ i HC.out).mono ?_;rintro e w1 ⟨rfl,hc1,aP⟩;have jq:=qqh hc1;have bI:=qqh aP;clear hc1 aP;go_wp2_with fail;refine(gP.out _ i jq.out).mono ?_;rintro e w2 ⟨rfl,hc2,aR⟩;rw [yU];have mB:=qqh hc2;have bw:=qqh (bI.out.trans aR);clear hc2 aR;go_wp2_with fail;refine(Mm.out _ mB.out).mono ?_;rintro e w3 ⟨rfl,kN,bL⟩;have og:=qqh kN;have bF:=qqh (bw.out.trans bL);clear kN bL;go_wp2_with fail;refine(I8.out _ og.out).mono ?_;rintro e w4 ⟨rfl,lF,hb4⟩;have Cs:=qqh lF;have dP:=qqh (bF.out.trans hb4);clear lF hb4;go_wp2_with fail;go_ret;rw [iR.out];exact⟨rfl,Cs.out,dP.out⟩
 have q60:(pk L i == 60)=false:=(by rw [beq_eq_false_iff_ne];exact yU);have iR:=qqh (show R=.error (2,i) by rw [← fB.out];unfold eG;rw [if_neg Hy,if_neg (fun h=>yU h.1)];unfold aQ;rw [if_neg yU]);have I8:=qqh (fun(W:World) (h:av W C A n c L i)=>show Calls Tryz.prog 36 #[.pointer (some ⟨C,0,none⟩),.int .i32 60] W fun e w'=>e=aS 2 i∧bJ W C w' by have:=eS W C A n c L i 60 h (by decide);rwa [show aQ L i 60=.error (2,i) by unfold aQ;rw [if_neg yU]]at this);go_enter Tryz.func61,Tryz.ntmps61;go_wp2_with fail;refine(gP.out _ i HC.out).mono ?_;rintro e w1 ⟨rfl,hc1,aP⟩;have jq:=qqh hc1;have bI:=qqh aP;clear hc1 aP;go_wp2_with fail;refine(gP.out _ i jq.out).mono ?_;rintro e w2 ⟨rfl,hc2,aR⟩;have mB:=qqh hc2;have bw:=qqh (bI.out.trans aR);clear hc2 aR;go_wp2_with fail;refine(I8.out _ mB.out).mono ?_;rintro e w4 ⟨he,hb4⟩;unfold aS at he;subst he;have dP:=qqh (bw.out.trans hb4);clear hb4;go_wp2_with fail;rw [iR.out];exact⟨rfl,rfl,dP.out⟩
def P8 (r:Int):Bool:=jF r || AB r
theorem Ee {L:List Int} {i:Nat} (h:jF (pk L i)=false):aZ L i=i:=by unfold aZ;rw [h];rfl
theorem Di {L:List Int} {i:Nat} (h:jF (pk L i)=true):aZ L i=aB P8 L (i+1):=by
 have hlt:i<L.length:=bB (fun e=>by rw [e]at h;exact absurd h (by decide));unfold aZ;rw [if_pos h];exact dK (p:=P8) hlt (by unfold P8;rw [h];rfl)
def I9 (L:List Int) (i j:Nat):Prop:=j=i∨(i<j∧aZ L i=aB P8 L j)
theorem I9.next {L:List Int} {i j:Nat} (h:I9 L i j) (hj:jF (pk L j)=true∨(i<j∧AB (pk L j)=true)):I9 L i (j+1):=by
 have hl:P8 (pk L j)=true:=by
  unfold P8;rcases hj with h | h
  ·rw [h];rfl
  rw [h.2,Bool.or_true]
 have hlt:j<L.length:=bB (fun e=>by rw [e]at hl;exact absurd hl (by decide));rcases h with rfl | ⟨h1,h2⟩
 ·rcases hj with h | h;exact .inr ⟨by omega,Di h⟩;omega
 exact .inr ⟨by omega,h2.trans (dK hlt hl)⟩
theorem I9.done {L:List Int} {i j:Nat} (h:I9 L i j) (h1:jF (pk L j)=false) (h2:i<j→AB (pk L j)=false):aZ L i=j:=by
 rcases h with rfl | ⟨h3,h4⟩;exact Ee h1;rw [h4];exact cI (fun _=>by unfold P8;rw [h1,h2 h3];rfl)
theorem qn (w:World) (C:Nat) (A:Option Addr) (n c:Nat) (L:List Int) (i:Nat) (h:av w C A n c L i) (h0:0<n) :
    Calls Tryz.prog 55 #[.pointer (some ⟨C,0,none⟩)] w fun e w'=>e=.returned (.string (gL L i))∧av w' C A n c L (aZ L i)∧bJ w C w':=by
 have hs:=h.size;have hl:=h.len;have hi:=h.le;obtain⟨b,off,rfl,_,_⟩:=h.at h0;have HC:=qqh h;have gP:=qqh (fun(W:World) (m:Nat) (h:av W C (some ⟨b,off,none⟩) n c L m)=>cK W C (some ⟨b,off,none⟩) n c L m h);have c1:=h.blk.cell 1;clear h;go_enter Tryz.func55,Tryz.ntmps55;go_upto_block 0 with (go_at_call 34;refine(gP.out _ i HC.out).mono ?_;rintro e w1 ⟨rfl,hc1,aP⟩);have jq:=qqh hc1;have bI:=qqh aP;clear hc1 aP c1;go_cut [3] (fun v wx=>v=.int .i64 (i:Int)∧av wx C (some ⟨b,off,none⟩) n c L (aZ L i)∧bJ w C wx);case first=>
  go_wp2_with fail;go_loopw [4] (fun v wr=>∃ j:Nat,i≤j∧j≤n∧v=.int .i32 (pk L j)∧I9 L i j∧av wr C (some ⟨b,off,none⟩) n c L j∧bJ w C wr) (fun _ wr=>n - (match wr.cell? ⟨C,1,none⟩with | some (.int _ j)=>j.toNat | _=>0));(case atStart=>exact⟨i,Nat.le_refl _,hi,rfl,.inl rfl,jq.out,bI.out⟩);obtain⟨j,hij,hjn,rfl,VD,sY,zO⟩:=hrel;have HJ:=qqh sY;have HB:=qqh zO;have Qy:=qqh VD;have nT:=qqh (sY.blk.cell 1);have k1:=sY.blk.cell 1;clear sY zO VD;have Bh:=qqh (fun h1 h2=>Qy.out.done h1 h2);have Gg:=qqh (fun hj=>Qy.out.next hj);have wU:=qqh (fun(W:World) (h:av W C (some ⟨b,off,none⟩) n c L (j+1))=>gP.out W (j+1) h);obtain⟨x,hx⟩:∃ x,pk L j=x:=⟨_,rfl⟩;have hjl:0≤x→j<n:=fun h=>(by rw [← hl];exact bB (by rw [hx];omega));rw [hx]at Bh Gg;rw [hx];have hwj:IntKind.i64.wrap ((j:Int)+1)=(j:Int)+1:=wrap_small _ (by omega) (by omega);clear hx;have Um:(jF x=true∧((97≤x∧x≤122)∨x=95))∨(jF x=false∧i<j∧AB x=true∧48≤x∧x≤57)∨(jF x=false∧(i<j→AB x=false)∧(x<48∨(48≤x∧x≤57∧j=i)∨(57<x∧x<95)∨x=96∨122<x)):=by
   by_cases h1:jF x=true;exact .inl ⟨h1,by simpa [jF] using h1⟩;rw [Bool.not_eq_true]at h1;have h2:¬((97≤x∧x≤122)∨x=95):=(by simpa [jF] using h1);right;by_cases h3:i<j∧AB x=true;exact .inl ⟨h1,h3.1,h3.2,by simpa [AB] using h3.2⟩;right;refine⟨h1,fun h4=>by rw [Bool.eq_false_iff];exact fun h5=>h3 ⟨h4,h5⟩,?_⟩;by_cases h4:48≤x∧x≤57
   ·have:¬ i<j:=fun h5=>h3 ⟨h5,by simp [AB,h4]⟩;omega
   omega
  rcases Um with ⟨h1,hr⟩ | ⟨h1,hlt,h2,hr⟩ | ⟨h1,h2,hr⟩
  ·have HN:=qqh (Gg.out (.inl h1));have Oi:j<n:=hjl (by omega);obtain⟨d1,d2,d3,d4⟩:=HJ.out.step Oi;have tj:=qqh d3;have dN:=qqh (HB.out.trans d4);clear d3 d4;rcases hr with ⟨r1,r2⟩ | r1
   all_goals
     go_wp2_with fail
     refine(wU.out _ tj.out).mono ?_
     rintro e w5 ⟨rfl,lD,cY⟩
     have tA:=qqh lD
     have fC:=qqh (dN.out.trans cY)
     clear lD cY
     go_wp2_with fail
     refine⟨⟨j+1,by omega,by omega,rfl,HN.out,tA.out,fC.out⟩,?_⟩
     have e1:w5.cell? ⟨C,1,none⟩=some (.int .i64 ((j+1:Nat):Int)):=tA.out.blk.cell 1
     have e2:wr.cell? ⟨C,1,none⟩=some (.int .i64 (j:Int)):=nT.out
     rw [e1,e2]
     simp only [Int.toNat_natCast]
     omega
  ·have HN:=qqh (Gg.out (.inr ⟨hlt,h2⟩));have Oi:j<n:=hjl (by omega);obtain⟨d1,d2,d3,d4⟩:=HJ.out.step Oi;have tj:=qqh d3;have dN:=qqh (HB.out.trans d4);have hgt:decide ((i:Int)<(j:Int))=true:=decide_eq_true (by omega);clear d3 d4;obtain⟨r1,r2⟩:=hr;go_wp2_with fail;refine(wU.out _ tj.out).mono ?_;rintro e w5 ⟨rfl,lD,cY⟩;have tA:=qqh lD;have fC:=qqh (dN.out.trans cY);clear lD cY;go_wp2_with fail;refine⟨⟨j+1,by omega,by omega,rfl,HN.out,tA.out,fC.out⟩,?_⟩;have e1:w5.cell? ⟨C,1,none⟩=some (.int .i64 ((j+1:Nat):Int)):=tA.out.blk.cell 1;have e2:wr.cell? ⟨C,1,none⟩=some (.int .i64 (j:Int)):=nT.out;rw [e1,e2];simp only [Int.toNat_natCast];omega
  have HE:=qqh (Bh.out h1 h2);clear Bh Gg Qy h1 h2;rcases hr with r1 | ⟨r1,r2,r3⟩ | ⟨r1,r2⟩ | r1 | r1
  all_goals
    have q95:(x == 95)=false:=by rw [beq_eq_false_iff_ne];omega
    by_cases hgt:(i:Int)<(j:Int)
    all_goals first
    | (exfalso;omega)
    | (go_wp2_with fail
       go_meet
       rw [HE.out]
       exact⟨rfl,HJ.out,HB.out⟩)
 obtain⟨rfl,Dt,hbc⟩:=hcut;have HT:=qqh (show gL L i=runesBytes (aM L i (aZ L i)) from rfl);have hir:i≤aZ L i:=by
  unfold aZ;split;exact eI _ _ _;exact Nat.le_refl _
 obtain⟨r,hr⟩:∃ r,aZ L i=r:=⟨_,rfl⟩;rw [hr]at Dt HT hir;have jd:=qqh hr;clear hr;have Ql:=qqh Dt;have Sv:=qqh hbc;have hrn:=Dt.le;have d0:=Dt.blk.cell 0;have d1:=Dt.blk.cell 1;have q6:=wu (Dt.drewN 1) hir hrn;have hk1:(i:Int)≤(r:Int):=(by omega);have hk2:(r:Int)≤(c:Int):=(by have:=Dt.cap;omega);have OY:(0:Int)≤(i:Int):=(by omega);clear Dt hbc jq bI HC;generalize runesBytes (aM L i r)=T at *;go_upto_region 6 with fail;refine az (S:=(fun w'=>w'.cell? ⟨C,0,none⟩=some (.slice (some ⟨b,off,none⟩) n c)∧w'.cell? ⟨C,1,none⟩=some (.int .i64 r)∧(convert 26 9 (.slice (if c=i then some ⟨b,off,none⟩else some ⟨b,off+i,none⟩) (r - i) (c - i))).run Tryz.prog w'=.ok (.string T) w')) [4,10,12] (by kernel_rfl) ⟨d0,d1,q6⟩ (fun bh=>?_);refine tq 0 54 ?_;(try simp only [zp,za,z0,zs]);refine tq 1 55 ?_;(try simp only [zp,za,z0,zs]);refine tq 2 56 ?_;(try simp only [zp,za,z0,zs]);refine tq 3 57 ?_;(try simp only [zp,za,z0,zs]);refine tu 4 58 ?_;(try simp only [zp,za,z0,zs]);refine tq 5 59 ?_;(try simp only [zp,za,z0,zs]);refine tq 6 60 ?_;(try simp only [zp,za,z0,zs]);refine tq 7 61 ?_;(try simp only [zp,za,z0,zs]);refine tq 8 62 ?_;(try simp only [zp,za,z0,zs]);refine tq 9 63 ?_;(try simp only [zp,za,z0,zs]);refine tu 10 64 ?_;(try simp only [zp,za,z0,zs]);refine tq 11 65 ?_;(try simp only [zp,za,z0,zs]);refine tu 12 66 ?_;(try simp only [zp,za,z0,zs]);refine tq 13 2 ?_;(try simp only [zp,za,z0,zs]);refine aJ (by kernel_rfl) ?_ _;generalize (if c=i then some ({ block:=b,off:=off }:Addr)else some { block:=b,off:=off+i })=Z;go_simp;go_wp2_with fail;go_ret;rw [HT.out,jd.out];exact⟨rfl,Ql.out.drewN 1,Sv.out.trans (bJ.drewN wc C 1)⟩
theorem Ge (w:World) (C:Nat) (A:Option Addr) (n c:Nat) (L:List Int) (i:Nat) (h:av w C A n c L i) (h0:0<n) :
    Calls Tryz.prog 59 #[.pointer (some ⟨C,0,none⟩)] w (Ma Value.string w C A n c L (fX L i)):=by
 have HW:=qqh (qn w C A n c L i h h0);have c1:=h.blk.cell 1;have HN:=qqh (show fX L i=if ee (gL L i)=true then .ok (gL L i,aZ L i)else .error (7,i) from rfl);obtain⟨R,hR⟩:∃ R,fX L i=R:=⟨_,rfl⟩;rw [hR];rw [hR]at HN;clear h hR;generalize gL L i=T at *;generalize aZ L i=r at *;have Ej:=qqh (fun(W:World)=>iU T W);cases hnm:ee T with
 | true=>
  rw [hnm]at HN Ej;go_enter Tryz.func59,Tryz.ntmps59;go_wp2_with fail;refine HW.out.mono ?_;rintro e w1 ⟨rfl,hc1,aP⟩;have jq:=qqh hc1;have bI:=qqh aP;clear hc1 aP;go_wp2_with fail;refine(Ej.out _).mono ?_;rintro e w2 ⟨rfl,rfl⟩;go_wp2_with fail;go_ret;rw [HN.out];exact⟨rfl,jq.out,bI.out⟩
 | false=>
  rw [hnm]at HN Ej;go_enter Tryz.func59,Tryz.ntmps59;go_wp2_with fail;refine HW.out.mono ?_;rintro e w1 ⟨rfl,hc1,aP⟩;have jq:=qqh hc1;have bI:=qqh aP;clear hc1 aP;go_wp2_with fail;refine(Ej.out _).mono ?_;rintro e w2 ⟨rfl,rfl⟩;go_wp2_with fail;refine(bV 7 i _).mono ?_;rintro e w3 ⟨rfl,rfl⟩;go_wp2_with fail;rw [HN.out];exact⟨rfl,rfl,bI.out⟩
def Ld (L:List Int) (i:Nat):Bool:=decide (pk L (ay L (aZ L (i+1)))=61)
theorem sZ (w:World) (C:Nat) (A:Option Addr) (n c:Nat) (L:List Int) (i:Nat) (h:av w C A n c L i) (hi:i<n) :
    Calls Tryz.prog 58 #[.pointer (some ⟨C,0,none⟩)] w fun e w'=>e=.returned (.bool (Ld L i))∧Below w.heap.size w w':=by
 have hs:=h.size;have c0:=h.blk.cell 0;have c1:=h.blk.cell 1;have hw1:IntKind.i64.wrap ((i:Int)+1)=(i:Int)+1:=wrap_small _ (by omega) (by omega)
 have HN:=qqh (show av (w.alloc (.cells #[.slice A n c,.int .i64 ((i:Int)+1)] 90)) w.heap.size A n c L (i+1) from
   ⟨⟨_,by rw [show(((i+1:Nat)):Int)=(i:Int)+1 by omega];exact ai.new _ _ _⟩,(h.row.lift (X':=fun _=>True) (fun _ _=>trivial)).keep (aa.alloc _ (fun b _ hl=>Nat.ne_of_lt hl)),h.size,hi,h.cap⟩)
 have HB:=qqh (show Below w.heap.size w (w.alloc (.cells #[.slice A n c,.int .i64 ((i:Int)+1)] 90)) from(Below.refl _ _).alloc (Nat.le_refl _) _);have HV:=qqh (show Ld L i=decide (pk L (ay L (aZ L (i+1)))=61) from rfl);clear h;go_enter Tryz.func58,Tryz.ntmps58;go_wp2_with fail;refine(qn _ w.heap.size A n c L (i+1) HN.out (by omega)).mono ?_;rintro e w1 ⟨rfl,hc1,aP⟩;have jq:=qqh hc1;have bI:=qqh (HB.out.trans (aP.to HB.out.size (Nat.le_refl _)));clear hc1 aP;go_wp2_with fail;refine(i5 _ w.heap.size A n c L _ jq.out).mono ?_;rintro e w2 ⟨rfl,hc2,aR⟩;have mB:=qqh hc2;have bw:=qqh (bI.out.trans (aR.to bI.out.size (Nat.le_refl _)));clear hc2 aR;go_wp2_with fail;refine(cK _ w.heap.size A n c L _ mB.out).mono ?_;rintro e w3 ⟨rfl,kN,bL⟩;have bF:=qqh (bw.out.trans (bL.to bw.out.size (Nat.le_refl _)));clear kN bL;go_wp2_with fail;go_ret;rw [HV.out];exact⟨bg (by first | rfl | (rw [Bool.eq_iff_iff];simp)),bF.out⟩
end Go.Proofs.YthgkedoildcbcaaGreatDoor
