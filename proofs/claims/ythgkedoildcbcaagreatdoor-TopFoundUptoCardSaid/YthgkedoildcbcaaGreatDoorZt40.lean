/- SortSpan + SetFour + CurSpan + RdSpace + RdWord + RdName -/
import Derived.Test.YthgkedoildcbcaaGreatDoorShelf2
import Derived.Test.YthgkedoildcbcaaGreatDoorShelfM
import Derived.Test.YthgkedoildcbcaaGreatDoorZt11
import Derived.Test.YthgkedoildcbcaaGreatDoorZt21
import Derived.Test.YthgkedoildcbcaaGreatDoorZt14
import Derived.Test.YthgkedoildcbcaaGreatDoorZt34
import Derived.Test.YthgkedoildcbcaaGreatDoorZt13
set_option maxHeartbeats 6400000
set_option maxRecDepth 100000
namespace Go.Proofs.YthgkedoildcbcaaGreatDoor
open Go.RowKit
def nO (x:Int × Int):List Value:=[.int .i32 x.1,.int .i32 x.2]
def l8 (x y:Int × Int):Int:=Lib.compareInt x.1 y.1
theorem Cp (x y:Int × Int):ltOf l8 x y=decide (x.1<y.1):=by
 unfold ltOf l8 Lib.compareInt;by_cases h1:x.1<y.1
 ·simp [h1]
 by_cases h2:y.1<x.1 <;> simp [h1,h2]
theorem OV:Sort.SWO (ltOf l8) where
  irrefl x:=by rw [Cp];simp
  trans x y z h1 h2:=by rw [Cp]at *;simp at *;omega
  ntrans x y z h1 h2:=by rw [Cp]at *;simp at *;omega
theorem FK (x:Int) (w:World):Calls Tryz.prog 141 #[.int .i32 x] w fun e w'=>e=.returned (.bool false)∧w'=w:=by
 have h:(x != x)=false:=(by simp);go_enter Tryz.func141,Tryz.ntmps141;go_wp2_with fail;go_ret;exact⟨rfl,rfl⟩
theorem MW (x y:Int) (w:World):Calls Tryz.prog 128 #[.int .i32 x,.int .i32 y] w fun e w'=>e=.returned (.int .i64 (Lib.compareInt x y))∧w'=w:=by
 unfold Lib.compareInt;by_cases h1:x<y
 ·rw [if_pos h1];go_enter Tryz.func128,Tryz.ntmps128;go_wp2_with (go_at_call 141;refine(FK _ _).mono ?_;rintro e w' ⟨rfl,rfl⟩);go_ret;exact⟨rfl,rfl⟩
 rw [if_neg h1];by_cases h2:x > y
 ·rw [if_pos h2];go_enter Tryz.func128,Tryz.ntmps128;go_wp2_with (go_at_call 141;refine(FK _ _).mono ?_;rintro e w' ⟨rfl,rfl⟩);go_ret;exact⟨rfl,rfl⟩
 rw [if_neg h2];go_enter Tryz.func128,Tryz.ntmps128;go_wp2_with (go_at_call 141;refine(FK _ _).mono ?_;rintro e w' ⟨rfl,rfl⟩);go_ret;exact⟨rfl,rfl⟩
theorem R9 (x y:Int × Int) (W:World):Calls Tryz.prog 127 #[.agg #[.int .i32 x.1,.int .i32 x.2],.agg #[.int .i32 y.1,.int .i32 y.2]] W fun e w'=>e=.returned (.int .i64 (l8 x y))∧∃ q os',w'=Sort.grow (W.drewN q) os':=by
 have LH:=fun W'=>MW x.1 y.1 W';unfold l8;generalize Lib.compareInt x.1 y.1=r at LH ⊢;go_enter Tryz.func127,Tryz.ntmps127;go_wp2_with (go_at_call 128;refine(LH _).mono ?_;rintro e w' ⟨rfl,rfl⟩);go_ret;exact⟨rfl,0,_,by rw [Sort.alloc_eq_grow,Sort.alloc_eq_grow,Sort.grow_grow];rfl⟩
theorem PW (blk off size:Nat) (w:World):CmpLays Tryz.prog 127 #[] nO 2 l8 blk off size w:=fun _ _ _ _ x y=>R9 x y _
theorem oB (l:ag) (t:Nat) (h:t<l.length*2):(an l)[t]? = some ((nO (l.toArray[t / 2]!))[t % 2]!):=by
 have hk:t / 2<l.length:=(by omega);obtain⟨⟨x,y⟩,hx⟩:∃ z,l[t / 2]? = some z:=⟨_,List.getElem?_eq_getElem hk⟩;obtain⟨c0,c1⟩:=kI l (t / 2) x y hx;have hg:l.toArray[t / 2]! =(x,y):=by
  rw [getElem!_pos l.toArray (t / 2) (by simpa using hk)];simp only [List.getElem_toArray];exact(List.getElem?_eq_some_iff.1 hx).2
 rw [hg];rcases Nat.mod_two_eq_zero_or_one t with h0 | h0
 ·rw [h0];have e:t=t / 2*2:=(by omega);rw [← e]at c0;exact c0
 rw [h0];have e:t=t / 2*2+1:=(by omega);rw [← e]at c1;exact c1
theorem Bt {l:ag} {n:Nat} {d':Array (Int × Int)} (hn:l.length=n) (hp:Sort.PermIn 0 n l.toArray d') (hs:Sort.SortedIn (ltOf l8) 0 n d') :
    d'.size=n∧l.Perm d'.toList∧d'.toList.Pairwise (fun a b=>a.1≤b.1):=by
 obtain⟨h1,_,h3⟩:=hp;have hsz:d'.size=n:=(by rw [h1];simpa using hn);have e1:(d'.extract 0 n).toList=d'.toList:=(by rw [← hsz];simp);have e2:(l.toArray.extract 0 n).toList=l:=(by rw [← hn];simp);rw [e1,e2]at h3;refine⟨hsz,h3.symm,List.pairwise_iff_getElem.2 fun i j hi hj hij=>?_⟩;have hi':i<d'.size:=(by simpa using hi);have hj':j<d'.size:=(by simpa using hj);have:=hs i j (Nat.zero_le _) hij (by omega);rw [Cp,getElem!_pos d' i hi',getElem!_pos d' j hj',decide_eq_false_iff_not]at this;simp only [Array.getElem_toList];omega
theorem qz (w:World) (g m:Nat) (dk:Array (Int × Int)) (os:Array Obj):bP w g (sortWorldK nO 2 w g 0 m dk os):=by
 unfold sortWorldK Sort.putRowK Sort.putRow Sort.mapBlock Sort.grow Sort.ahead;refine⟨by simp,rfl,rfl,rfl,fun k hk hne=>?_⟩;simp only;rw [Array.getElem?_append_left (by simpa using hk),Array.getElem?_modify,if_neg (Ne.symm hne)]
theorem GQ (g n c base:Nat) (l:ag) (w:World) (hn:n≤100000) (hl:l.length=n) (ho:w.ownsRow base 77 2 (.slice (some ⟨g,0,none⟩) n c) n (an l)) :
    Calls Tryz.prog 126 #[.slice (some ⟨g,0,none⟩) n c,.func (.func 127) #[] #[]] w fun e w'=>e=.returned (.tuple #[])∧bP w g w' ∧
      ∃ l',l.Perm l'∧l'.Pairwise (fun a b=>a.1≤b.1)∧nD w' w'.heap.size (some ⟨g,0,none⟩) n l':=by
 have hg:=(aQ ho rfl).2;have hH:Sort.HoldsK nO 2 w g 0 l.toArray:=by
  intro j hj;rw [Sort.size_flatK]at hj;have hj2:j<l.length*2:=(by simpa using hj);rw [Sort.get_flatK _ _ _ _ (by simpa using hj2),Nat.zero_add];refine⟨?_,ho.frozenAt _⟩;rw [ho.cellAt _ (by omega)];exact oB l j hj2
 have hsz:l.toArray.size=n:=(by simpa using hl);have eg:∀ args w,(callFunc 127 args).run Tryz.prog w=.ok (.enter 127 args) w:=enters_of Tryz.func127 (by kernel_rfl) rfl;have LH:=AnyQ.slices_SortFunc Tryz.sortSpan 2 Tryz.isAgg77 Tryz.sizeOf77 nO (fun _=>rfl) (fun x v hv=>by simp [nO]at hv;rcases hv with rfl | rfl <;> rfl) l8 OV 127 #[] g 0 c l.toArray w eg (PW g 0 _ w) hH hg (by rw [hsz];omega);rw [hsz]at LH;refine Calls.mono LH ?_;rintro e w' ⟨rfl,d',m,os,hp,hs,rfl⟩;obtain⟨h1,h2,h3⟩:=Bt hl hp hs;refine⟨rfl,qz _ _ _ _ _,d'.toList,h2,h3,⟨by rw [bE];simp [h1],fun h0=>⟨g,0,rfl,Nat.lt_of_lt_of_le hg (qz w g m d' os).1,fun j u hu=>?_⟩⟩⟩;have hj:j<d'.toList.length*2:=(by have:=(List.getElem?_eq_some_iff.1 hu).1;rwa [bE]at this);rw [oB _ j hj]at hu;have hK:=holdsK_sortWorldK_c nO 2 w g 0 l.toArray d' m os hH hg (by rw [h1,hsz]);have:=(hK j (by rw [Sort.size_flatK];simpa using hj)).1;rw [Sort.get_flatK _ _ _ _ (by simpa using hj)]at this;rw [this];simpa using hu
theorem MF (w:World) :
    Calls Tryz.prog 126 #[.slice none 0 0,.func (.func 127) #[] #[]] w fun e w'=>e=.returned (.tuple #[])∧w'=w:=by
 have H1:=qqh (show Calls Tryz.prog 155 #[.slice none 0 0,.int .i64 0,.int .i64 0,.func (.func 127) #[] #[]] w fun e w'=>e=.returned (.tuple #[])∧w'=w by
  go_enter Tryz.func155,Tryz.ntmps155;go_wp2_with fail;go_loopw [8] (fun i wr=>i=.int .i64 1∧wr=w) (fun _ _=>0);(case atStart=>exact⟨rfl,rfl⟩);obtain⟨rfl,rfl⟩:=hrel;go_wp2_with fail;go_end0;exact⟨rfl,rfl⟩)
 have H2:=qqh (fun(x:Int)=>show Calls Tryz.prog 140 #[.slice none 0 0,.int .i64 0,.int .i64 0,.int .i64 x,.func (.func 127) #[] #[]] w fun e w'=>e=.returned (.tuple #[])∧w'=w by
  go_enter Tryz.func140,Tryz.ntmps140;go_wp2_with fail;go_loopw [1,2,3] (fun a b c wr=>a=.int .i64 0∧b=.int .i64 0∧c=.int .i64 x∧wr=w) (fun _ _ _ _=>0);(case atStart=>exact⟨rfl,rfl,rfl,rfl⟩);obtain⟨rfl,rfl,rfl,rfl⟩:=hrel;go_wp2_with fail;refine H1.out.mono ?_;rintro e w1 ⟨rfl,rfl⟩;go_wp2_with fail;(try simp only [Exit.inBlock,Exit.then]);refine bodyPost_ret (results_none rfl _ _ _) rfl ?_;exact⟨rfl,rfl⟩)
 have H3:=qqh (show Calls Tryz.prog 136 #[.int .u64 0] w fun e w'=>e=.returned (.int .i64 (Lib.bitLen 0:Nat))∧w'=w from Tryz.bits_Len 0 w (by decide) (by decide));go_enter Tryz.func126,Tryz.ntmps126;go_wp2_with (first | (go_at_call 136;refine H3.out.mono ?_;rintro e w1 ⟨rfl,rfl⟩) | (go_at_call 140;refine(H2.out _).mono ?_;rintro e w1 ⟨rfl,rfl⟩));go_end0;exact⟨rfl,rfl⟩
def bV (w:World) (r:ag × Int) (e:Ending) (w':World):Prop:=∃ A' n' c',e=.returned (.tuple #[.slice A' n' c',.int .i64 r.2])∧bW w' (fun b=>w.heap.size≤b) 2 A' n' (an r.1)∧n'≤200∧n'≤c'∧Below w.heap.size w w'
theorem bV.yu {w w1:World} {A:Option Addr} {n c:Nat} {s:ag} {e:Ending} {w':World} (h1:bW w1 (fun b=>w.heap.size≤b) 2 A n (an s)) (hc:n≤c) (hb:Below w.heap.size w w1)
    (he:e=.returned (if 200<n then .tuple #[.slice none 0 0,.int .i64 5]else .tuple #[.slice A n c,.int .i64 0])∧w'=w1):bV w (vP s) e w':=by
 obtain⟨rfl,rfl⟩:=he;have hl:s.length=n:=(by have:=h1.1;rw [bE]at this;omega);unfold vP;rw [hl];by_cases h:200<n
 ·rw [if_pos h,if_pos h];exact⟨none,0,0,rfl,⟨rfl,fun h=>absurd h (by omega)⟩,by omega,by omega,hb⟩
 rw [if_neg h,if_neg h];exact⟨A,n,c,rfl,h1,by omega,hc,hb⟩
theorem bW.lift {w:World} {X X':Nat→Prop} {sz n:Nat} {A:Option Addr} {xs:List Value} (h:bW w X sz A n xs) (hX:∀ b,X b→X' b):bW w X' sz A n xs:=h.keep (af.refl hX)
def Un (w:World) (n:Nat) (i:Value) (wr:World):Prop:=∃ j:Nat,j≤n∧i=.int .i64 j∧Below w.heap.size w wr
def Tm (w:World) (l:ag) (e:Ending) (w':World):Prop:=∃ l',l.Perm l'∧l'.Pairwise (fun a b=>a.1≤b.1)∧bV w (vP (jj l')) e w'
theorem PO (A:Option Addr) (n c:Nat) (l:ag) (w:World) (hn:n≤1000) (hr:qb l) (hl:nD w w.heap.size A n l) :
    Calls Tryz.prog 104 #[.slice A n c] w (Tm w l):=by
 have aV:=qqh hl.len;have HL:=qqh hl;have HR:=qqh hr;clear hl hr;go_enter Tryz.func104,Tryz.ntmps104;go_wp2_with fail;go_loopw [9] (Un w n) (fun i _=>n - (intOf i).toNat);(case atStart=>exact⟨0,Nat.zero_le _,rfl,Below.refl _ _⟩);obtain⟨j,hj,rfl,hb⟩:=hrel;have hz:=hb.size;by_cases hlt:j<n
 ·obtain⟨⟨x,y⟩,hx⟩:∃ z,l[j]? = some z:=⟨_,List.getElem?_eq_getElem (by rw [aV.out];exact hlt)⟩;obtain⟨b,off,rfl,dL,c0,c1⟩:=HL.out.at hx;have d0:=(hb.cell (p:=⟨b,off+j*2,none⟩) dL).trans c0;have d1:=(hb.cell (p:=⟨b,off+j*2+1,none⟩) dL).trans c1;have hxy:=HR.out (x,y) (List.mem_of_getElem? hx);simp only at hxy;have b7:=qqh (hb.alloc hz (.cells #[.int .i32 x,.int .i32 y] 77));have g1:decide (x<0)=false:=decide_eq_false (by omega);have g2:decide (1114111<y)=false:=decide_eq_false (by omega);have g3:decide (y<x)=false:=decide_eq_false (by omega);clear hx c0 c1 hb;go_wp2_with fail;exact⟨⟨j+1,by omega,by go_num,b7.out⟩,by simp [intOf];omega⟩
 obtain rfl:j=n:=(by omega);have vC:=qqh (CG A j c l wr (by omega) ((Rd.below HL.out hb).more hz));have HB:=qqh hb;clear hb;go_wp2_with fail;refine vC.out.mono ?_;rintro e w1 ⟨⟨v,rfl,ho⟩,aW⟩;have b7:=qqh (HB.out.trans (aW.mono hz));have xN:=qqh (iE ho hz);clear aW vC;have HWL:=qqh (aI ho);rcases ho.2 with ⟨rfl,hn0⟩ | ⟨g,cap,cur,rfl,hg,hh,Uu⟩
 ·obtain rfl:j=0:=hn0;have E1:l = []:=List.eq_nil_of_length_eq_zero aV.out;subst E1;clear ho HWL;go_wp2_with fail;refine(MF _).mono ?_;rintro e w2 ⟨rfl,rfl⟩;have HM:=qqh (uX none 0 0 [] w2 (by omega) (by intro x hx;simp at hx) Rd.nil);go_wp2_with fail;refine HM.out.mono ?_;rintro e w3 ⟨A3,n3,c3,rfl,lF,RW,lU,bN⟩;have bL:=qqh (b7.out.trans (bN.mono b7.out.size));have HP:=qqh (fun(e:Ending) (w':World) h=>show bV w (vP (jj [])) e w' from bV.yu (lF.lift (X':=fun b=>w.heap.size≤b) (fun _ h=>Nat.le_trans b7.out.size h)) lU bL.out h);clear lF bN;go_wp2_with fail;refine(oS A3 n3 c3 w3).mono ?_;rintro e w4 he;obtain⟨A5,n5,c5,rfl,h5⟩:=HP.out e w4 he;have H5:=qqh h5;clear h5 he HP;go_wp2_with fail;go_ret2;exact⟨[],List.Perm.nil,List.Pairwise.nil,A5,n5,c5,rfl,H5.out⟩
 have HS:=qqh (GQ g j cap w.heap.size l w1 (by omega) aV.out xN.out);have HGW:=qqh (Nat.le_trans hz hg);clear ho HWL Uu hh hg;go_wp2_with fail;refine HS.out.mono ?_;rintro e w2 ⟨rfl,nN,l',hp,Vr,hrd⟩;have bG:=qqh (b7.out.trans (nN.to b7.out.size HGW.out));have iX:=qqh (show qb l' from fun x hx=>HR.out x (hp.mem_iff.2 hx));have HP:=qqh hp;have Nf:=qqh Vr;have HM:=qqh (uX (some ⟨g,0,none⟩) j cap l' w2 (by omega) iX.out hrd);clear nN hp Vr hrd HS;go_wp2_with fail;refine HM.out.mono ?_;rintro e w3 ⟨A3,n3,c3,rfl,lF,RW,lU,bN⟩;have bL:=qqh (bG.out.trans (bN.mono bG.out.size));have HT:=qqh (fun(e:Ending) (w':World) h=>show bV w (vP (jj l')) e w' from bV.yu (lF.lift (X':=fun b=>w.heap.size≤b) (fun _ h=>Nat.le_trans bG.out.size h)) lU bL.out h);clear lF bN;go_wp2_with fail;refine(oS A3 n3 c3 w3).mono ?_;rintro e w4 he;obtain⟨A5,n5,c5,rfl,h5⟩:=HT.out e w4 he;have H5:=qqh h5;clear h5 he HT;go_wp2_with fail;go_ret2;exact⟨l',HP.out,Nf.out,A5,n5,c5,rfl,H5.out⟩
structure cm (w:World) (A:Option Addr) (n c:Nat) (s:ag):Prop where
  right:aH s
  rd:nD w w.heap.size A n s
  cap:n≤c
theorem cm.below {w w':World} {A:Option Addr} {n c:Nat} {s:ag} (h:cm w A n c s) (hb:Below w.heap.size w w'):cm w' A n c s:=⟨h.right,(Rd.below h.rd hb).more hb.size,h.cap⟩
theorem cm.le {w:World} {A:Option Addr} {n c:Nat} {s:ag} (h:cm w A n c s):n≤200:=by have:=h.rd.len;have:=h.right.size;omega
theorem cm.R6 {w:World} {A:Option Addr} {n c:Nat} {s:ag} (h:cm w A n c s):mF w CH s [.slice A n c] :=
  ⟨_,rfl,A,n,c,rfl,bW.It h.rd (Nat.le_refl _) (fun _ _=>trivial),by have:=h.le;simp only [maxLen];omega⟩
theorem Md {w:World} {A:Option Addr} {n c:Nat} {s:ag} (h:cm w A n c s) :
    aZ (mF (w.alloc (.cells #[.slice A n c] 41)) CH) (w.alloc (.cells #[.slice A n c] 41)) CH 1 (some ⟨w.heap.size,0,none⟩) 1 [s]:=by
 have hb:=(Below.refl w.heap.size w).alloc (Nat.le_refl _) (.cells #[.slice A n c] 41);refine⟨[[.slice A n c]],rfl,rfl,?_,by simp,bW.new 41 [.slice A n c] rfl trivial⟩;intro i a cs ha hc;rcases i with _ | i
 ·simp at ha hc;subst ha hc;exact(h.below hb).R6
 simp at ha
theorem Li {w:World} {A B:Option Addr} {n c m d:Nat} {a b:ag} (ha:cm w A n c a) (hb:cm w B m d b) :
    aZ (mF (w.alloc (.cells #[.slice A n c,.slice B m d] 41)) CH) (w.alloc (.cells #[.slice A n c,.slice B m d] 41)) CH 1 (some ⟨w.heap.size,0,none⟩) 2 [a,b]:=by
 have eX:=(Below.refl w.heap.size w).alloc (Nat.le_refl _) (.cells #[.slice A n c,.slice B m d] 41);refine⟨[[.slice A n c],[.slice B m d]],rfl,rfl,?_,by simp,bW.new 41 [.slice A n c,.slice B m d] rfl trivial⟩;intro i x cs hx hc;match i with
 | 0=>simp at hx hc;subst hx hc;exact(ha.below eX).R6
 | 1=>simp at hx hc;subst hx hc;exact(hb.below eX).R6
 | i+2=>simp at hx
theorem yN {w:World} {A:Option Addr} {n c:Nat} {s:ag} (h:cm w A n c s) :
    Calls Tryz.prog 50 #[.slice (some ⟨w.heap.size,0,none⟩) 1 1] (w.alloc (.cells #[.slice A n c] 41)) fun e w'=>e=.returned (.int .i64 0)∧Below w.heap.size w w' :=
  (xq CH [s] _ 1 1 _ (by decide) (by simpa using h.right) (Md h)).mono fun _ _ ⟨he,hb⟩=>⟨he,((Below.refl _ _).alloc (Nat.le_refl _) _).trans (hb.mono (by simp))⟩
theorem lR {w:World} {A B:Option Addr} {n c m d:Nat} {a b:ag} (ha:cm w A n c a) (hb:cm w B m d b) :
    Calls Tryz.prog 50 #[.slice (some ⟨w.heap.size,0,none⟩) 2 2] (w.alloc (.cells #[.slice A n c,.slice B m d] 41)) fun e w'=>e=.returned (.int .i64 0)∧Below w.heap.size w w' :=
  (xq CH [a,b] _ 2 2 _ (by decide) (by simpa using ⟨ha.right,hb.right⟩) (Li ha hb)).mono fun _ _ ⟨he,hb⟩=>⟨he,((Below.refl _ _).alloc (Nat.le_refl _) _).trans (hb.mono (by simp))⟩
theorem vK {w:World} {A B:Option Addr} {n c m d:Nat} {a b:ag} (ha:cm w A n c a) (hb:cm w B m d b) :
    Calls Tryz.prog 105 #[.slice (some ⟨w.heap.size,0,none⟩) 2 2] (w.alloc (.cells #[.slice A n c,.slice B m d] 41)) fun e w'=>
      ∃ A' c' k,e=.returned (.slice A' k c')∧k≤1000∧nD w' w'.heap.size A' k (a++b)∧Below w.heap.size w w':=by
 have eX:=(Below.refl w.heap.size w).alloc (Nat.le_refl _) (.cells #[.slice A n c,.slice B m d] 41);have hf : [a,b].flatten=a++b:=(by simp)
 have h:=Br [a,b] [.slice A n c,.slice B m d] (some ⟨w.heap.size,0,none⟩) 2 2 (w.alloc (.cells #[.slice A n c,.slice B m d] 41)) rfl
   (by have:=Rd.new w 41 1 2 [.slice A n c,.slice B m d] rfl;simpa using this)
   (by
     intro i l u hl hu
     match i with
     | 0=>simp at hl hu;subst hl hu;exact⟨A,n,c,rfl,(ha.below eX).rd⟩
     | 1=>simp at hl hu;subst hl hu;exact⟨B,m,d,rfl,(hb.below eX).rd⟩
     | i+2=>simp at hl)
   (by rw [hf,List.length_append];have:=ha.right.size;have:=hb.right.size;omega) (by decide)
 rw [hf]at h;refine h.mono ?_;rintro e w' ⟨⟨v,rfl,ho⟩,aW⟩;obtain⟨A',c',rfl,_⟩:=aI ho;exact⟨A',c',_,rfl,by rw [List.length_append];have:=ha.right.size;have:=hb.right.size;omega,Rd.cy ho,eX.trans (aW.mono (by simp))⟩
theorem qV (A B:Option Addr) (n c m d:Nat) (a b:ag) (w:World) (ha:cm w A n c a) (hb:cm w B m d b) :
    Calls Tryz.prog 81 #[.slice A n c,.slice B m d] w (bV w (ot 124 a b)):=by
 have HA:=qqh ha;have HB:=qqh hb;clear ha hb;go_enter Tryz.func81,Tryz.ntmps81;go_wp2_with fail;refine(lR HA.out HB.out).mono ?_;rintro e w1 ⟨rfl,aW⟩;have qI:=qqh (HA.out.below aW);have b7:=qqh (HB.out.below aW);have wA:=qqh aW;clear aW;go_wp2_with fail;refine(vK qI.out b7.out).mono ?_;rintro e w2 ⟨A2,c2,k,rfl,hlen,hrd,bu⟩;have Gj:=qqh (wA.out.trans (bu.mono wA.out.size));have HO:=qqh (PO A2 k c2 (a++b) w2 hlen (fun x hx=>by
  rcases List.mem_append.1 hx with h | h;exact HA.out.right.each x h;exact HB.out.right.each x h) hrd)
 clear hrd bu;go_wp2_with fail;refine HO.out.mono ?_;rintro e w3 ⟨l',hp,Vr,A3,n3,c3,rfl,h1,h2,h3,h4⟩;rw [← Mz HA.out.right HB.out.right hp Vr]at h1 ⊢;have H1:=qqh (h1.lift (X':=fun b=>w.heap.size≤b) (fun _ h=>Nat.le_trans Gj.out.size h));have H4:=qqh (Gj.out.trans (h4.mono Gj.out.size));clear h1 h4 hp Vr HO;go_wp2_with fail;go_ret2;exact⟨A3,n3,c3,rfl,H1.out,h2,h3,H4.out⟩
theorem zm (A B:Option Addr) (n c m d:Nat) (a b:ag) (w:World) (ha:cm w A n c a) (hb:cm w B m d b) :
    Calls Tryz.prog 83 #[.slice A n c,.slice B m d] w (bV w (ot 38 a b)):=by
 have HA:=qqh ha;have HB:=qqh hb;clear ha hb;rw [PC HA.out.right HB.out.right];go_enter Tryz.func83,Tryz.ntmps83;go_wp2_with fail;refine(lR HA.out HB.out).mono ?_;rintro e w1 ⟨rfl,aW⟩;have HM:=qqh (zZ A B n m c d a b w1 (by have:=HA.out.le;have:=HB.out.le;omega) HA.out.cap HB.out.cap HA.out.right.canon HB.out.right.canon (HA.out.below aW).rd (HB.out.below aW).rd);have wA:=qqh aW;clear aW;go_wp2_with fail;refine HM.out.mono ?_;rintro e w3 ⟨A3,n3,c3,rfl,lF,RW,lU,bN⟩;have bL:=qqh (wA.out.trans (bN.mono wA.out.size));have HT:=qqh (fun(e:Ending) (w':World) h=>show bV w (vP (dN a b)) e w' from bV.yu (lF.lift (X':=fun b=>w.heap.size≤b) (fun _ h=>Nat.le_trans wA.out.size h)) lU bL.out h);clear lF bN;go_wp2_with fail;refine(oS A3 n3 c3 w3).mono ?_;rintro e w4 he;obtain⟨A5,n5,c5,rfl,h5⟩:=HT.out e w4 he;have H5:=qqh h5;clear h5 he HT;go_wp2_with fail;go_ret2;exact⟨A5,n5,c5,rfl,H5.out⟩
theorem Gf (A B:Option Addr) (n c m d:Nat) (a b:ag) (w:World) (ha:cm w A n c a) (hb:cm w B m d b) :
    Calls Tryz.prog 84 #[.slice A n c,.slice B m d] w (bV w (ot 45 a b)):=by
 have HA:=qqh ha;have HB:=qqh hb;clear ha hb;rw [Mu HA.out.right HB.out.right];go_enter Tryz.func84,Tryz.ntmps84;go_wp2_with fail;refine(lR HA.out HB.out).mono ?_;rintro e w1 ⟨rfl,aW⟩;have qI:=qqh (HA.out.below aW);have HN:=qqh (CC B m d b w1 HB.out.le HB.out.right (HB.out.below aW).rd);have wA:=qqh aW;clear aW;go_wp2_with fail;refine HN.out.mono ?_;rintro e w2 ⟨A2,n2,c2,rfl,jm,hn2,hc2,bu⟩;have bG:=qqh (wA.out.trans (bu.mono wA.out.size));have HM:=qqh (zZ A A2 n n2 c c2 a (wW b) w2 (by have:=HA.out.le;omega) HA.out.cap hc2 HA.out.right.canon (Ck HB.out.right.canon).1 (qI.out.below bu).rd jm.of);clear jm bu;go_wp2_with fail;refine HM.out.mono ?_;rintro e w3 ⟨A3,n3,c3,rfl,lF,RW,lU,bN⟩;have bL:=qqh (bG.out.trans (bN.mono bG.out.size));have HT:=qqh (fun(e:Ending) (w':World) h=>show bV w (vP (dN a (wW b))) e w' from bV.yu (lF.lift (X':=fun b=>w.heap.size≤b) (fun _ h=>Nat.le_trans bG.out.size h)) lU bL.out h);clear lF bN;go_wp2_with fail;refine(oS A3 n3 c3 w3).mono ?_;rintro e w4 he;obtain⟨A5,n5,c5,rfl,h5⟩:=HT.out e w4 he;have H5:=qqh h5;clear h5 he HT;go_wp2_with fail;go_ret2;exact⟨A5,n5,c5,rfl,H5.out⟩
theorem Cg (A:Option Addr) (n c:Nat) (a b:ag) (w:World) (ha:cm w A n c a) :
    Calls Tryz.prog 86 #[.slice A n c] w (bV w (ot 94 a b)):=by
 have HA:=qqh ha;clear ha;rw [MY HA.out.right b];go_enter Tryz.func86,Tryz.ntmps86;go_wp2_with fail;refine(yN HA.out).mono ?_;rintro e w1 ⟨rfl,aW⟩;have HN:=qqh (CC A n c a w1 HA.out.le HA.out.right (HA.out.below aW).rd);have wA:=qqh aW;clear aW;go_wp2_with fail;refine HN.out.mono ?_;rintro e w3 ⟨A3,n3,c3,rfl,lF,RW,lU,bN⟩;have bL:=qqh (wA.out.trans (bN.mono wA.out.size));have HT:=qqh (fun(e:Ending) (w':World) h=>show bV w (vP (wW a)) e w' from bV.yu (lF.lift (X':=fun b=>w.heap.size≤b) (fun _ h=>Nat.le_trans wA.out.size h)) lU bL.out h);clear lF bN;go_wp2_with fail;refine(oS A3 n3 c3 w3).mono ?_;rintro e w4 he;obtain⟨A5,n5,c5,rfl,h5⟩:=HT.out e w4 he;have H5:=qqh h5;clear h5 he HT;go_wp2_with fail;go_ret2;exact⟨A5,n5,c5,rfl,H5.out⟩
theorem cW (w:World) (C:Nat) (A:Option Addr) (n c:Nat) (L:List Int) (i:Nat) (h:ax w C A n c L i) :
    Calls Tryz.prog 34 #[.pointer (some ⟨C,0,none⟩)] w fun e w'=>e=.returned (.int .i32 (pk L i))∧ax w' C A n c L i∧bP w C w' :=
  (nB w C A n c L i h).mono fun e w' ⟨he,m,hw⟩=>⟨he,by rw [hw];exact h.drewN m,by rw [hw];exact bP.drewN w C m⟩
theorem mQ (w:World) (C:Nat) (A:Option Addr) (n c:Nat) (L:List Int) (i k:Nat) (h:ax w C A n c L i) (hk:k≤1000) :
    Calls Tryz.prog 53 #[.pointer (some ⟨C,0,none⟩),.int .i64 k] w fun e w'=>e=.returned (.int .i32 (pk L (i+k)))∧ax w' C A n c L i∧bP w C w' :=
  (EM w C A n c L i k h hk).mono fun e w' ⟨he,m,hw⟩=>⟨he,by rw [hw];exact h.drewN m,by rw [hw];exact bP.drewN w C m⟩
def eN (w:World) (C:Nat) (A:Option Addr) (n c:Nat) (L:List Int) (r:kS ag) (e:Ending) (w':World):Prop :=
  match r with
  | .ok (s,j)=>(∃ B m d,e=.returned (.slice B m d)∧bW w' (fun b=>w.heap.size≤b) 2 B m (an s)∧m≤d)∧ax w' C A n c L j∧bP w C w'
  | .error (x,p)=>e=aY x p∧bP w C w'
def kD (L:List Int) (i:Nat):kS ag:=match jT L i with
  | .error e=>.error e
  | .ok (x,j)=>.ok ([x],j)
theorem L4 {L:List Int} {i:Nat} {e:Int × Nat} (h:dh L i=.error e):kD L i=.error e:=by unfold kD jT;rw [h]
theorem zV {L:List Int} {i j:Nat} {x:Int} (h:dh L i=.ok (x,j)) (h2:¬(pk L j=45∧pk L (j+1)≠91)):kD L i=.ok ([(x,x)],j):=by unfold kD jT;rw [h];simp only;rw [if_neg h2]
theorem Mt {L:List Int} {i j:Nat} {x:Int} {e:Int × Nat} (h:dh L i=.ok (x,j)) (h2:pk L j=45∧pk L (j+1)≠91) (h3:dh L (j+1)=.error e):kD L i=.error e:=by
 unfold kD jT;rw [h];simp only;rw [if_pos h2,h3]
theorem Nq {L:List Int} {i j k:Nat} {x y:Int} (h:dh L i=.ok (x,j)) (h2:pk L j=45∧pk L (j+1)≠91) (h3:dh L (j+1)=.ok (y,k)) (h4:y<x):kD L i=.error (3,j+1):=by
 unfold kD jT;rw [h];simp only;rw [if_pos h2,h3];simp only;rw [if_pos h4]
theorem Jx {L:List Int} {i j k:Nat} {x y:Int} (h:dh L i=.ok (x,j)) (h2:pk L j=45∧pk L (j+1)≠91) (h3:dh L (j+1)=.ok (y,k)) (h4:¬ y<x):kD L i=.ok ([(x,y)],k):=by
 unfold kD jT;rw [h];simp only;rw [if_pos h2,h3];simp only;rw [if_neg h4]
theorem um {w W:World} {C:Nat} {A:Option Addr} {n c:Nat} {L:List Int} {j:Nat} (x y:Int) (h:ax W C A n c L j) (hb:bP w C W) :
    eN w C A n c L (.ok ([(x,y)],j)) (.returned (.slice (some ⟨W.heap.size,0,none⟩) 1 1)) (W.alloc (.cells #[.int .i32 x,.int .i32 y] 77)) :=
  ⟨⟨_,1,1,rfl,bW.new 77 [.int .i32 x,.int .i32 y] rfl hb.1,Nat.le_refl _⟩,h.below ((Below.refl _ _).alloc (Nat.le_refl _) _),hb.trans (bP.below C ((Below.refl _ _).alloc (Nat.le_refl _) _))⟩
theorem Lp (w:World) (C:Nat) (A:Option Addr) (n c:Nat) (L:List Int) (i:Nat) (h:ax w C A n c L i) (hL:gl L) :
    Calls Tryz.prog 85 #[.pointer (some ⟨C,0,none⟩)] w (eN w C A n c L (kD L i)):=by
 have hs:=h.size;have hlen:=h.len;have HC:=qqh h;have iI:=qqh (fun(W:World) (k:Nat) (h:ax W C A n c L k)=>cW W C A n c L k h);have N5:=qqh (fun(W:World) (k:Nat) (h:ax W C A n c L k)=>mQ W C A n c L k 1 h (by decide));have Db:=qqh (fun(W:World) (k:Nat) (h:ax W C A n c L k)=>De W C A n c L k h hL);have GH:=qqh hL.ok;clear h hL;obtain⟨R,hR⟩:∃ R,kD L i=R:=⟨_,rfl⟩;rw [hR];have fZ:=qqh hR;clear hR;have H1:=qqh (Db.out w i HC.out);cases h1:dh L i with
 | error e0=>
  obtain⟨x,p⟩:=e0;rw [h1]at H1;have HR:=qqh (fZ.out.symm.trans (L4 h1));clear h1;go_enter Tryz.func85,Tryz.ntmps85;go_wp2_with fail;refine H1.out.mono ?_;rintro e w5 ⟨he,hb⟩;unfold aY at he;subst he;have dQ:=qqh hb;clear hb;go_wp2_with fail;rw [HR.out];exact⟨rfl,rfl,dQ.out⟩
 | ok q=>
  obtain⟨x,j⟩:=q;rw [h1]at H1;have kg:=qqh h1;obtain⟨_,hx0,hx1⟩:=oz GH.out h1;clear h1;by_cases hd:pk L j=45
  ·have CE:j<n:=(by rw [← hlen];exact bD (by omega));have uc:=qqh (fun(W:World) (h:ax W C A n c L j)=>show Calls Tryz.prog 34 #[.pointer (some ⟨C,0,none⟩)] W fun e w'=>e=.returned (.int .i32 45)∧ax w' C A n c L j∧bP W C w' by have:=iI.out W j h;rwa [hd]at this);by_cases hb:pk L (j+1)=91
   ·have HR:=qqh (fZ.out.symm.trans (zV kg.out (fun h=>h.2 hb)));have Mq:=qqh (fun(W:World) (h:ax W C A n c L j)=>show Calls Tryz.prog 53 #[.pointer (some ⟨C,0,none⟩),.int .i64 1] W fun e w'=>e=.returned (.int .i32 91)∧ax w' C A n c L j∧bP W C w' by have:=N5.out W j h;rwa [hb]at this);clear hd hb;go_enter Tryz.func85,Tryz.ntmps85;go_wp2_with fail;refine H1.out.mono ?_;rintro e w5 ⟨rfl,hc,hb⟩;have vQ:=qqh hc;have dQ:=qqh hb;clear hb hc;go_wp2_with fail;refine(uc.out _ vQ.out).mono ?_;rintro e w6 ⟨rfl,hc,hb⟩;have J1:=qqh hc;have gx:=qqh (dQ.out.trans hb);clear hb hc;go_wp2_with fail;refine(Mq.out _ J1.out).mono ?_;rintro e w7 ⟨rfl,hc,hb⟩;have KM:=qqh hc;have od:=qqh (gx.out.trans hb);clear hb hc;go_wp2_with fail;go_ret;rw [HR.out];exact um x x KM.out od.out
   have Mq:=qqh (fun(W:World) (h:ax W C A n c L j)=>N5.out W j h);have hq:(pk L (j+1) != 91)=true:=(by simp;exact hb);have HCN:=qqh (And.intro hd hb);generalize pk L (j+1)=r2 at hq Mq;have H2:=qqh (fun(W:World) (h:ax W C A n c L (j+1))=>Db.out W (j+1) h);have hcast:((j+1:Nat):Int)=(j:Int)+1:=(by omega);have hw1:IntKind.i64.wrap ((j:Int)+1)=(j:Int)+1:=wrap_small _ (by omega) (by omega);clear hd hb;cases h2:dh L (j+1)with
   | error e0=>
    obtain⟨x2,p2⟩:=e0;rw [h2]at H2;have HR:=qqh (fZ.out.symm.trans (Mt kg.out HCN.out h2));clear h2;go_enter Tryz.func85,Tryz.ntmps85;go_wp2_with fail;refine H1.out.mono ?_;rintro e w5 ⟨rfl,hc,hb⟩;have vQ:=qqh hc;have dQ:=qqh hb;clear hb hc;go_wp2_with fail;refine(uc.out _ vQ.out).mono ?_;rintro e w6 ⟨rfl,hc,hb⟩;have J1:=qqh hc;have gx:=qqh (dQ.out.trans hb);clear hb hc;go_wp2_with fail;refine(Mq.out _ J1.out).mono ?_;rintro e w7 ⟨rfl,hc,hb⟩;have KM:=qqh hc;have od:=qqh (gx.out.trans hb);clear hb hc;obtain⟨d1,d2,d3,d4⟩:=KM.out.step CE;have Ta:=qqh d3;have wD:=qqh (od.out.trans d4);clear d3 d4;go_wp2_with fail;refine(H2.out _ Ta.out).mono ?_;rintro e w9 ⟨he,hb⟩;unfold aY at he;subst he;have eK:=qqh (wD.out.trans hb);clear hb;go_wp2_with fail;rw [HR.out];exact⟨rfl,rfl,eK.out⟩
   | ok q=>
    obtain⟨y,k⟩:=q;rw [h2]at H2;have sC:=qqh h2;obtain⟨_,hy0,hy1⟩:=oz GH.out h2;clear h2;go_enter Tryz.func85,Tryz.ntmps85;go_wp2_with fail;refine H1.out.mono ?_;rintro e w5 ⟨rfl,hc,hb⟩;have vQ:=qqh hc;have dQ:=qqh hb;clear hb hc;go_wp2_with fail;refine(uc.out _ vQ.out).mono ?_;rintro e w6 ⟨rfl,hc,hb⟩;have J1:=qqh hc;have gx:=qqh (dQ.out.trans hb);clear hb hc;go_wp2_with fail;refine(Mq.out _ J1.out).mono ?_;rintro e w7 ⟨rfl,hc,hb⟩;have KM:=qqh hc;have od:=qqh (gx.out.trans hb);clear hb hc;obtain⟨d1,d2,d3,d4⟩:=KM.out.step CE;have Ta:=qqh d3;have wD:=qqh (od.out.trans d4);clear d3 d4;go_wp2_with fail;refine(H2.out _ Ta.out).mono ?_;rintro e w9 ⟨rfl,hc,hb⟩;have HC9:=qqh hc;have eK:=qqh (wD.out.trans hb);clear hb hc;by_cases hlt:y<x
    ·have HR:=qqh (fZ.out.symm.trans (Nq kg.out HCN.out sC.out hlt));have HF:=qqh (fun(W:World)=>ck 3 ((j:Int)+1) W);go_wp2_with fail;refine(HF.out _).mono ?_;rintro e uN ⟨rfl,rfl⟩;go_wp2_with fail;rw [HR.out];exact⟨rfl,by rw [aY,hcast],eK.out⟩
    have HR:=qqh (fZ.out.symm.trans (Jx kg.out HCN.out sC.out hlt));go_wp2_with fail;go_ret;rw [HR.out];exact um x y HC9.out eK.out
  have HR:=qqh (fZ.out.symm.trans (zV kg.out (fun h=>hd h.1)));have hq:(pk L j == 45)=false:=(by simp;exact hd);go_enter Tryz.func85,Tryz.ntmps85;go_wp2_with fail;refine H1.out.mono ?_;rintro e w5 ⟨rfl,hc,hb⟩;have vQ:=qqh hc;have dQ:=qqh hb;clear hb hc;go_wp2_with fail;refine(iI.out _ _ vQ.out).mono ?_;rintro e w6 ⟨rfl,hc,hb⟩;have J1:=qqh hc;have gx:=qqh (dQ.out.trans hb);clear hb hc;go_wp2_with fail;go_ret;rw [HR.out];exact um x x J1.out gx.out
theorem GO {L:List Int} {f j:Nat} (h:pk L (aN L j)≠35):fl L (f+1) j=aN L j:=by rw [fl,if_neg h]
theorem Kt {L:List Int} {f j:Nat} (h:pk L (aN L j)=35):fl L (f+1) j=fl L f (aB q5 L (aN L j)):=by rw [fl,if_pos h]
theorem Am (r:Int) (w:World) :
    Calls Tryz.prog 112 #[.int .i32 r] w fun e w'=>e=.returned (.bool (kN r))∧w'=w:=by
 go_enter Tryz.func112,Tryz.ntmps112;go_wp2;(all_goals go_ret);(all_goals refine⟨bB ?_,rfl⟩);(all_goals (rw [Bool.eq_iff_iff];simp [kN];try omega))
theorem jW (w:World) (C:Nat) (A:Option Addr) (n c:Nat) (L:List Int) (i:Nat) (h:ax w C A n c L i) :
    Calls Tryz.prog 33 #[.pointer (some ⟨C,0,none⟩)] w fun e w'=>e=.returned (.tuple #[])∧ax w' C A n c L (az L i)∧bP w C w':=by
 have hs:=h.size;have hl:=h.len;have HC:=qqh h;clear h;go_enter Tryz.func33,Tryz.ntmps33;go_wp2_with fail;go_loopw [2] (fun _ wr=>∃ f j:Nat,j≤n∧n+1≤f+j∧az L i=fl L f j∧ax wr C A n c L j∧bP w C wr) (fun _ wr=>n - (match wr.cell? ⟨C,1,none⟩with | some (.int _ j)=>j.toNat | _=>0));(case atStart=>exact⟨L.length+1,i,HC.out.le,by omega,rfl,HC.out,bP.refl _ _⟩);obtain⟨f0,j,hj,hf,hsp,hc,hb⟩:=hrel;obtain⟨f,rfl⟩:∃ f,f0=f+1:=⟨f0 - 1,by omega⟩;have HJ:=qqh hc;have HB:=qqh hb;have rI:=qqh hsp;have oc:=qqh (hc.blk.cell 1);obtain⟨k,hk⟩:∃ k,aN L j=k:=⟨_,rfl⟩;have HK:=qqh hk;have hjk:j≤k:=(by rw [← hk];exact eE L j);have iI:=qqh (fun(W:World) (m:Nat) (h:ax W C A n c L m)=>cW W C A n c L m h);clear hc hb hsp;go_wp2_with fail;refine(je wr C A n c L j HJ.out).mono ?_;rintro e w1 ⟨rfl,hc1,aW⟩;rw [hk]at hc1;have kg:=qqh hc1;have b7:=qqh (HB.out.trans aW);clear hc1 aW hk;go_wp2_with fail;refine(iI.out _ k kg.out).mono ?_;rintro e w2 ⟨rfl,hc2,bu⟩;have sC:=qqh hc2;have bG:=qqh (b7.out.trans bu);clear hc2 bu;by_cases tZ:pk L k=35
 ·have hlt:k<L.length:=bD (by omega);have so:=qqh (show az L i=fl L f (aB q5 L k) by rw [rI.out,Kt (by rw [HK.out];exact tZ),HK.out]);have QV:=qqh (show k+1≤aB q5 L k by rw [ej hlt (by rw [tZ];rfl)];exact fh _ _ _);have HLE:=qqh (show aB q5 L k≤n by rw [← hl];exact(iP (Nat.le_of_lt hlt)).2);obtain⟨m0,hm0⟩:∃ m0,aB q5 L k=m0:=⟨_,rfl⟩;rw [hm0]at so QV HLE;have HM:=qqh hm0;rw [tZ];clear hm0 tZ;go_wp2_with fail;go_loopw [11] (fun _ wy=>∃ m:Nat,k≤m∧m≤n∧m0=aB q5 L m∧ax wy C A n c L m∧bP w C wy) (fun _ wy=>n - (match wy.cell? ⟨C,1,none⟩with | some (.int _ j)=>j.toNat | _=>0));(case atStart=>exact⟨k,Nat.le_refl _,by omega,HM.out.symm,sC.out,bG.out⟩);obtain⟨m,hkm,hmn,hrun,YP,TF⟩:=hrel;have IF:=qqh YP;have HBM:=qqh TF;have HRM:=qqh hrun;have Sn:=qqh (YP.blk.cell 1);clear YP TF hrun;cases hrem:q5 (pk L m)with
  | true=>
   have abI:m<L.length:=bD (fun e=>by rw [e]at hrem;exact absurd hrem (by decide));have KL:=qqh (HRM.out.trans (ej abI hrem));have h0:0≤pk L m∧pk L m≠10:=(by simpa [q5] using hrem);have hg0:decide ((0:Int)≤pk L m)=true:=decide_eq_true h0.1;have hg1:(pk L m != 10)=true:=(by simp;exact h0.2);have hwm:IntKind.i64.wrap ((m:Int)+1)=(m:Int)+1:=wrap_small _ (by omega) (by omega);clear hrem h0;go_wp2_with fail;refine(iI.out _ m IF.out).mono ?_;rintro e w3 ⟨rfl,lU,bN⟩;have rH:=qqh lU;have bL:=qqh (HBM.out.trans bN);clear lU bN;go_wp2_with fail;refine(iI.out _ m rH.out).mono ?_;rintro e w4 ⟨rfl,mP,hb4⟩;have Ef:=qqh mP;have ek:=qqh (bL.out.trans hb4);clear mP hb4;obtain⟨d1,d2,d3,d4⟩:=Ef.out.step (by omega);have vU:=qqh d3;have dQ:=qqh (ek.out.trans d4);clear d3 d4;go_wp2_with fail;refine⟨⟨m+1,by omega,by omega,KL.out,vU.out,dQ.out⟩,?_⟩;have e1:(w4.setCell ⟨C,1,none⟩ (.int .i64 ((m:Int)+1))).cell? ⟨C,1,none⟩=some (.int .i64 ((m+1:Nat):Int)):=vU.out.blk.cell 1;have e2:wr.cell? ⟨C,1,none⟩=some (.int .i64 (m:Int)):=Sn.out;rw [e1,e2];simp only [Int.toNat_natCast];omega
  | false=>
   obtain rfl:m0=m:=HRM.out.trans (cX (fun _=>hrem));have hor:pk L m0<0∨(0≤pk L m0∧pk L m0=10):=by
    simp [q5]at hrem;by_cases h:pk L m0<0;exact .inl h;exact .inr ⟨by omega,hrem (by omega)⟩
   have hge:=QV.out;clear hrem HRM;rcases hor with h0 | ⟨_,h0⟩
   ·go_wp2_with fail;refine(iI.out _ m0 IF.out).mono ?_;rintro e w3 ⟨rfl,lU,bN⟩;have rH:=qqh lU;have bL:=qqh (HBM.out.trans bN);clear lU bN;go_wp2_with fail;refine⟨⟨f,m0,hmn,by omega,so.out,rH.out,bL.out⟩,?_⟩;rw [rH.out.blk.cell 1,oc.out];simp only [Int.toNat_natCast,List.getElem?_toArray,List.getElem?_cons_succ,List.getElem?_cons_zero];omega
   go_wp2_with fail;refine(cW _ C A n c L m0 IF.out).mono ?_;rintro e w3 ⟨rfl,lU,bN⟩;rw [h0];have rH:=qqh lU;have bL:=qqh (HBM.out.trans bN);clear lU bN;go_wp2_with fail;refine(cW _ C A n c L m0 rH.out).mono ?_;rintro e w4 ⟨rfl,mP,hb4⟩;rw [h0];have Ef:=qqh mP;have ek:=qqh (bL.out.trans hb4);clear mP hb4;go_wp2_with fail;refine⟨⟨f,m0,hmn,by omega,so.out,Ef.out,ek.out⟩,?_⟩;rw [Ef.out.blk.cell 1,oc.out];simp only [Int.toNat_natCast,List.getElem?_toArray,List.getElem?_cons_succ,List.getElem?_cons_zero];omega
 have EJ:=qqh (show az L i=k by rw [rI.out,GO (by rw [HK.out];exact tZ),HK.out]);have hq:(pk L k != 35)=true:=(by simp;exact tZ);clear tZ;go_wp2_with fail;(try simp only [Exit.inBlock,Exit.then]);refine bodyPost_ret (results_none rfl _ _ _) rfl ?_;rw [EJ.out];exact⟨rfl,sC.out,bG.out⟩
def My {α:Type} (V:α→Value) (w:World) (C:Nat) (A:Option Addr) (n c:Nat) (L:List Int) (r:kS α) (e:Ending) (w':World):Prop :=
  match r with
  | .ok (d,j)=>e=.returned (V d)∧ax w' C A n c L j∧bP w C w'
  | .error (x,p)=>e=aY x p∧bP w C w'
theorem Nw (w:World) (C:Nat) (A:Option Addr) (n c:Nat) (L:List Int) (i:Nat) (h:ax w C A n c L i) :
    Calls Tryz.prog 61 #[.pointer (some ⟨C,0,none⟩)] w (My (Value.int .i64) w C A n c L (ff L i)):=by
 have hs:=h.size;have hl:=h.len;have hle:=h.le;have HC:=qqh h;have iI:=qqh (fun(W:World) (m:Nat) (h:ax W C A n c L m)=>cW W C A n c L m h);have N5:=qqh (fun(W:World) (h:ax W C A n c L i)=>mQ W C A n c L i 1 h (by decide));have hw1:IntKind.i64.wrap ((i:Int)+1)=(i:Int)+1:=wrap_small _ (by omega) (by omega);have E5:IntKind.i64.wrap ((i:Int)+2)=(i:Int)+2:=wrap_small _ (by omega) (by omega);clear h;obtain⟨R,hR⟩:∃ R,ff L i=R:=⟨_,rfl⟩;rw [hR];have fZ:=qqh hR;clear hR;by_cases Kz:pk L i=62
 ·have iZ:=qqh (show R=.ok (1,i+1) by rw [← fZ.out];unfold ff;rw [if_pos Kz]);have hlt:i<L.length:=bD (by omega);go_enter Tryz.func61,Tryz.ntmps61;go_wp2_with fail;refine(iI.out _ i HC.out).mono ?_;rintro e w1 ⟨rfl,hc1,aW⟩;rw [Kz];have kg:=qqh hc1;have b7:=qqh aW;clear hc1 aW Kz;obtain⟨d1,d2,d3,d4⟩:=kg.out.step (by omega);have vU:=qqh d3;have dQ:=qqh (b7.out.trans d4);clear d3 d4;go_wp2_with fail;go_ret;rw [iZ.out];exact⟨rfl,vU.out,dQ.out⟩
 have q62:(pk L i == 62)=false:=(by rw [beq_eq_false_iff_ne];exact Kz);by_cases AW:pk L i=60
 ·have hlt:i<L.length:=bD (by omega);by_cases h2:pk L (i+1)=62
  ·have iZ:=qqh (show R=.ok (3,i+2) by rw [← fZ.out];unfold ff;rw [if_neg Kz,if_pos ⟨AW,h2⟩]);have hlt2:i+1<L.length:=bD (by omega);go_enter Tryz.func61,Tryz.ntmps61;go_wp2_with fail;refine(iI.out _ i HC.out).mono ?_;rintro e w1 ⟨rfl,hc1,aW⟩;have kg:=qqh hc1;have b7:=qqh aW;clear hc1 aW;go_wp2_with fail;refine(iI.out _ i kg.out).mono ?_;rintro e w2 ⟨rfl,hc2,bu⟩;rw [AW];have sC:=qqh hc2;have bG:=qqh (b7.out.trans bu);clear hc2 bu;go_wp2_with fail;refine(N5.out _ sC.out).mono ?_;rintro e w3 ⟨rfl,lU,bN⟩;rw [h2];have rH:=qqh lU;have bL:=qqh (bG.out.trans bN);clear lU bN;have d1:=rH.out.blk.cell 1;have d2:=rH.out.blk.frozen 1;have hm:=rH.out.move (j:=i+2) (by omega);rw [show(((i+2:Nat)):Int)=(i:Int)+2 by omega]at hm;have vU:=qqh hm;have dQ:=qqh (bL.out.trans (bP.set w3 C 1 (.int .i64 ((i:Int)+2))));clear hm;go_wp2_with fail;go_ret;rw [iZ.out];exact⟨rfl,vU.out,dQ.out⟩
  have q2:(pk L (i+1) == 62)=false:=(by rw [beq_eq_false_iff_ne];exact h2);have iZ:=qqh (show R=.ok (2,i+1) by rw [← fZ.out];unfold ff;rw [if_neg Kz,if_neg (fun h=>h2 h.2)];unfold aU;rw [if_pos AW]);have J0:=qqh (fun(W:World) (h:ax W C A n c L i)=>show Calls Tryz.prog 36 #[.pointer (some ⟨C,0,none⟩),.int .i32 60] W fun e w'=>e=.returned (.tuple #[])∧ax w' C A n c L (i+1)∧bP W C w' by have:=fK W C A n c L i 60 h (by decide);rwa [show aU L i 60=.ok (i+1) by unfold aU;rw [if_pos AW]]at this);go_enter Tryz.func61,Tryz.ntmps61;go_wp2_with fail;refine(iI.out _ i HC.out).mono ?_;rintro e w1 ⟨rfl,hc1,aW⟩;have kg:=qqh hc1;have b7:=qqh aW;clear hc1 aW;go_wp2_with fail;refine(iI.out _ i kg.out).mono ?_;rintro e w2 ⟨rfl,hc2,bu⟩;rw [AW];have sC:=qqh hc2;have bG:=qqh (b7.out.trans bu);clear hc2 bu;go_wp2_with fail;refine(N5.out _ sC.out).mono ?_;rintro e w3 ⟨rfl,lU,bN⟩;have rH:=qqh lU;have bL:=qqh (bG.out.trans bN);clear lU bN;go_wp2_with fail;refine(J0.out _ rH.out).mono ?_;rintro e w4 ⟨rfl,mP,hb4⟩;have Ef:=qqh mP;have ek:=qqh (bL.out.trans hb4);clear mP hb4;go_wp2_with fail;go_ret;rw [iZ.out];exact⟨rfl,Ef.out,ek.out⟩
 have q60:(pk L i == 60)=false:=(by rw [beq_eq_false_iff_ne];exact AW);have iZ:=qqh (show R=.error (2,i) by rw [← fZ.out];unfold ff;rw [if_neg Kz,if_neg (fun h=>AW h.1)];unfold aU;rw [if_neg AW]);have J0:=qqh (fun(W:World) (h:ax W C A n c L i)=>show Calls Tryz.prog 36 #[.pointer (some ⟨C,0,none⟩),.int .i32 60] W fun e w'=>e=aY 2 i∧bP W C w' by have:=fK W C A n c L i 60 h (by decide);rwa [show aU L i 60=.error (2,i) by unfold aU;rw [if_neg AW]]at this);go_enter Tryz.func61,Tryz.ntmps61;go_wp2_with fail;refine(iI.out _ i HC.out).mono ?_;rintro e w1 ⟨rfl,hc1,aW⟩;have kg:=qqh hc1;have b7:=qqh aW;clear hc1 aW;go_wp2_with fail;refine(iI.out _ i kg.out).mono ?_;rintro e w2 ⟨rfl,hc2,bu⟩;have sC:=qqh hc2;have bG:=qqh (b7.out.trans bu);clear hc2 bu;go_wp2_with fail;refine(J0.out _ sC.out).mono ?_;rintro e w4 ⟨he,hb4⟩;unfold aY at he;subst he;have ek:=qqh (bG.out.trans hb4);clear hb4;go_wp2_with fail;rw [iZ.out];exact⟨rfl,rfl,ek.out⟩
def Rx (r:Int):Bool:=kN r || Cr r
theorem Gr {L:List Int} {i:Nat} (h:kN (pk L i)=false):bh L i=i:=by unfold bh;rw [h];rfl
theorem C0 {L:List Int} {i:Nat} (h:kN (pk L i)=true):bh L i=aB Rx L (i+1):=by
 have hlt:i<L.length:=bD (fun e=>by rw [e]at h;exact absurd h (by decide));unfold bh;rw [if_pos h];exact ej (p:=Rx) hlt (by unfold Rx;rw [h];rfl)
def Ku (L:List Int) (i j:Nat):Prop:=j=i∨(i<j∧bh L i=aB Rx L j)
theorem Ku.next {L:List Int} {i j:Nat} (h:Ku L i j) (hj:kN (pk L j)=true∨(i<j∧Cr (pk L j)=true)):Ku L i (j+1):=by
 have hl:Rx (pk L j)=true:=by
  unfold Rx;rcases hj with h | h
  ·rw [h];rfl
  rw [h.2,Bool.or_true]
 have hlt:j<L.length:=bD (fun e=>by rw [e]at hl;exact absurd hl (by decide));rcases h with rfl | ⟨h1,h2⟩
 ·rcases hj with h | h;exact .inr ⟨by omega,C0 h⟩;omega
 exact .inr ⟨by omega,h2.trans (ej hlt hl)⟩
theorem Ku.done {L:List Int} {i j:Nat} (h:Ku L i j) (h1:kN (pk L j)=false) (h2:i<j→Cr (pk L j)=false):bh L i=j:=by
 rcases h with rfl | ⟨h3,h4⟩;exact Gr h1;rw [h4];exact cX (fun _=>by unfold Rx;rw [h1,h2 h3];rfl)
theorem rT (w:World) (C:Nat) (A:Option Addr) (n c:Nat) (L:List Int) (i:Nat) (h:ax w C A n c L i) (h0:0<n) :
    Calls Tryz.prog 55 #[.pointer (some ⟨C,0,none⟩)] w fun e w'=>e=.returned (.string (iA L i))∧ax w' C A n c L (bh L i)∧bP w C w':=by
 have hs:=h.size;have hl:=h.len;have hi:=h.le;obtain⟨b,off,rfl,_,_⟩:=h.at h0;have HC:=qqh h;have iI:=qqh (fun(W:World) (m:Nat) (h:ax W C (some ⟨b,off,none⟩) n c L m)=>cW W C (some ⟨b,off,none⟩) n c L m h);have c1:=h.blk.cell 1;clear h;go_enter Tryz.func55,Tryz.ntmps55;go_upto_block 0 with (go_at_call 34;refine(iI.out _ i HC.out).mono ?_;rintro e w1 ⟨rfl,hc1,aW⟩);have kg:=qqh hc1;have b7:=qqh aW;clear hc1 aW c1;go_cut [3] (fun v wx=>v=.int .i64 (i:Int)∧ax wx C (some ⟨b,off,none⟩) n c L (bh L i)∧bP w C wx);case first=>
  go_wp2_with fail;go_loopw [4] (fun v wr=>∃ j:Nat,i≤j∧j≤n∧v=.int .i32 (pk L j)∧Ku L i j∧ax wr C (some ⟨b,off,none⟩) n c L j∧bP w C wr) (fun _ wr=>n - (match wr.cell? ⟨C,1,none⟩with | some (.int _ j)=>j.toNat | _=>0));(case atStart=>exact⟨i,Nat.le_refl _,hi,rfl,.inl rfl,kg.out,b7.out⟩);obtain⟨j,hij,hjn,rfl,U0,uZ,Bp⟩:=hrel;have HJ:=qqh uZ;have HB:=qqh Bp;have Tk:=qqh U0;have oc:=qqh (uZ.blk.cell 1);have k1:=uZ.blk.cell 1;clear uZ Bp U0;have Dy:=qqh (fun h1 h2=>Tk.out.done h1 h2);have ng:=qqh (fun hj=>Tk.out.next hj);have yY:=qqh (fun(W:World) (h:ax W C (some ⟨b,off,none⟩) n c L (j+1))=>iI.out W (j+1) h);obtain⟨x,hx⟩:∃ x,pk L j=x:=⟨_,rfl⟩;have hjl:0≤x→j<n:=fun h=>(by rw [← hl];exact bD (by rw [hx];omega));rw [hx]at Dy ng;rw [hx];have hwj:IntKind.i64.wrap ((j:Int)+1)=(j:Int)+1:=wrap_small _ (by omega) (by omega);clear hx;have Wa:(kN x=true∧((97≤x∧x≤122)∨x=95))∨(kN x=false∧i<j∧Cr x=true∧48≤x∧x≤57)∨(kN x=false∧(i<j→Cr x=false)∧(x<48∨(48≤x∧x≤57∧j=i)∨(57<x∧x<95)∨x=96∨122<x)):=by
   by_cases h1:kN x=true;exact .inl ⟨h1,by simpa [kN] using h1⟩;rw [Bool.not_eq_true]at h1;have h2:¬((97≤x∧x≤122)∨x=95):=(by simpa [kN] using h1);right;by_cases h3:i<j∧Cr x=true;exact .inl ⟨h1,h3.1,h3.2,by simpa [Cr] using h3.2⟩;right;refine⟨h1,fun h4=>by rw [Bool.eq_false_iff];exact fun h5=>h3 ⟨h4,h5⟩,?_⟩;by_cases h4:48≤x∧x≤57
   ·have:¬ i<j:=fun h5=>h3 ⟨h5,by simp [Cr,h4]⟩;omega
   omega
  rcases Wa with ⟨h1,hr⟩ | ⟨h1,hlt,h2,hr⟩ | ⟨h1,h2,hr⟩
  ·have HN:=qqh (ng.out (.inl h1));have Oy:j<n:=hjl (by omega);obtain⟨d1,d2,d3,d4⟩:=HJ.out.step Oy;have vU:=qqh d3;have dQ:=qqh (HB.out.trans d4);clear d3 d4;rcases hr with ⟨r1,r2⟩ | r1
   all_goals
     go_wp2_with fail
     refine(yY.out _ vU.out).mono ?_
     rintro e w5 ⟨rfl,mK,ez⟩
     have vQ:=qqh mK
     have gx:=qqh (dQ.out.trans ez)
     clear mK ez
     go_wp2_with fail
     refine⟨⟨j+1,by omega,by omega,rfl,HN.out,vQ.out,gx.out⟩,?_⟩
     have e1:w5.cell? ⟨C,1,none⟩=some (.int .i64 ((j+1:Nat):Int)):=vQ.out.blk.cell 1
     have e2:wr.cell? ⟨C,1,none⟩=some (.int .i64 (j:Int)):=oc.out
     rw [e1,e2]
     simp only [Int.toNat_natCast]
     omega
  ·have HN:=qqh (ng.out (.inr ⟨hlt,h2⟩));have Oy:j<n:=hjl (by omega);obtain⟨d1,d2,d3,d4⟩:=HJ.out.step Oy;have vU:=qqh d3;have dQ:=qqh (HB.out.trans d4);have hgt:decide ((i:Int)<(j:Int))=true:=decide_eq_true (by omega);clear d3 d4;obtain⟨r1,r2⟩:=hr;go_wp2_with fail;refine(yY.out _ vU.out).mono ?_;rintro e w5 ⟨rfl,mK,ez⟩;have vQ:=qqh mK;have gx:=qqh (dQ.out.trans ez);clear mK ez;go_wp2_with fail;refine⟨⟨j+1,by omega,by omega,rfl,HN.out,vQ.out,gx.out⟩,?_⟩;have e1:w5.cell? ⟨C,1,none⟩=some (.int .i64 ((j+1:Nat):Int)):=vQ.out.blk.cell 1;have e2:wr.cell? ⟨C,1,none⟩=some (.int .i64 (j:Int)):=oc.out;rw [e1,e2];simp only [Int.toNat_natCast];omega
  have HE:=qqh (Dy.out h1 h2);clear Dy ng Tk h1 h2;rcases hr with r1 | ⟨r1,r2,r3⟩ | ⟨r1,r2⟩ | r1 | r1
  all_goals
    have q95:(x == 95)=false:=by rw [beq_eq_false_iff_ne];omega
    by_cases hgt:(i:Int)<(j:Int)
    all_goals first
    | (exfalso;omega)
    | (go_wp2_with fail
       go_meet
       rw [HE.out]
       exact⟨rfl,HJ.out,HB.out⟩)
 obtain⟨rfl,Aj,hbc⟩:=hcut;have HT:=qqh (show iA L i=runesBytes (aL L i (bh L i)) from rfl);have hir:i≤bh L i:=by
  unfold bh;split;exact fh _ _ _;exact Nat.le_refl _
 obtain⟨r,hr⟩:∃ r,bh L i=r:=⟨_,rfl⟩;rw [hr]at Aj HT hir;have ko:=qqh hr;clear hr;have Si:=qqh Aj;have Yo:=qqh hbc;have hrn:=Aj.le;have d0:=Aj.blk.cell 0;have d1:=Aj.blk.cell 1;have td:=xA (Aj.drewN 1) hir hrn;have hk1:(i:Int)≤(r:Int):=(by omega);have hk2:(r:Int)≤(c:Int):=(by have:=Aj.cap;omega);have Qr:(0:Int)≤(i:Int):=(by omega);clear Aj hbc kg b7 HC;generalize runesBytes (aL L i r)=T at *;go_upto_region 6 with fail;refine ay (S:=(fun w'=>w'.cell? ⟨C,0,none⟩=some (.slice (some ⟨b,off,none⟩) n c)∧w'.cell? ⟨C,1,none⟩=some (.int .i64 r)∧(convert 26 9 (.slice (if c=i then some ⟨b,off,none⟩else some ⟨b,off+i,none⟩) (r - i) (c - i))).run Tryz.prog w'=.ok (.string T) w')) [4,10,12] (by kernel_rfl) ⟨d0,d1,td⟩ (fun bH=>?_);refine tq 0 54 ?_;(try simp only [zp,za,z0,zs]);refine tq 1 55 ?_;(try simp only [zp,za,z0,zs]);refine tq 2 56 ?_;(try simp only [zp,za,z0,zs]);refine tq 3 57 ?_;(try simp only [zp,za,z0,zs]);refine tu 4 58 ?_;(try simp only [zp,za,z0,zs]);refine tq 5 59 ?_;(try simp only [zp,za,z0,zs]);refine tq 6 60 ?_;(try simp only [zp,za,z0,zs]);refine tq 7 61 ?_;(try simp only [zp,za,z0,zs]);refine tq 8 62 ?_;(try simp only [zp,za,z0,zs]);refine tq 9 63 ?_;(try simp only [zp,za,z0,zs]);refine tu 10 64 ?_;(try simp only [zp,za,z0,zs]);refine tq 11 65 ?_;(try simp only [zp,za,z0,zs]);refine tu 12 66 ?_;(try simp only [zp,za,z0,zs]);refine tq 13 2 ?_;(try simp only [zp,za,z0,zs]);refine aJ (by kernel_rfl) ?_ _;generalize (if c=i then some ({ block:=b,off:=off }:Addr)else some { block:=b,off:=off+i })=Z;go_simp;go_wp2_with fail;go_ret;rw [HT.out,ko.out];exact⟨rfl,Si.out.drewN 1,Yo.out.trans (bP.drewN wc C 1)⟩
theorem Hs (w:World) (C:Nat) (A:Option Addr) (n c:Nat) (L:List Int) (i:Nat) (h:ax w C A n c L i) (h0:0<n) :
    Calls Tryz.prog 59 #[.pointer (some ⟨C,0,none⟩)] w (My Value.string w C A n c L (gR L i)):=by
 have HW:=qqh (rT w C A n c L i h h0);have c1:=h.blk.cell 1;have HN:=qqh (show gR L i=if eI (iA L i)=true then .ok (iA L i,bh L i)else .error (7,i) from rfl);obtain⟨R,hR⟩:∃ R,gR L i=R:=⟨_,rfl⟩;rw [hR];rw [hR]at HN;clear h hR;generalize iA L i=T at *;generalize bh L i=r at *;have Gb:=qqh (fun(W:World)=>jE T W);cases hnm:eI T with
 | true=>
  rw [hnm]at HN Gb;go_enter Tryz.func59,Tryz.ntmps59;go_wp2_with fail;refine HW.out.mono ?_;rintro e w1 ⟨rfl,hc1,aW⟩;have kg:=qqh hc1;have b7:=qqh aW;clear hc1 aW;go_wp2_with fail;refine(Gb.out _).mono ?_;rintro e w2 ⟨rfl,rfl⟩;go_wp2_with fail;go_ret;rw [HN.out];exact⟨rfl,kg.out,b7.out⟩
 | false=>
  rw [hnm]at HN Gb;go_enter Tryz.func59,Tryz.ntmps59;go_wp2_with fail;refine HW.out.mono ?_;rintro e w1 ⟨rfl,hc1,aW⟩;have kg:=qqh hc1;have b7:=qqh aW;clear hc1 aW;go_wp2_with fail;refine(Gb.out _).mono ?_;rintro e w2 ⟨rfl,rfl⟩;go_wp2_with fail;refine(ck 7 i _).mono ?_;rintro e w3 ⟨rfl,rfl⟩;go_wp2_with fail;rw [HN.out];exact⟨rfl,rfl,b7.out⟩
def L5 (L:List Int) (i:Nat):Bool:=decide (pk L (az L (bh L (i+1)))=61)
theorem uV (w:World) (C:Nat) (A:Option Addr) (n c:Nat) (L:List Int) (i:Nat) (h:ax w C A n c L i) (hi:i<n) :
    Calls Tryz.prog 58 #[.pointer (some ⟨C,0,none⟩)] w fun e w'=>e=.returned (.bool (L5 L i))∧Below w.heap.size w w':=by
 have hs:=h.size;have c0:=h.blk.cell 0;have c1:=h.blk.cell 1;have hw1:IntKind.i64.wrap ((i:Int)+1)=(i:Int)+1:=wrap_small _ (by omega) (by omega)
 have HN:=qqh (show ax (w.alloc (.cells #[.slice A n c,.int .i64 ((i:Int)+1)] 90)) w.heap.size A n c L (i+1) from
   ⟨⟨_,by rw [show(((i+1:Nat)):Int)=(i:Int)+1 by omega];exact ai.new _ _ _⟩,(h.row.lift (X':=fun _=>True) (fun _ _=>trivial)).keep (af.alloc _ (fun b _ hl=>Nat.ne_of_lt hl)),h.size,hi,h.cap⟩)
 have HB:=qqh (show Below w.heap.size w (w.alloc (.cells #[.slice A n c,.int .i64 ((i:Int)+1)] 90)) from(Below.refl _ _).alloc (Nat.le_refl _) _);have HV:=qqh (show L5 L i=decide (pk L (az L (bh L (i+1)))=61) from rfl);clear h;go_enter Tryz.func58,Tryz.ntmps58;go_wp2_with fail;refine(rT _ w.heap.size A n c L (i+1) HN.out (by omega)).mono ?_;rintro e w1 ⟨rfl,hc1,aW⟩;have kg:=qqh hc1;have b7:=qqh (HB.out.trans (aW.to HB.out.size (Nat.le_refl _)));clear hc1 aW;go_wp2_with fail;refine(jW _ w.heap.size A n c L _ kg.out).mono ?_;rintro e w2 ⟨rfl,hc2,bu⟩;have sC:=qqh hc2;have bG:=qqh (b7.out.trans (bu.to b7.out.size (Nat.le_refl _)));clear hc2 bu;go_wp2_with fail;refine(cW _ w.heap.size A n c L _ sC.out).mono ?_;rintro e w3 ⟨rfl,lU,bN⟩;have bL:=qqh (bG.out.trans (bN.to bG.out.size (Nat.le_refl _)));clear lU bN;go_wp2_with fail;go_ret;rw [HV.out];exact⟨bB (by first | rfl | (rw [Bool.eq_iff_iff];simp)),bL.out⟩
end Go.Proofs.YthgkedoildcbcaaGreatDoor
