/- SortSpan + SetFour + CurSpan + RdSpace + RdWord + RdName + RdQuoted + RdFr -/
import Derived.Test.YtamkjeipdjbemaaGreatDoorShelf2
import Derived.Test.YtamkjeipdjbemaaGreatDoorShelfM
import Derived.Test.YtamkjeipdjbemaaGreatDoorZp13
import Derived.Test.YtamkjeipdjbemaaGreatDoorZp24
import Derived.Test.YtamkjeipdjbemaaGreatDoorZp16
import Derived.Test.YtamkjeipdjbemaaGreatDoorZp34
import Derived.Test.YtamkjeipdjbemaaGreatDoorZp14
set_option maxHeartbeats 6400000
set_option maxRecDepth 100000
namespace Go.Proofs.YtamkjeipdjbemaaGreatDoor
open Go.RowKit
def nw (x:Int × Int):List Value:=[.int .i32 x.1,.int .i32 x.2]
def lO (x y:Int × Int):Int:=Lib.compareInt x.1 y.1
theorem BD (x y:Int × Int):ltOf lO x y=decide (x.1<y.1):=by
 unfold ltOf lO Lib.compareInt;by_cases h1:x.1<y.1
 ·simp [h1]
 by_cases h2:y.1<x.1 <;> simp [h1,h2]
theorem PB:Sort.SWO (ltOf lO) where
  irrefl x:=by rw [BD];simp
  trans x y z h1 h2:=by rw [BD]at *;simp at *;omega
  ntrans x y z h1 h2:=by rw [BD]at *;simp at *;omega
theorem Fe (x:Int) (w:World):Calls Tryz.prog 154 #[.int .i32 x] w fun e w'=>e=.returned (.bool false)∧w'=w:=by
 have h:(x != x)=false:=(by simp);go_enter Tryz.func154,Tryz.ntmps154;go_wp2_with fail;go_ret;exact⟨rfl,rfl⟩
theorem MY (x y:Int) (w:World):Calls Tryz.prog 138 #[.int .i32 x,.int .i32 y] w fun e w'=>e=.returned (.int .i64 (Lib.compareInt x y))∧w'=w:=by
 unfold Lib.compareInt;by_cases h1:x<y
 ·rw [if_pos h1];go_enter Tryz.func138,Tryz.ntmps138;go_wp2_with (go_at_call 154;refine(Fe _ _).mono ?_;rintro e w' ⟨rfl,rfl⟩);go_ret;exact⟨rfl,rfl⟩
 rw [if_neg h1];by_cases h2:x > y
 ·rw [if_pos h2];go_enter Tryz.func138,Tryz.ntmps138;go_wp2_with (go_at_call 154;refine(Fe _ _).mono ?_;rintro e w' ⟨rfl,rfl⟩);go_ret;exact⟨rfl,rfl⟩
 rw [if_neg h2];go_enter Tryz.func138,Tryz.ntmps138;go_wp2_with (go_at_call 154;refine(Fe _ _).mono ?_;rintro e w' ⟨rfl,rfl⟩);go_ret;exact⟨rfl,rfl⟩
theorem SO (x y:Int × Int) (W:World):Calls Tryz.prog 137 #[.agg #[.int .i32 x.1,.int .i32 x.2],.agg #[.int .i32 y.1,.int .i32 y.2]] W fun e w'=>e=.returned (.int .i64 (lO x y))∧∃ q os',w'=Sort.grow (W.drewN q) os':=by
 have Mk:=fun W'=>MY x.1 y.1 W';unfold lO;generalize Lib.compareInt x.1 y.1=r at Mk ⊢;go_enter Tryz.func137,Tryz.ntmps137;go_wp2_with (go_at_call 138;refine(Mk _).mono ?_;rintro e w' ⟨rfl,rfl⟩);go_ret;exact⟨rfl,0,_,by rw [Sort.alloc_eq_grow,Sort.alloc_eq_grow,Sort.grow_grow];rfl⟩
theorem Pp (blk off size:Nat) (w:World):CmpLays Tryz.prog 137 #[] nw 2 lO blk off size w:=fun _ _ _ _ x y=>SO x y _
theorem oz (l:ag) (t:Nat) (h:t<l.length*2):(au l)[t]? = some ((nw (l.toArray[t / 2]!))[t % 2]!):=by
 have hk:t / 2<l.length:=(by omega);obtain⟨⟨x,y⟩,hx⟩:∃ z,l[t / 2]? = some z:=⟨_,List.getElem?_eq_getElem hk⟩;obtain⟨c0,c1⟩:=kD l (t / 2) x y hx;have hg:l.toArray[t / 2]! =(x,y):=by
  rw [getElem!_pos l.toArray (t / 2) (by simpa using hk)];simp only [List.getElem_toArray];exact(List.getElem?_eq_some_iff.1 hx).2
 rw [hg];rcases Nat.mod_two_eq_zero_or_one t with h0 | h0
 ·rw [h0];have e:t=t / 2*2:=(by omega);rw [← e]at c0;exact c0
 rw [h0];have e:t=t / 2*2+1:=(by omega);rw [← e]at c1;exact c1
theorem Cg {l:ag} {n:Nat} {d':Array (Int × Int)} (hn:l.length=n) (hp:Sort.PermIn 0 n l.toArray d') (hs:Sort.SortedIn (ltOf lO) 0 n d') :
    d'.size=n∧l.Perm d'.toList∧d'.toList.Pairwise (fun a b=>a.1≤b.1):=by
 obtain⟨h1,_,h3⟩:=hp;have hsz:d'.size=n:=(by rw [h1];simpa using hn);have e1:(d'.extract 0 n).toList=d'.toList:=(by rw [← hsz];simp);have e2:(l.toArray.extract 0 n).toList=l:=(by rw [← hn];simp);rw [e1,e2]at h3;refine⟨hsz,h3.symm,List.pairwise_iff_getElem.2 fun i j hi hj hij=>?_⟩;have hi':i<d'.size:=(by simpa using hi);have hj':j<d'.size:=(by simpa using hj);have:=hs i j (Nat.zero_le _) hij (by omega);rw [BD,getElem!_pos d' i hi',getElem!_pos d' j hj',decide_eq_false_iff_not]at this;simp only [Array.getElem_toList];omega
theorem qq (w:World) (g m:Nat) (dk:Array (Int × Int)) (os:Array Obj):bQ w g (sortWorldK nw 2 w g 0 m dk os):=by
 unfold sortWorldK Sort.putRowK Sort.putRow Sort.mapBlock Sort.grow Sort.ahead;refine⟨by simp,rfl,rfl,rfl,fun k hk hne=>?_⟩;simp only;rw [Array.getElem?_append_left (by simpa using hk),Array.getElem?_modify,if_neg (Ne.symm hne)]
theorem Gv (g n c base:Nat) (l:ag) (w:World) (hn:n≤100000) (hl:l.length=n) (ho:w.ownsRow base 95 2 (.slice (some ⟨g,0,none⟩) n c) n (au l)) :
    Calls Tryz.prog 136 #[.slice (some ⟨g,0,none⟩) n c,.func (.func 137) #[] #[]] w fun e w'=>e=.returned (.tuple #[])∧bQ w g w' ∧
      ∃ l',l.Perm l'∧l'.Pairwise (fun a b=>a.1≤b.1)∧mA w' w'.heap.size (some ⟨g,0,none⟩) n l':=by
 have hg:=(bt ho rfl).2;have hH:Sort.HoldsK nw 2 w g 0 l.toArray:=by
  intro j hj;rw [Sort.size_flatK]at hj;have hj2:j<l.length*2:=(by simpa using hj);rw [Sort.get_flatK _ _ _ _ (by simpa using hj2),Nat.zero_add];refine⟨?_,ho.frozenAt _⟩;rw [ho.cellAt _ (by omega)];exact oz l j hj2
 have hsz:l.toArray.size=n:=(by simpa using hl);have eg:∀ args w,(callFunc 137 args).run Tryz.prog w=.ok (.enter 137 args) w:=enters_of Tryz.func137 (by kernel_rfl) rfl;have Mk:=AnyQ.slices_SortFunc Tryz.sortSpan 2 Tryz.isAgg95 Tryz.sizeOf95 nw (fun _=>rfl) (fun x v hv=>by simp [nw]at hv;rcases hv with rfl | rfl <;> rfl) lO PB 137 #[] g 0 c l.toArray w eg (Pp g 0 _ w) hH hg (by rw [hsz];omega);rw [hsz]at Mk;refine Calls.mono Mk ?_;rintro e w' ⟨rfl,d',m,os,hp,hs,rfl⟩;obtain⟨h1,h2,h3⟩:=Cg hl hp hs;refine⟨rfl,qq _ _ _ _ _,d'.toList,h2,h3,⟨by rw [bP];simp [h1],fun h0=>⟨g,0,rfl,Nat.lt_of_lt_of_le hg (qq w g m d' os).1,fun j u hu=>?_⟩⟩⟩;have hj:j<d'.toList.length*2:=(by have:=(List.getElem?_eq_some_iff.1 hu).1;rwa [bP]at this);rw [oz _ j hj]at hu;have hK:=holdsK_sortWorldK_c nw 2 w g 0 l.toArray d' m os hH hg (by rw [h1,hsz]);have:=(hK j (by rw [Sort.size_flatK];simpa using hj)).1;rw [Sort.get_flatK _ _ _ _ (by simpa using hj)]at this;rw [this];simpa using hu
theorem Nq (w:World) :
    Calls Tryz.prog 136 #[.slice none 0 0,.func (.func 137) #[] #[]] w fun e w'=>e=.returned (.tuple #[])∧w'=w:=by
 have H1:=qqh (show Calls Tryz.prog 162 #[.slice none 0 0,.int .i64 0,.int .i64 0,.func (.func 137) #[] #[]] w fun e w'=>e=.returned (.tuple #[])∧w'=w by
  go_enter Tryz.func162,Tryz.ntmps162;go_wp2_with fail;go_loopw [8] (fun i wr=>i=.int .i64 1∧wr=w) (fun _ _=>0);(case atStart=>exact⟨rfl,rfl⟩);obtain⟨rfl,rfl⟩:=hrel;go_wp2_with fail;go_end0;exact⟨rfl,rfl⟩)
 have H2:=qqh (fun(x:Int)=>show Calls Tryz.prog 152 #[.slice none 0 0,.int .i64 0,.int .i64 0,.int .i64 x,.func (.func 137) #[] #[]] w fun e w'=>e=.returned (.tuple #[])∧w'=w by
  go_enter Tryz.func152,Tryz.ntmps152;go_wp2_with fail;go_loopw [1,2,3] (fun a b c wr=>a=.int .i64 0∧b=.int .i64 0∧c=.int .i64 x∧wr=w) (fun _ _ _ _=>0);(case atStart=>exact⟨rfl,rfl,rfl,rfl⟩);obtain⟨rfl,rfl,rfl,rfl⟩:=hrel;go_wp2_with fail;refine H1.out.mono ?_;rintro e w1 ⟨rfl,rfl⟩;go_wp2_with fail;(try simp only [Exit.inBlock,Exit.then]);refine bodyPost_ret (results_none rfl _ _ _) rfl ?_;exact⟨rfl,rfl⟩)
 have H3:=qqh (show Calls Tryz.prog 153 #[.int .u64 0] w fun e w'=>e=.returned (.int .i64 (Lib.bitLen 0:Nat))∧w'=w from Tryz.bits_Len 0 w (by decide) (by decide));go_enter Tryz.func136,Tryz.ntmps136;go_wp2_with (first | (go_at_call 153;refine H3.out.mono ?_;rintro e w1 ⟨rfl,rfl⟩) | (go_at_call 152;refine(H2.out _).mono ?_;rintro e w1 ⟨rfl,rfl⟩));go_end0;exact⟨rfl,rfl⟩
def cn (w:World) (r:ag × Int) (e:Ending) (w':World):Prop:=∃ A' n' c',e=.returned (.tuple #[.slice A' n' c',.int .i64 r.2])∧cL w' (fun b=>w.heap.size≤b) 2 A' n' (au r.1)∧n'≤200∧n'≤c'∧Below w.heap.size w w'
theorem cn.xy {w w1:World} {A:Option Addr} {n c:Nat} {s:ag} {e:Ending} {w':World} (h1:cL w1 (fun b=>w.heap.size≤b) 2 A n (au s)) (hc:n≤c) (hb:Below w.heap.size w w1)
    (he:e=.returned (if 200<n then .tuple #[.slice none 0 0,.int .i64 5]else .tuple #[.slice A n c,.int .i64 0])∧w'=w1):cn w (uN s) e w':=by
 obtain⟨rfl,rfl⟩:=he;have hl:s.length=n:=(by have:=h1.1;rw [bP]at this;omega);unfold uN;rw [hl];by_cases h:200<n
 ·rw [if_pos h,if_pos h];exact⟨none,0,0,rfl,⟨rfl,fun h=>absurd h (by omega)⟩,by omega,by omega,hb⟩
 rw [if_neg h,if_neg h];exact⟨A,n,c,rfl,h1,by omega,hc,hb⟩
theorem cL.lift {w:World} {X X':Nat→Prop} {sz n:Nat} {A:Option Addr} {xs:List Value} (h:cL w X sz A n xs) (hX:∀ b,X b→X' b):cL w X' sz A n xs:=h.keep (aa.refl hX)
def WK (w:World) (n:Nat) (i:Value) (wr:World):Prop:=∃ j:Nat,j≤n∧i=.int .i64 j∧Below w.heap.size w wr
def SI (w:World) (l:ag) (e:Ending) (w':World):Prop:=∃ l',l.Perm l'∧l'.Pairwise (fun a b=>a.1≤b.1)∧cn w (uN (i9 l')) e w'
theorem Pn (A:Option Addr) (n c:Nat) (l:ag) (w:World) (hn:n≤1000) (hr:oL l) (hl:mA w w.heap.size A n l) :
    Calls Tryz.prog 116 #[.slice A n c] w (SI w l):=by
 have aM:=qqh hl.len;have HL:=qqh hl;have HR:=qqh hr;clear hl hr;go_enter Tryz.func116,Tryz.ntmps116;go_wp2_with fail;go_loopw [9] (WK w n) (fun i _=>n - (intOf i).toNat);(case atStart=>exact⟨0,Nat.zero_le _,rfl,qqb⟩);obtain⟨j,hj,rfl,hb⟩:=hrel;have hz:=hb.size;by_cases hlt:j<n
 ·obtain⟨⟨x,y⟩,hx⟩:∃ z,l[j]? = some z:=⟨_,List.getElem?_eq_getElem (by rw [aM.out];exact hlt)⟩;obtain⟨b,off,rfl,cK,c0,c1⟩:=HL.out.at hx;have d0:=(hb.cell (p:=⟨b,off+j*2,none⟩) cK).trans c0;have d1:=(hb.cell (p:=⟨b,off+j*2+1,none⟩) cK).trans c1;have hxy:=HR.out (x,y) (List.mem_of_getElem? hx);simp only at hxy;have bF:=qqh (hb.alloc hz (.cells #[.int .i32 x,.int .i32 y] 95));have g1:decide (x<0)=false:=decide_eq_false (by omega);have g2:decide (1114111<y)=false:=decide_eq_false (by omega);have g3:decide (y<x)=false:=decide_eq_false (by omega);clear hx c0 c1 hb;go_wp2_with fail;exact⟨⟨j+1,by omega,by go_num,bF.out⟩,by simp [intOf];omega⟩
 obtain rfl:j=n:=(by omega);have x8:=qqh (Dy A j c l wr (by omega) ((Rd.below HL.out hb).more hz));have HB:=qqh hb;clear hb;go_wp2_with fail;refine x8.out.mono ?_;rintro e w1 ⟨⟨v,rfl,ho⟩,aP⟩;have bF:=qqh (HB.out.trans (aP.mono hz));have nM:=qqh (mH ho hz);clear aP x8;have Xm:=qqh (av ho);rcases ho.2 with ⟨rfl,hn0⟩ | ⟨g,cap,cur,rfl,hg,hh,VJ⟩
 ·obtain rfl:j=0:=hn0;have Ck:l = []:=List.eq_nil_of_length_eq_zero aM.out;subst Ck;clear ho Xm;go_wp2_with fail;refine(Nq _).mono ?_;rintro e w2 ⟨rfl,rfl⟩;have HM:=qqh (uz none 0 0 [] w2 (by omega) (by intro x hx;simp at hx) Rd.nil);go_wp2_with fail;refine HM.out.mono ?_;rintro e w3 ⟨A3,n3,c3,rfl,lH,Su,lR,bM⟩;have bN:=qqh (bF.out.trans (bM.mono bF.out.size));have HP:=qqh (fun(e:Ending) (w':World) h=>show cn w (uN (i9 [])) e w' from cn.xy (lH.lift (X':=fun b=>w.heap.size≤b) (fun _ h=>Nat.le_trans bF.out.size h)) lR bN.out h);clear lH bM;go_wp2_with fail;refine(oC A3 n3 c3 w3).mono ?_;rintro e w4 he;obtain⟨A5,n5,c5,rfl,h5⟩:=HP.out e w4 he;have H5:=qqh h5;clear h5 he HP;go_wp2_with fail;go_ret2;exact⟨[],List.Perm.nil,List.Pairwise.nil,A5,n5,c5,rfl,H5.out⟩
 have HS:=qqh (Gv g j cap w.heap.size l w1 (by omega) aM.out nM.out);have HGW:=qqh (Nat.le_trans hz hg);clear ho Xm VJ hh hg;go_wp2_with fail;refine HS.out.mono ?_;rintro e w2 ⟨rfl,lI,l',hp,Qj,hrd⟩;have bf:=qqh (bF.out.trans (lI.to bF.out.size HGW.out));have iz:=qqh (show oL l' from fun x hx=>HR.out x (hp.mem_iff.2 hx));have HP:=qqh hp;have wN:=qqh Qj;have HM:=qqh (uz (some ⟨g,0,none⟩) j cap l' w2 (by omega) iz.out hrd);clear lI hp Qj hrd HS;go_wp2_with fail;refine HM.out.mono ?_;rintro e w3 ⟨A3,n3,c3,rfl,lH,Su,lR,bM⟩;have bN:=qqh (bf.out.trans (bM.mono bf.out.size));have HT:=qqh (fun(e:Ending) (w':World) h=>show cn w (uN (i9 l')) e w' from cn.xy (lH.lift (X':=fun b=>w.heap.size≤b) (fun _ h=>Nat.le_trans bf.out.size h)) lR bN.out h);clear lH bM;go_wp2_with fail;refine(oC A3 n3 c3 w3).mono ?_;rintro e w4 he;obtain⟨A5,n5,c5,rfl,h5⟩:=HT.out e w4 he;have H5:=qqh h5;clear h5 he HT;go_wp2_with fail;go_ret2;exact⟨l',HP.out,wN.out,A5,n5,c5,rfl,H5.out⟩
structure cF (w:World) (A:Option Addr) (n c:Nat) (s:ag):Prop where
  right:aJ s
  rd:mA w w.heap.size A n s
  cap:n≤c
theorem cF.below {w w':World} {A:Option Addr} {n c:Nat} {s:ag} (h:cF w A n c s) (hb:Below w.heap.size w w'):cF w' A n c s:=⟨h.right,(Rd.below h.rd hb).more hb.size,h.cap⟩
theorem cF.le {w:World} {A:Option Addr} {n c:Nat} {s:ag} (h:cF w A n c s):n≤200:=by have:=h.rd.len;have:=h.right.size;omega
theorem cF.RK {w:World} {A:Option Addr} {n c:Nat} {s:ag} (h:cF w A n c s):iH w xG s [.slice A n c] :=
  ⟨_,rfl,A,n,c,rfl,cL.Hp h.rd qql (fun _ _=>trivial),by have:=h.le;simp only [maxLen];omega⟩
theorem M7 {w:World} {A:Option Addr} {n c:Nat} {s:ag} (h:cF w A n c s) :
    bS (iH (w.alloc (.cells #[.slice A n c] 26)) xG) (w.alloc (.cells #[.slice A n c] 26)) xG 1 (some ⟨w.heap.size,0,none⟩) 1 [s]:=by
 have hb:=(Below.refl w.heap.size w).alloc qql (.cells #[.slice A n c] 26);refine⟨[[.slice A n c]],rfl,rfl,?_,by simp,cL.new 26 [.slice A n c] rfl trivial⟩;intro i a cs ha hc;rcases i with _ | i
 ·simp at ha hc;subst ha hc;exact(h.below hb).RK
 simp at ha
theorem NB {w:World} {A B:Option Addr} {n c m d:Nat} {a b:ag} (ha:cF w A n c a) (hb:cF w B m d b) :
    bS (iH (w.alloc (.cells #[.slice A n c,.slice B m d] 26)) xG) (w.alloc (.cells #[.slice A n c,.slice B m d] 26)) xG 1 (some ⟨w.heap.size,0,none⟩) 2 [a,b]:=by
 have eP:=(Below.refl w.heap.size w).alloc qql (.cells #[.slice A n c,.slice B m d] 26);refine⟨[[.slice A n c],[.slice B m d]],rfl,rfl,?_,by simp,cL.new 26 [.slice A n c,.slice B m d] rfl trivial⟩;intro i x cs hx hc;match i with
 | 0=>simp at hx hc;subst hx hc;exact(ha.below eP).RK
 | 1=>simp at hx hc;subst hx hc;exact(hb.below eP).RK
 | i+2=>simp at hx
theorem wj {w:World} {A:Option Addr} {n c:Nat} {s:ag} (h:cF w A n c s) :
    Calls Tryz.prog 115 #[.slice (some ⟨w.heap.size,0,none⟩) 1 1] (w.alloc (.cells #[.slice A n c] 26)) fun e w'=>e=.returned (.int .i64 0)∧Below w.heap.size w w' :=
  (wV xG [s] _ 1 1 _ (by decide) (by simpa using h.right) (M7 h)).mono fun _ _ ⟨he,hb⟩=>⟨he,(qqb.alloc qql _).trans (hb.mono (by simp))⟩
theorem kT {w:World} {A B:Option Addr} {n c m d:Nat} {a b:ag} (ha:cF w A n c a) (hb:cF w B m d b) :
    Calls Tryz.prog 115 #[.slice (some ⟨w.heap.size,0,none⟩) 2 2] (w.alloc (.cells #[.slice A n c,.slice B m d] 26)) fun e w'=>e=.returned (.int .i64 0)∧Below w.heap.size w w' :=
  (wV xG [a,b] _ 2 2 _ (by decide) (by simpa using ⟨ha.right,hb.right⟩) (NB ha hb)).mono fun _ _ ⟨he,hb⟩=>⟨he,(qqb.alloc qql _).trans (hb.mono (by simp))⟩
theorem uP {w:World} {A B:Option Addr} {n c m d:Nat} {a b:ag} (ha:cF w A n c a) (hb:cF w B m d b) :
    Calls Tryz.prog 117 #[.slice (some ⟨w.heap.size,0,none⟩) 2 2] (w.alloc (.cells #[.slice A n c,.slice B m d] 26)) fun e w'=>
      ∃ A' c' k,e=.returned (.slice A' k c')∧k≤1000∧mA w' w'.heap.size A' k (a++b)∧Below w.heap.size w w':=by
 have eP:=(Below.refl w.heap.size w).alloc qql (.cells #[.slice A n c,.slice B m d] 26);have hf : [a,b].flatten=a++b:=(by simp)
 have h:=Bq [a,b] [.slice A n c,.slice B m d] (some ⟨w.heap.size,0,none⟩) 2 2 (w.alloc (.cells #[.slice A n c,.slice B m d] 26)) rfl
   (by have:=Rd.new w 26 1 2 [.slice A n c,.slice B m d] rfl;simpa using this)
   (by
     intro i l u hl hu
     match i with
     | 0=>simp at hl hu;subst hl hu;exact⟨A,n,c,rfl,(ha.below eP).rd⟩
     | 1=>simp at hl hu;subst hl hu;exact⟨B,m,d,rfl,(hb.below eP).rd⟩
     | i+2=>simp at hl)
   (by rw [hf,List.length_append];have:=ha.right.size;have:=hb.right.size;omega) (by decide)
 rw [hf]at h;refine h.mono ?_;rintro e w' ⟨⟨v,rfl,ho⟩,aP⟩;obtain⟨A',c',rfl,_⟩:=av ho;exact⟨A',c',_,rfl,by rw [List.length_append];have:=ha.right.size;have:=hb.right.size;omega,Rd.b8 ho,eP.trans (aP.mono (by simp))⟩
theorem qR (A B:Option Addr) (n c m d:Nat) (a b:ag) (w:World) (ha:cF w A n c a) (hb:cF w B m d b) :
    Calls Tryz.prog 95 #[.slice A n c,.slice B m d] w (cn w (nS 124 a b)):=by
 have HA:=qqh ha;have HB:=qqh hb;clear ha hb;go_enter Tryz.func95,Tryz.ntmps95;go_wp2_with fail;refine(kT HA.out HB.out).mono ?_;rintro e w1 ⟨rfl,aP⟩;have pZ:=qqh (HA.out.below aP);have bF:=qqh (HB.out.below aP);have vv:=qqh aP;clear aP;go_wp2_with fail;refine(uP pZ.out bF.out).mono ?_;rintro e w2 ⟨A2,c2,k,rfl,hlen,hrd,aX⟩;have Fl:=qqh (vv.out.trans (aX.mono vv.out.size));have HO:=qqh (Pn A2 k c2 (a++b) w2 hlen (fun x hx=>by
  rcases List.mem_append.1 hx with h | h;exact HA.out.right.each x h;exact HB.out.right.each x h) hrd)
 clear hrd aX;go_wp2_with fail;refine HO.out.mono ?_;rintro e w3 ⟨l',hp,Qj,A3,n3,c3,rfl,h1,h2,h3,h4⟩;rw [← Ld HA.out.right HB.out.right hp Qj]at h1 ⊢;have H1:=qqh (h1.lift (X':=fun b=>w.heap.size≤b) (fun _ h=>Nat.le_trans Fl.out.size h));have H4:=qqh (Fl.out.trans (h4.mono Fl.out.size));clear h1 h4 hp Qj HO;go_wp2_with fail;go_ret2;exact⟨A3,n3,c3,rfl,H1.out,h2,h3,H4.out⟩
theorem yB (A B:Option Addr) (n c m d:Nat) (a b:ag) (w:World) (ha:cF w A n c a) (hb:cF w B m d b) :
    Calls Tryz.prog 97 #[.slice A n c,.slice B m d] w (cn w (nS 38 a b)):=by
 have HA:=qqh ha;have HB:=qqh hb;clear ha hb;rw [Po HA.out.right HB.out.right];go_enter Tryz.func97,Tryz.ntmps97;go_wp2_with fail;refine(kT HA.out HB.out).mono ?_;rintro e w1 ⟨rfl,aP⟩;have HM:=qqh (Az A B n m c d a b w1 (by have:=HA.out.le;have:=HB.out.le;omega) HA.out.cap HB.out.cap HA.out.right.canon HB.out.right.canon (HA.out.below aP).rd (HB.out.below aP).rd);have vv:=qqh aP;clear aP;go_wp2_with fail;refine HM.out.mono ?_;rintro e w3 ⟨A3,n3,c3,rfl,lH,Su,lR,bM⟩;have bN:=qqh (vv.out.trans (bM.mono vv.out.size));have HT:=qqh (fun(e:Ending) (w':World) h=>show cn w (uN (dU a b)) e w' from cn.xy (lH.lift (X':=fun b=>w.heap.size≤b) (fun _ h=>Nat.le_trans vv.out.size h)) lR bN.out h);clear lH bM;go_wp2_with fail;refine(oC A3 n3 c3 w3).mono ?_;rintro e w4 he;obtain⟨A5,n5,c5,rfl,h5⟩:=HT.out e w4 he;have H5:=qqh h5;clear h5 he HT;go_wp2_with fail;go_ret2;exact⟨A5,n5,c5,rfl,H5.out⟩
theorem GQ (A B:Option Addr) (n c m d:Nat) (a b:ag) (w:World) (ha:cF w A n c a) (hb:cF w B m d b) :
    Calls Tryz.prog 98 #[.slice A n c,.slice B m d] w (cn w (nS 45 a b)):=by
 have HA:=qqh ha;have HB:=qqh hb;clear ha hb;rw [Mw HA.out.right HB.out.right];go_enter Tryz.func98,Tryz.ntmps98;go_wp2_with fail;refine(kT HA.out HB.out).mono ?_;rintro e w1 ⟨rfl,aP⟩;have pZ:=qqh (HA.out.below aP);have HN:=qqh (Ef B m d b w1 HB.out.le HB.out.right (HB.out.below aP).rd);have vv:=qqh aP;clear aP;go_wp2_with fail;refine HN.out.mono ?_;rintro e w2 ⟨A2,n2,c2,rfl,i4,hn2,hc2,aX⟩;have bf:=qqh (vv.out.trans (aX.mono vv.out.size));have HM:=qqh (Az A A2 n n2 c c2 a (wP b) w2 (by have:=HA.out.le;omega) HA.out.cap hc2 HA.out.right.canon (AS HB.out.right.canon).1 (pZ.out.below aX).rd i4.of);clear i4 aX;go_wp2_with fail;refine HM.out.mono ?_;rintro e w3 ⟨A3,n3,c3,rfl,lH,Su,lR,bM⟩;have bN:=qqh (bf.out.trans (bM.mono bf.out.size));have HT:=qqh (fun(e:Ending) (w':World) h=>show cn w (uN (dU a (wP b))) e w' from cn.xy (lH.lift (X':=fun b=>w.heap.size≤b) (fun _ h=>Nat.le_trans bf.out.size h)) lR bN.out h);clear lH bM;go_wp2_with fail;refine(oC A3 n3 c3 w3).mono ?_;rintro e w4 he;obtain⟨A5,n5,c5,rfl,h5⟩:=HT.out e w4 he;have H5:=qqh h5;clear h5 he HT;go_wp2_with fail;go_ret2;exact⟨A5,n5,c5,rfl,H5.out⟩
theorem BV (A:Option Addr) (n c:Nat) (a b:ag) (w:World) (ha:cF w A n c a) :
    Calls Tryz.prog 100 #[.slice A n c] w (cn w (nS 94 a b)):=by
 have HA:=qqh ha;clear ha;rw [Ll HA.out.right b];go_enter Tryz.func100,Tryz.ntmps100;go_wp2_with fail;refine(wj HA.out).mono ?_;rintro e w1 ⟨rfl,aP⟩;have HN:=qqh (Ef A n c a w1 HA.out.le HA.out.right (HA.out.below aP).rd);have vv:=qqh aP;clear aP;go_wp2_with fail;refine HN.out.mono ?_;rintro e w3 ⟨A3,n3,c3,rfl,lH,Su,lR,bM⟩;have bN:=qqh (vv.out.trans (bM.mono vv.out.size));have HT:=qqh (fun(e:Ending) (w':World) h=>show cn w (uN (wP a)) e w' from cn.xy (lH.lift (X':=fun b=>w.heap.size≤b) (fun _ h=>Nat.le_trans vv.out.size h)) lR bN.out h);clear lH bM;go_wp2_with fail;refine(oC A3 n3 c3 w3).mono ?_;rintro e w4 he;obtain⟨A5,n5,c5,rfl,h5⟩:=HT.out e w4 he;have H5:=qqh h5;clear h5 he HT;go_wp2_with fail;go_ret2;exact⟨A5,n5,c5,rfl,H5.out⟩
theorem dn (w:World) (C:Nat) (A:Option Addr) (n c:Nat) (L:List Int) (i:Nat) (h:aB w C A n c L i) :
    Calls Tryz.prog 35 #[.pointer (some ⟨C,0,none⟩)] w fun e w'=>e=.returned (.int .i32 (pk L i))∧aB w' C A n c L i∧bQ w C w' :=
  (mT w C A n c L i h).mono fun e w' ⟨he,m,hw⟩=>⟨he,by rw [hw];exact h.drewN m,by rw [hw];exact bQ.drewN w C m⟩
theorem mE (w:World) (C:Nat) (A:Option Addr) (n c:Nat) (L:List Int) (i k:Nat) (h:aB w C A n c L i) (hk:k≤1000) :
    Calls Tryz.prog 61 #[.pointer (some ⟨C,0,none⟩),.int .i64 k] w fun e w'=>e=.returned (.int .i32 (pk L (i+k)))∧aB w' C A n c L i∧bQ w C w' :=
  (CN w C A n c L i k h hk).mono fun e w' ⟨he,m,hw⟩=>⟨he,by rw [hw];exact h.drewN m,by rw [hw];exact bQ.drewN w C m⟩
def eT (w:World) (C:Nat) (A:Option Addr) (n c:Nat) (L:List Int) (r:kG ag) (e:Ending) (w':World):Prop :=
  match r with
  | .ok (s,j)=>(∃ B m d,e=.returned (.slice B m d)∧cL w' (fun b=>w.heap.size≤b) 2 B m (au s)∧m≤d)∧aB w' C A n c L j∧bQ w C w'
  | .error (x,p)=>e=bA x p∧bQ w C w'
def ko (L:List Int) (i:Nat):kG ag:=match jP L i with
  | .error e=>.error e
  | .ok (x,j)=>.ok ([x],j)
theorem Ma {L:List Int} {i:Nat} {e:Int × Nat} (h:dz L i=.error e):ko L i=.error e:=by unfold ko jP;rw [h]
theorem An {L:List Int} {i j:Nat} {x:Int} (h:dz L i=.ok (x,j)) (h2:¬(pk L j=45∧pk L (j+1)≠91)):ko L i=.ok ([(x,x)],j):=by unfold ko jP;rw [h];simp only;rw [if_neg h2]
theorem Li {L:List Int} {i j:Nat} {x:Int} {e:Int × Nat} (h:dz L i=.ok (x,j)) (h2:pk L j=45∧pk L (j+1)≠91) (h3:dz L (j+1)=.error e):ko L i=.error e:=by
 unfold ko jP;rw [h];simp only;rw [if_pos h2,h3]
theorem LF {L:List Int} {i j k:Nat} {x y:Int} (h:dz L i=.ok (x,j)) (h2:pk L j=45∧pk L (j+1)≠91) (h3:dz L (j+1)=.ok (y,k)) (h4:y<x):ko L i=.error (3,j+1):=by
 unfold ko jP;rw [h];simp only;rw [if_pos h2,h3];simp only;rw [if_pos h4]
theorem Jl {L:List Int} {i j k:Nat} {x y:Int} (h:dz L i=.ok (x,j)) (h2:pk L j=45∧pk L (j+1)≠91) (h3:dz L (j+1)=.ok (y,k)) (h4:¬ y<x):ko L i=.ok ([(x,y)],k):=by
 unfold ko jP;rw [h];simp only;rw [if_pos h2,h3];simp only;rw [if_neg h4]
theorem tr {w W:World} {C:Nat} {A:Option Addr} {n c:Nat} {L:List Int} {j:Nat} (x y:Int) (h:aB W C A n c L j) (hb:bQ w C W) :
    eT w C A n c L (.ok ([(x,y)],j)) (.returned (.slice (some ⟨W.heap.size,0,none⟩) 1 1)) (W.alloc (.cells #[.int .i32 x,.int .i32 y] 95)) :=
  ⟨⟨_,1,1,rfl,cL.new 95 [.int .i32 x,.int .i32 y] rfl hb.1,qql⟩,h.below (qqb.alloc qql _),hb.trans (bQ.below C (qqb.alloc qql _))⟩
theorem MO (w:World) (C:Nat) (A:Option Addr) (n c:Nat) (L:List Int) (i:Nat) (h:aB w C A n c L i) (hL:ia L) :
    Calls Tryz.prog 99 #[.pointer (some ⟨C,0,none⟩)] w (eT w C A n c L (ko L i)):=by
 have hs:=h.size;have hlen:=h.len;have HC:=qqh h;have iP:=qqh (fun(W:World) (k:Nat) (h:aB W C A n c L k)=>dn W C A n c L k h);have Oz:=qqh (fun(W:World) (k:Nat) (h:aB W C A n c L k)=>mE W C A n c L k 1 h (by decide));have Jj:=qqh (fun(W:World) (k:Nat) (h:aB W C A n c L k)=>CK W C A n c L k h hL);have Fo:=qqh hL.ok;clear h hL;obtain⟨R,hR⟩:∃ R,ko L i=R:=⟨_,rfl⟩;rw [hR];have fW:=qqh hR;clear hR;have H1:=qqh (Jj.out w i HC.out);cases h1:dz L i with
 | error e0=>
  obtain⟨x,p⟩:=e0;rw [h1]at H1;have HR:=qqh (fW.out.symm.trans (Ma h1));clear h1;go_enter Tryz.func99,Tryz.ntmps99;go_wp2_with fail;refine H1.out.mono ?_;rintro e w5 ⟨he,hb⟩;unfold bA at he;subst he;have eD:=qqh hb;clear hb;go_wp2_with fail;rw [HR.out];exact⟨rfl,rfl,eD.out⟩
 | ok q=>
  obtain⟨x,j⟩:=q;rw [h1]at H1;have j8:=qqh h1;obtain⟨_,hx0,hx1⟩:=oG Fo.out h1;clear h1;by_cases hd:pk L j=45
  ·have CB:j<n:=(by rw [← hlen];exact bO (by omega));have tN:=qqh (fun(W:World) (h:aB W C A n c L j)=>show Calls Tryz.prog 35 #[.pointer (some ⟨C,0,none⟩)] W fun e w'=>e=.returned (.int .i32 45)∧aB w' C A n c L j∧bQ W C w' by have:=iP.out W j h;rwa [hd]at this);by_cases hb:pk L (j+1)=91
   ·have HR:=qqh (fW.out.symm.trans (An j8.out (fun h=>h.2 hb)));have Mt:=qqh (fun(W:World) (h:aB W C A n c L j)=>show Calls Tryz.prog 61 #[.pointer (some ⟨C,0,none⟩),.int .i64 1] W fun e w'=>e=.returned (.int .i32 91)∧aB w' C A n c L j∧bQ W C w' by have:=Oz.out W j h;rwa [hb]at this);clear hd hb;go_enter Tryz.func99,Tryz.ntmps99;go_wp2_with fail;refine H1.out.mono ?_;rintro e w5 ⟨rfl,hc,hb⟩;have sM:=qqh hc;have eD:=qqh hb;clear hb hc;go_wp2_with fail;refine(tN.out _ sM.out).mono ?_;rintro e w6 ⟨rfl,hc,hb⟩;have FP:=qqh hc;have iQ:=qqh (eD.out.trans hb);clear hb hc;go_wp2_with fail;refine(Mt.out _ FP.out).mono ?_;rintro e w7 ⟨rfl,hc,hb⟩;have Hv:=qqh hc;have iF:=qqh (iQ.out.trans hb);clear hb hc;go_wp2_with fail;go_ret;rw [HR.out];exact tr x x Hv.out iF.out
   have Mt:=qqh (fun(W:World) (h:aB W C A n c L j)=>Oz.out W j h);have hq:(pk L (j+1) != 91)=true:=(by simp;exact hb);have Z9:=qqh (And.intro hd hb);generalize pk L (j+1)=r2 at hq Mt;have H2:=qqh (fun(W:World) (h:aB W C A n c L (j+1))=>Jj.out W (j+1) h);have hcast:((j+1:Nat):Int)=(j:Int)+1:=(by omega);have hw1:IntKind.i64.wrap ((j:Int)+1)=(j:Int)+1:=wrap_small _ (by omega) (by omega);clear hd hb;cases h2:dz L (j+1)with
   | error e0=>
    obtain⟨x2,p2⟩:=e0;rw [h2]at H2;have HR:=qqh (fW.out.symm.trans (Li j8.out Z9.out h2));clear h2;go_enter Tryz.func99,Tryz.ntmps99;go_wp2_with fail;refine H1.out.mono ?_;rintro e w5 ⟨rfl,hc,hb⟩;have sM:=qqh hc;have eD:=qqh hb;clear hb hc;go_wp2_with fail;refine(tN.out _ sM.out).mono ?_;rintro e w6 ⟨rfl,hc,hb⟩;have FP:=qqh hc;have iQ:=qqh (eD.out.trans hb);clear hb hc;go_wp2_with fail;refine(Mt.out _ FP.out).mono ?_;rintro e w7 ⟨rfl,hc,hb⟩;have Hv:=qqh hc;have iF:=qqh (iQ.out.trans hb);clear hb hc;obtain⟨d1,d2,d3,d4⟩:=Hv.out.step CB;have SB:=qqh d3;have qZ:=qqh (iF.out.trans d4);clear d3 d4;go_wp2_with fail;refine(H2.out _ SB.out).mono ?_;rintro e w9 ⟨he,hb⟩;unfold bA at he;subst he;have cB:=qqh (qZ.out.trans hb);clear hb;go_wp2_with fail;rw [HR.out];exact⟨rfl,rfl,cB.out⟩
   | ok q=>
    obtain⟨y,k⟩:=q;rw [h2]at H2;have qT:=qqh h2;obtain⟨_,hy0,hy1⟩:=oG Fo.out h2;clear h2;go_enter Tryz.func99,Tryz.ntmps99;go_wp2_with fail;refine H1.out.mono ?_;rintro e w5 ⟨rfl,hc,hb⟩;have sM:=qqh hc;have eD:=qqh hb;clear hb hc;go_wp2_with fail;refine(tN.out _ sM.out).mono ?_;rintro e w6 ⟨rfl,hc,hb⟩;have FP:=qqh hc;have iQ:=qqh (eD.out.trans hb);clear hb hc;go_wp2_with fail;refine(Mt.out _ FP.out).mono ?_;rintro e w7 ⟨rfl,hc,hb⟩;have Hv:=qqh hc;have iF:=qqh (iQ.out.trans hb);clear hb hc;obtain⟨d1,d2,d3,d4⟩:=Hv.out.step CB;have SB:=qqh d3;have qZ:=qqh (iF.out.trans d4);clear d3 d4;go_wp2_with fail;refine(H2.out _ SB.out).mono ?_;rintro e w9 ⟨rfl,hc,hb⟩;have HC9:=qqh hc;have cB:=qqh (qZ.out.trans hb);clear hb hc;by_cases hlt:y<x
    ·have HR:=qqh (fW.out.symm.trans (LF j8.out Z9.out qT.out hlt));have HF:=qqh (fun(W:World)=>cE 3 ((j:Int)+1) W);go_wp2_with fail;refine(HF.out _).mono ?_;rintro e Qy ⟨rfl,rfl⟩;go_wp2_with fail;rw [HR.out];exact⟨rfl,by rw [bA,hcast],cB.out⟩
    have HR:=qqh (fW.out.symm.trans (Jl j8.out Z9.out qT.out hlt));go_wp2_with fail;go_ret;rw [HR.out];exact tr x y HC9.out cB.out
  have HR:=qqh (fW.out.symm.trans (An j8.out (fun h=>hd h.1)));have hq:(pk L j == 45)=false:=(by simp;exact hd);go_enter Tryz.func99,Tryz.ntmps99;go_wp2_with fail;refine H1.out.mono ?_;rintro e w5 ⟨rfl,hc,hb⟩;have sM:=qqh hc;have eD:=qqh hb;clear hb hc;go_wp2_with fail;refine(iP.out _ _ sM.out).mono ?_;rintro e w6 ⟨rfl,hc,hb⟩;have FP:=qqh hc;have iQ:=qqh (eD.out.trans hb);clear hb hc;go_wp2_with fail;go_ret;rw [HR.out];exact tr x x FP.out iQ.out
theorem GZ {L:List Int} {f j:Nat} (h:pk L (aW L j)≠35):fq L (f+1) j=aW L j:=by rw [fq,if_neg h]
theorem JB {L:List Int} {f j:Nat} (h:pk L (aW L j)=35):fq L (f+1) j=fq L f (aF qI L (aW L j)):=by rw [fq,if_pos h]
theorem Aw (r:Int) (w:World) :
    Calls Tryz.prog 124 #[.int .i32 r] w fun e w'=>e=.returned (.bool (kB r))∧w'=w:=by
 go_enter Tryz.func124,Tryz.ntmps124;go_wp2;(all_goals go_ret);(all_goals refine⟨aV ?_,rfl⟩);(all_goals (rw [Bool.eq_iff_iff];simp [kB];try omega))
theorem jO (w:World) (C:Nat) (A:Option Addr) (n c:Nat) (L:List Int) (i:Nat) (h:aB w C A n c L i) :
    Calls Tryz.prog 34 #[.pointer (some ⟨C,0,none⟩)] w fun e w'=>e=.returned (.tuple #[])∧aB w' C A n c L (aD L i)∧bQ w C w':=by
 have hs:=h.size;have hl:=h.len;have HC:=qqh h;clear h;go_enter Tryz.func34,Tryz.ntmps34;go_wp2_with fail;go_loopw [2] (fun _ wr=>∃ f j:Nat,j≤n∧n+1≤f+j∧aD L i=fq L f j∧aB wr C A n c L j∧bQ w C wr) (fun _ wr=>n - (match wr.cell? ⟨C,1,none⟩with | some (.int _ j)=>j.toNat | _=>0));(case atStart=>exact⟨L.length+1,i,HC.out.le,by omega,rfl,HC.out,bQ.refl _ _⟩);obtain⟨f0,j,hj,hf,hsp,hc,hb⟩:=hrel;obtain⟨f,rfl⟩:∃ f,f0=f+1:=⟨f0 - 1,by omega⟩;have HJ:=qqh hc;have HB:=qqh hb;have pS:=qqh hsp;have nc:=qqh (hc.blk.cell 1);obtain⟨k,hk⟩:∃ k,aW L j=k:=⟨_,rfl⟩;have HK:=qqh hk;have hjk:j≤k:=(by rw [← hk];exact eG L j);have iP:=qqh (fun(W:World) (m:Nat) (h:aB W C A n c L m)=>dn W C A n c L m h);clear hc hb hsp;go_wp2_with fail;refine(jc wr C A n c L j HJ.out).mono ?_;rintro e w1 ⟨rfl,hc1,aP⟩;rw [hk]at hc1;have j8:=qqh hc1;have bF:=qqh (HB.out.trans aP);clear hc1 aP hk;go_wp2_with fail;refine(iP.out _ k j8.out).mono ?_;rintro e w2 ⟨rfl,hc2,aX⟩;have qT:=qqh hc2;have bf:=qqh (bF.out.trans aX);clear hc2 aX;by_cases tD:pk L k=35
 ·have hlt:k<L.length:=bO (by omega);have sA:=qqh (show aD L i=fq L f (aF qI L k) by rw [pS.out,JB (by rw [HK.out];exact tD),HK.out]);have Ol:=qqh (show k+1≤aF qI L k by rw [ey hlt (by rw [tD];rfl)];exact fm _ _ _);have HLE:=qqh (show aF qI L k≤n by rw [← hl];exact(iU (Nat.le_of_lt hlt)).2);obtain⟨m0,hm0⟩:∃ m0,aF qI L k=m0:=⟨_,rfl⟩;rw [hm0]at sA Ol HLE;have HM:=qqh hm0;rw [tD];clear hm0 tD;go_wp2_with fail;go_loopw [11] (fun _ wy=>∃ m:Nat,k≤m∧m≤n∧m0=aF qI L m∧aB wy C A n c L m∧bQ w C wy) (fun _ wy=>n - (match wy.cell? ⟨C,1,none⟩with | some (.int _ j)=>j.toNat | _=>0));(case atStart=>exact⟨k,qql,by omega,HM.out.symm,qT.out,bf.out⟩);obtain⟨m,hkm,hmn,hrun,Sw,T4⟩:=hrel;have K8:=qqh Sw;have HBM:=qqh T4;have HRM:=qqh hrun;have Sp:=qqh (Sw.blk.cell 1);clear Sw T4 hrun;cases hrem:qI (pk L m)with
  | true=>
   have aaJ:m<L.length:=bO (fun e=>by rw [e]at hrem;exact absurd hrem (by decide));have Cm:=qqh (HRM.out.trans (ey aaJ hrem));have h0:0≤pk L m∧pk L m≠10:=(by simpa [qI] using hrem);have hg0:decide ((0:Int)≤pk L m)=true:=decide_eq_true h0.1;have hg1:(pk L m != 10)=true:=(by simp;exact h0.2);have hwm:IntKind.i64.wrap ((m:Int)+1)=(m:Int)+1:=wrap_small _ (by omega) (by omega);clear hrem h0;go_wp2_with fail;refine(iP.out _ m K8.out).mono ?_;rintro e w3 ⟨rfl,lR,bM⟩;have qY:=qqh lR;have bN:=qqh (HBM.out.trans bM);clear lR bM;go_wp2_with fail;refine(iP.out _ m qY.out).mono ?_;rintro e w4 ⟨rfl,mC,hb4⟩;have zE:=qqh mC;have bW:=qqh (bN.out.trans hb4);clear mC hb4;obtain⟨d1,d2,d3,d4⟩:=zE.out.step (by omega);have uY:=qqh d3;have eD:=qqh (bW.out.trans d4);clear d3 d4;go_wp2_with fail;refine⟨⟨m+1,by omega,by omega,Cm.out,uY.out,eD.out⟩,?_⟩;have e1:(w4.setCell ⟨C,1,none⟩ (.int .i64 ((m:Int)+1))).cell? ⟨C,1,none⟩=some (.int .i64 ((m+1:Nat):Int)):=uY.out.blk.cell 1;have e2:wr.cell? ⟨C,1,none⟩=some (.int .i64 (m:Int)):=Sp.out;rw [e1,e2];simp only [Int.toNat_natCast];omega
  | false=>
   obtain rfl:m0=m:=HRM.out.trans (di (fun _=>hrem));have hor:pk L m0<0∨(0≤pk L m0∧pk L m0=10):=by
    simp [qI]at hrem;by_cases h:pk L m0<0;exact .inl h;exact .inr ⟨by omega,hrem (by omega)⟩
   have hge:=Ol.out;clear hrem HRM;rcases hor with h0 | ⟨_,h0⟩
   ·go_wp2_with fail;refine(iP.out _ m0 K8.out).mono ?_;rintro e w3 ⟨rfl,lR,bM⟩;have qY:=qqh lR;have bN:=qqh (HBM.out.trans bM);clear lR bM;go_wp2_with fail;refine⟨⟨f,m0,hmn,by omega,sA.out,qY.out,bN.out⟩,?_⟩;rw [qY.out.blk.cell 1,nc.out];simp only [Int.toNat_natCast,List.getElem?_toArray,List.getElem?_cons_succ,List.getElem?_cons_zero];omega
   go_wp2_with fail;refine(dn _ C A n c L m0 K8.out).mono ?_;rintro e w3 ⟨rfl,lR,bM⟩;rw [h0];have qY:=qqh lR;have bN:=qqh (HBM.out.trans bM);clear lR bM;go_wp2_with fail;refine(dn _ C A n c L m0 qY.out).mono ?_;rintro e w4 ⟨rfl,mC,hb4⟩;rw [h0];have zE:=qqh mC;have bW:=qqh (bN.out.trans hb4);clear mC hb4;go_wp2_with fail;refine⟨⟨f,m0,hmn,by omega,sA.out,zE.out,bW.out⟩,?_⟩;rw [zE.out.blk.cell 1,nc.out];simp only [Int.toNat_natCast,List.getElem?_toArray,List.getElem?_cons_succ,List.getElem?_cons_zero];omega
 have EF:=qqh (show aD L i=k by rw [pS.out,GZ (by rw [HK.out];exact tD),HK.out]);have hq:(pk L k != 35)=true:=(by simp;exact tD);clear tD;go_wp2_with fail;(try simp only [Exit.inBlock,Exit.then]);refine bodyPost_ret (results_none rfl _ _ _) rfl ?_;rw [EF.out];exact⟨rfl,qT.out,bf.out⟩
def M1 {α:Type} (V:α→Value) (w:World) (C:Nat) (A:Option Addr) (n c:Nat) (L:List Int) (r:kG α) (e:Ending) (w':World):Prop :=
  match r with
  | .ok (d,j)=>e=.returned (V d)∧aB w' C A n c L j∧bQ w C w'
  | .error (x,p)=>e=bA x p∧bQ w C w'
theorem LA (w:World) (C:Nat) (A:Option Addr) (n c:Nat) (L:List Int) (i:Nat) (h:aB w C A n c L i) :
    Calls Tryz.prog 67 #[.pointer (some ⟨C,0,none⟩)] w (M1 (Value.int .i64) w C A n c L (fu L i)):=by
 have hs:=h.size;have hl:=h.len;have hle:=h.le;have HC:=qqh h;have iP:=qqh (fun(W:World) (m:Nat) (h:aB W C A n c L m)=>dn W C A n c L m h);have Oz:=qqh (fun(W:World) (h:aB W C A n c L i)=>mE W C A n c L i 1 h (by decide));have hw1:IntKind.i64.wrap ((i:Int)+1)=(i:Int)+1:=wrap_small _ (by omega) (by omega);have ya:IntKind.i64.wrap ((i:Int)+2)=(i:Int)+2:=wrap_small _ (by omega) (by omega);clear h;obtain⟨R,hR⟩:∃ R,fu L i=R:=⟨_,rfl⟩;rw [hR];have fW:=qqh hR;clear hR;by_cases KP:pk L i=62
 ·have gX:=qqh (show R=.ok (1,i+1) by rw [← fW.out];unfold fu;rw [if_pos KP]);have hlt:i<L.length:=bO (by omega);go_enter Tryz.func67,Tryz.ntmps67;go_wp2_with fail;refine(iP.out _ i HC.out).mono ?_;rintro e w1 ⟨rfl,hc1,aP⟩;rw [KP];have j8:=qqh hc1;have bF:=qqh aP;clear hc1 aP KP;obtain⟨d1,d2,d3,d4⟩:=j8.out.step (by omega);have uY:=qqh d3;have eD:=qqh (bF.out.trans d4);clear d3 d4;go_wp2_with fail;go_ret;rw [gX.out];exact⟨rfl,uY.out,eD.out⟩
 have q62:(pk L i == 62)=false:=(by rw [beq_eq_false_iff_ne];exact KP);by_cases uo:pk L i=60
 ·have hlt:i<L.length:=bO (by omega);by_cases h2:pk L (i+1)=62
  ·have gX:=qqh (show R=.ok (3,i+2) by rw [← fW.out];unfold fu;rw [if_neg KP,if_pos ⟨uo,h2⟩]);have hlt2:i+1<L.length:=bO (by omega);go_enter Tryz.func67,Tryz.ntmps67;go_wp2_with fail;refine(iP.out _ i HC.out).mono ?_;rintro e w1 ⟨rfl,hc1,aP⟩;have j8:=qqh hc1;have bF:=qqh aP;clear hc1 aP;go_wp2_with fail;refine(iP.out _ i j8.out).mono ?_;rintro e w2 ⟨rfl,hc2,aX⟩;rw [uo];have qT:=qqh hc2;have bf:=qqh (bF.out.trans aX);clear hc2 aX;go_wp2_with fail;refine(Oz.out _ qT.out).mono ?_;rintro e w3 ⟨rfl,lR,bM⟩;rw [h2];have qY:=qqh lR;have bN:=qqh (bf.out.trans bM);clear lR bM;have d1:=qY.out.blk.cell 1;have d2:=qY.out.blk.frozen 1;have hm:=qY.out.move (j:=i+2) (by omega);rw [show(((i+2:Nat)):Int)=(i:Int)+2 by omega]at hm;have uY:=qqh hm;have eD:=qqh (bN.out.trans (bQ.set w3 C 1 (.int .i64 ((i:Int)+2))));clear hm;go_wp2_with fail;go_ret;rw [gX.out];exact⟨rfl,uY.out,eD.out⟩
  have q2:(pk L (i+1) == 62)=false:=(by rw [beq_eq_false_iff_ne];exact h2);have gX:=qqh (show R=.ok (2,i+1) by rw [← fW.out];unfold fu;rw [if_neg KP,if_neg (fun h=>h2 h.2)];unfold bw;rw [if_pos uo]);have Kx:=qqh (fun(W:World) (h:aB W C A n c L i)=>show Calls Tryz.prog 37 #[.pointer (some ⟨C,0,none⟩),.int .i32 60] W fun e w'=>e=.returned (.tuple #[])∧aB w' C A n c L (i+1)∧bQ W C w' by have:=fM W C A n c L i 60 h (by decide);rwa [show bw L i 60=.ok (i+1) by unfold bw;rw [if_pos uo]]at this);go_enter Tryz.func67,Tryz.ntmps67;go_wp2_with fail;refine(iP.out _ i HC.out).mono ?_;rintro e w1 ⟨rfl,hc1,aP⟩;have j8:=qqh hc1;have bF:=qqh aP;clear hc1 aP;go_wp2_with fail;refine(iP.out _ i j8.out).mono ?_;rintro e w2 ⟨rfl,hc2,aX⟩;rw [uo];have qT:=qqh hc2;have bf:=qqh (bF.out.trans aX);clear hc2 aX;go_wp2_with fail;refine(Oz.out _ qT.out).mono ?_;rintro e w3 ⟨rfl,lR,bM⟩;have qY:=qqh lR;have bN:=qqh (bf.out.trans bM);clear lR bM;go_wp2_with fail;refine(Kx.out _ qY.out).mono ?_;rintro e w4 ⟨rfl,mC,hb4⟩;have zE:=qqh mC;have bW:=qqh (bN.out.trans hb4);clear mC hb4;go_wp2_with fail;go_ret;rw [gX.out];exact⟨rfl,zE.out,bW.out⟩
 have q60:(pk L i == 60)=false:=(by rw [beq_eq_false_iff_ne];exact uo);have gX:=qqh (show R=.error (2,i) by rw [← fW.out];unfold fu;rw [if_neg KP,if_neg (fun h=>uo h.1)];unfold bw;rw [if_neg uo]);have Kx:=qqh (fun(W:World) (h:aB W C A n c L i)=>show Calls Tryz.prog 37 #[.pointer (some ⟨C,0,none⟩),.int .i32 60] W fun e w'=>e=bA 2 i∧bQ W C w' by have:=fM W C A n c L i 60 h (by decide);rwa [show bw L i 60=.error (2,i) by unfold bw;rw [if_neg uo]]at this);go_enter Tryz.func67,Tryz.ntmps67;go_wp2_with fail;refine(iP.out _ i HC.out).mono ?_;rintro e w1 ⟨rfl,hc1,aP⟩;have j8:=qqh hc1;have bF:=qqh aP;clear hc1 aP;go_wp2_with fail;refine(iP.out _ i j8.out).mono ?_;rintro e w2 ⟨rfl,hc2,aX⟩;have qT:=qqh hc2;have bf:=qqh (bF.out.trans aX);clear hc2 aX;go_wp2_with fail;refine(Kx.out _ qT.out).mono ?_;rintro e w4 ⟨he,hb4⟩;unfold bA at he;subst he;have bW:=qqh (bf.out.trans hb4);clear hb4;go_wp2_with fail;rw [gX.out];exact⟨rfl,rfl,bW.out⟩
def SY (r:Int):Bool:=kB r || Cb r
theorem E6 {L:List Int} {i:Nat} (h:kB (pk L i)=false):bC L i=i:=by unfold bC;rw [h];rfl
theorem Cv {L:List Int} {i:Nat} (h:kB (pk L i)=true):bC L i=aF SY L (i+1):=by
 have hlt:i<L.length:=bO (fun e=>by rw [e]at h;exact absurd h (by decide));unfold bC;rw [if_pos h];exact ey (p:=SY) hlt (by unfold SY;rw [h];rfl)
def Ju (L:List Int) (i j:Nat):Prop:=j=i∨(i<j∧bC L i=aF SY L j)
theorem Ju.next {L:List Int} {i j:Nat} (h:Ju L i j) (hj:kB (pk L j)=true∨(i<j∧Cb (pk L j)=true)):Ju L i (j+1):=by
 have hl:SY (pk L j)=true:=by
  unfold SY;rcases hj with h | h
  ·rw [h];rfl
  rw [h.2,Bool.or_true]
 have hlt:j<L.length:=bO (fun e=>by rw [e]at hl;exact absurd hl (by decide));rcases h with rfl | ⟨h1,h2⟩
 ·rcases hj with h | h;exact .inr ⟨by omega,Cv h⟩;omega
 exact .inr ⟨by omega,h2.trans (ey hlt hl)⟩
theorem Ju.done {L:List Int} {i j:Nat} (h:Ju L i j) (h1:kB (pk L j)=false) (h2:i<j→Cb (pk L j)=false):bC L i=j:=by
 rcases h with rfl | ⟨h3,h4⟩;exact E6 h1;rw [h4];exact di (fun _=>by unfold SY;rw [h1,h2 h3];rfl)
theorem so (w:World) (C:Nat) (A:Option Addr) (n c:Nat) (L:List Int) (i:Nat) (h:aB w C A n c L i) (h0:0<n) :
    Calls Tryz.prog 63 #[.pointer (some ⟨C,0,none⟩)] w fun e w'=>e=.returned (.string (iL L i))∧aB w' C A n c L (bC L i)∧bQ w C w':=by
 have hs:=h.size;have hl:=h.len;have hi:=h.le;obtain⟨b,off,rfl,_,_⟩:=h.at h0;have HC:=qqh h;have iP:=qqh (fun(W:World) (m:Nat) (h:aB W C (some ⟨b,off,none⟩) n c L m)=>dn W C (some ⟨b,off,none⟩) n c L m h);have c1:=h.blk.cell 1;clear h;go_enter Tryz.func63,Tryz.ntmps63;go_upto_block 0 with (go_at_call 35;refine(iP.out _ i HC.out).mono ?_;rintro e w1 ⟨rfl,hc1,aP⟩);have j8:=qqh hc1;have bF:=qqh aP;clear hc1 aP c1;go_cut [3] (fun v wx=>v=.int .i64 (i:Int)∧aB wx C (some ⟨b,off,none⟩) n c L (bC L i)∧bQ w C wx);case first=>
  go_wp2_with fail;go_loopw [4] (fun v wr=>∃ j:Nat,i≤j∧j≤n∧v=.int .i32 (pk L j)∧Ju L i j∧aB wr C (some ⟨b,off,none⟩) n c L j∧bQ w C wr) (fun _ wr=>n - (match wr.cell? ⟨C,1,none⟩with | some (.int _ j)=>j.toNat | _=>0));(case atStart=>exact⟨i,qql,hi,rfl,.inl rfl,j8.out,bF.out⟩);obtain⟨j,hij,hjn,rfl,UB,uq,B8⟩:=hrel;have HJ:=qqh uq;have HB:=qqh B8;have S9:=qqh UB;have nc:=qqh (uq.blk.cell 1);have k1:=uq.blk.cell 1;clear uq B8 UB;have EK:=qqh (fun h1 h2=>S9.out.done h1 h2);have Im:=qqh (fun hj=>S9.out.next hj);have EU:=qqh (fun(W:World) (h:aB W C (some ⟨b,off,none⟩) n c L (j+1))=>iP.out W (j+1) h);obtain⟨x,hx⟩:∃ x,pk L j=x:=⟨_,rfl⟩;have hjl:0≤x→j<n:=fun h=>(by rw [← hl];exact bO (by rw [hx];omega));rw [hx]at EK Im;rw [hx];have hwj:IntKind.i64.wrap ((j:Int)+1)=(j:Int)+1:=wrap_small _ (by omega) (by omega);clear hx;have zF:(kB x=true∧((97≤x∧x≤122)∨x=95))∨(kB x=false∧i<j∧Cb x=true∧48≤x∧x≤57)∨(kB x=false∧(i<j→Cb x=false)∧(x<48∨(48≤x∧x≤57∧j=i)∨(57<x∧x<95)∨x=96∨122<x)):=by
   by_cases h1:kB x=true;exact .inl ⟨h1,by simpa [kB] using h1⟩;rw [Bool.not_eq_true]at h1;have h2:¬((97≤x∧x≤122)∨x=95):=(by simpa [kB] using h1);right;by_cases h3:i<j∧Cb x=true;exact .inl ⟨h1,h3.1,h3.2,by simpa [Cb] using h3.2⟩;right;refine⟨h1,fun h4=>by rw [Bool.eq_false_iff];exact fun h5=>h3 ⟨h4,h5⟩,?_⟩;by_cases h4:48≤x∧x≤57
   ·have:¬ i<j:=fun h5=>h3 ⟨h5,by simp [Cb,h4]⟩;omega
   omega
  rcases zF with ⟨h1,hr⟩ | ⟨h1,hlt,h2,hr⟩ | ⟨h1,h2,hr⟩
  ·have HN:=qqh (Im.out (.inl h1));have Lf:j<n:=hjl (by omega);obtain⟨d1,d2,d3,d4⟩:=HJ.out.step Lf;have uY:=qqh d3;have eD:=qqh (HB.out.trans d4);clear d3 d4;rcases hr with ⟨r1,r2⟩ | r1
   all_goals
     go_wp2_with fail
     refine(EU.out _ uY.out).mono ?_
     rintro e w5 ⟨rfl,mu,eS⟩
     have sM:=qqh mu
     have iQ:=qqh (eD.out.trans eS)
     clear mu eS
     go_wp2_with fail
     refine⟨⟨j+1,by omega,by omega,rfl,HN.out,sM.out,iQ.out⟩,?_⟩
     have e1:w5.cell? ⟨C,1,none⟩=some (.int .i64 ((j+1:Nat):Int)):=sM.out.blk.cell 1
     have e2:wr.cell? ⟨C,1,none⟩=some (.int .i64 (j:Int)):=nc.out
     rw [e1,e2]
     simp only [Int.toNat_natCast]
     omega
  ·have HN:=qqh (Im.out (.inr ⟨hlt,h2⟩));have Lf:j<n:=hjl (by omega);obtain⟨d1,d2,d3,d4⟩:=HJ.out.step Lf;have uY:=qqh d3;have eD:=qqh (HB.out.trans d4);have hgt:decide ((i:Int)<(j:Int))=true:=decide_eq_true (by omega);clear d3 d4;obtain⟨r1,r2⟩:=hr;go_wp2_with fail;refine(EU.out _ uY.out).mono ?_;rintro e w5 ⟨rfl,mu,eS⟩;have sM:=qqh mu;have iQ:=qqh (eD.out.trans eS);clear mu eS;go_wp2_with fail;refine⟨⟨j+1,by omega,by omega,rfl,HN.out,sM.out,iQ.out⟩,?_⟩;have e1:w5.cell? ⟨C,1,none⟩=some (.int .i64 ((j+1:Nat):Int)):=sM.out.blk.cell 1;have e2:wr.cell? ⟨C,1,none⟩=some (.int .i64 (j:Int)):=nc.out;rw [e1,e2];simp only [Int.toNat_natCast];omega
  have HE:=qqh (EK.out h1 h2);clear EK Im S9 h1 h2;rcases hr with r1 | ⟨r1,r2,r3⟩ | ⟨r1,r2⟩ | r1 | r1
  all_goals
    have q95:(x == 95)=false:=by rw [beq_eq_false_iff_ne];omega
    by_cases hgt:(i:Int)<(j:Int)
    all_goals first
    | (exfalso;omega)
    | (go_wp2_with fail
       go_meet
       rw [HE.out]
       exact⟨rfl,HJ.out,HB.out⟩)
 obtain⟨rfl,EO,hbc⟩:=hcut;have HT:=qqh (show iL L i=runesBytes (aT L i (bC L i)) from rfl);have hir:i≤bC L i:=by
  unfold bC;split;exact fm _ _ _;exact qql
 obtain⟨r,hr⟩:∃ r,bC L i=r:=⟨_,rfl⟩;rw [hr]at EO HT hir;have iT:=qqh hr;clear hr;have HCC:=qqh EO;have SJ:=qqh hbc;have hrn:=EO.le;have d0:=EO.blk.cell 0;have d1:=EO.blk.cell 1;have sP:=xO (EO.drewN 1) hir hrn;have hk1:(i:Int)≤(r:Int):=(by omega);have hk2:(r:Int)≤(c:Int):=(by have:=EO.cap;omega);have K6:(0:Int)≤(i:Int):=(by omega);clear EO hbc j8 bF HC;generalize runesBytes (aT L i r)=T at *;go_upto_region 6 with fail;refine aC (S:=(fun w'=>w'.cell? ⟨C,0,none⟩=some (.slice (some ⟨b,off,none⟩) n c)∧w'.cell? ⟨C,1,none⟩=some (.int .i64 r)∧(convert 22 9 (.slice (if c=i then some ⟨b,off,none⟩else some ⟨b,off+i,none⟩) (r - i) (c - i))).run Tryz.prog w'=.ok (.string T) w')) [4,10,12] (by kernel_rfl) ⟨d0,d1,sP⟩ (fun aQ=>?_);refine tq 0 54 ?_;(try simp only [zp,za,z0,zs]);refine tq 1 55 ?_;(try simp only [zp,za,z0,zs]);refine tq 2 56 ?_;(try simp only [zp,za,z0,zs]);refine tq 3 57 ?_;(try simp only [zp,za,z0,zs]);refine tu 4 58 ?_;(try simp only [zp,za,z0,zs]);refine tq 5 59 ?_;(try simp only [zp,za,z0,zs]);refine tq 6 60 ?_;(try simp only [zp,za,z0,zs]);refine tq 7 61 ?_;(try simp only [zp,za,z0,zs]);refine tq 8 62 ?_;(try simp only [zp,za,z0,zs]);refine tq 9 63 ?_;(try simp only [zp,za,z0,zs]);refine tu 10 64 ?_;(try simp only [zp,za,z0,zs]);refine tq 11 65 ?_;(try simp only [zp,za,z0,zs]);refine tu 12 66 ?_;(try simp only [zp,za,z0,zs]);refine tq 13 2 ?_;(try simp only [zp,za,z0,zs]);refine aL (by kernel_rfl) ?_ _;generalize (if c=i then some ({ block:=b,off:=off }:Addr)else some { block:=b,off:=off+i })=Z;go_simp;go_wp2_with fail;go_ret;rw [HT.out,iT.out];exact⟨rfl,HCC.out.drewN 1,SJ.out.trans (bQ.drewN wc C 1)⟩
theorem Hr (w:World) (C:Nat) (A:Option Addr) (n c:Nat) (L:List Int) (i:Nat) (h:aB w C A n c L i) (h0:0<n) :
    Calls Tryz.prog 65 #[.pointer (some ⟨C,0,none⟩)] w (M1 Value.string w C A n c L (gU L i)):=by
 have HW:=qqh (so w C A n c L i h h0);have c1:=h.blk.cell 1;have HN:=qqh (show gU L i=if eO (iL L i)=true then .ok (iL L i,bC L i)else .error (7,i) from rfl);obtain⟨R,hR⟩:∃ R,gU L i=R:=⟨_,rfl⟩;rw [hR];rw [hR]at HN;clear h hR;generalize iL L i=T at *;generalize bC L i=r at *;have Fc:=qqh (fun(W:World)=>jF T W);cases hnm:eO T with
 | true=>
  rw [hnm]at HN Fc;go_enter Tryz.func65,Tryz.ntmps65;go_wp2_with fail;refine HW.out.mono ?_;rintro e w1 ⟨rfl,hc1,aP⟩;have j8:=qqh hc1;have bF:=qqh aP;clear hc1 aP;go_wp2_with fail;refine(Fc.out _).mono ?_;rintro e w2 ⟨rfl,rfl⟩;go_wp2_with fail;go_ret;rw [HN.out];exact⟨rfl,j8.out,bF.out⟩
 | false=>
  rw [hnm]at HN Fc;go_enter Tryz.func65,Tryz.ntmps65;go_wp2_with fail;refine HW.out.mono ?_;rintro e w1 ⟨rfl,hc1,aP⟩;have j8:=qqh hc1;have bF:=qqh aP;clear hc1 aP;go_wp2_with fail;refine(Fc.out _).mono ?_;rintro e w2 ⟨rfl,rfl⟩;go_wp2_with fail;refine(cE 7 i _).mono ?_;rintro e w3 ⟨rfl,rfl⟩;go_wp2_with fail;rw [HN.out];exact⟨rfl,rfl,bF.out⟩
def L8 (L:List Int) (i:Nat):Bool:=decide (pk L (aD L (bC L (i+1)))=61)
theorem ud (w:World) (C:Nat) (A:Option Addr) (n c:Nat) (L:List Int) (i:Nat) (h:aB w C A n c L i) (hi:i<n) :
    Calls Tryz.prog 64 #[.pointer (some ⟨C,0,none⟩)] w fun e w'=>e=.returned (.bool (L8 L i))∧Below w.heap.size w w':=by
 have hs:=h.size;have c0:=h.blk.cell 0;have c1:=h.blk.cell 1;have hw1:IntKind.i64.wrap ((i:Int)+1)=(i:Int)+1:=wrap_small _ (by omega) (by omega)
 have HN:=qqh (show aB (w.alloc (.cells #[.slice A n c,.int .i64 ((i:Int)+1)] 76)) w.heap.size A n c L (i+1) from
   ⟨⟨_,by rw [show(((i+1:Nat)):Int)=(i:Int)+1 by omega];exact an.new _ _ _⟩,(h.row.lift (X':=fun _=>True) (fun _ _=>trivial)).keep (aa.alloc _ (fun b _ hl=>Nat.ne_of_lt hl)),h.size,hi,h.cap⟩)
 have HB:=qqh (show Below w.heap.size w (w.alloc (.cells #[.slice A n c,.int .i64 ((i:Int)+1)] 76)) from qqb.alloc qql _);have HV:=qqh (show L8 L i=decide (pk L (aD L (bC L (i+1)))=61) from rfl);clear h;go_enter Tryz.func64,Tryz.ntmps64;go_wp2_with fail;refine(so _ w.heap.size A n c L (i+1) HN.out (by omega)).mono ?_;rintro e w1 ⟨rfl,hc1,aP⟩;have j8:=qqh hc1;have bF:=qqh (HB.out.trans (aP.to HB.out.size qql));clear hc1 aP;go_wp2_with fail;refine(jO _ w.heap.size A n c L _ j8.out).mono ?_;rintro e w2 ⟨rfl,hc2,aX⟩;have qT:=qqh hc2;have bf:=qqh (bF.out.trans (aX.to bF.out.size qql));clear hc2 aX;go_wp2_with fail;refine(dn _ w.heap.size A n c L _ qT.out).mono ?_;rintro e w3 ⟨rfl,lR,bM⟩;have bN:=qqh (bf.out.trans (bM.to bf.out.size qql));clear lR bM;go_wp2_with fail;go_ret;rw [HV.out];exact⟨aV (by first | rfl | (rw [Bool.eq_iff_iff];simp)),bN.out⟩
theorem zX:(Tryz.prog.info? 167).map (fun i=>(i.zero,i.size,i.bytes))=some (some (.agg #[.int .i64 0,.int .i32 0,.slice none 0 0,.string ⟨#[]⟩]),4,56):=by kernel_rfl
def iD (l:List Int):List Value:=l.flatMap fun x=>[.int .i64 1,.int .i32 x,.slice none 0 0,.string ⟨#[]⟩]
theorem Er (l:List Int) (x:Int):iD (l++[x])=iD l++[.int .i64 1,.int .i32 x,.slice none 0 0,.string ⟨#[]⟩]:=by simp [iD]
theorem QY (x:Int):∀ u ∈ [Value.int .i64 1,.int .i32 x,.slice none 0 0,.string ⟨#[]⟩],u.oneCell'=true:=by
 intro u hu;simp at hu;rcases hu with rfl | rfl | rfl | rfl <;> rfl
theorem Dr {L:List Int} {a j:Nat} (ha:a≤j) (hj:j<L.length):aT L a (j+1)=aT L a j++[pk L j]:=by
 unfold aT;rw [show j+1 - a=(j - a)+1 by omega,List.take_add_one,List.getElem?_drop,show a+(j - a)=j by omega,List.getElem?_eq_getElem hj,Ib (List.getElem?_eq_getElem hj)];rfl
theorem DK (L:List Int) (a:Nat):aT L a a = []:=by unfold aT;rw [Nat.sub_self];rfl
theorem fN {w w1 w2:World} {C:Nat} (h:bQ w C w1) (hb:Below w.heap.size w1 w2):bQ w C w2 :=
  ⟨Nat.le_trans h.1 hb.size,hb.os.trans h.2.1,hb.tape.trans h.2.2.1,hb.output.trans h.2.2.2.1,fun k hk hne=>(hb.block k hk).trans (h.2.2.2.2 k hk hne)⟩
structure iY (lo:Nat) (w:World) (C:Nat) (A:Option Addr) (n c:Nat) (L:List Int) (i:Nat):Prop where
  cur:aB w C A n c L i
  row:cL w (fun b=>b≠C∧b<lo) 1 A n (runeCells L)
  lt:C<lo
theorem iY.start {w:World} {C:Nat} {A:Option Addr} {n c:Nat} {L:List Int} {i:Nat} (h:aB w C A n c L i):iY w.heap.size w C A n c L i :=
  ⟨h,h.row.keep (fun _ hX hl=>⟨rfl,⟨hX,hl⟩,hl⟩),h.blk.lt⟩
theorem iY.but {lo:Nat} {w w':World} {C:Nat} {A:Option Addr} {n c:Nat} {L:List Int} {i j:Nat} (h:iY lo w C A n c L i) (hc:aB w' C A n c L j) (hb:bQ w C w'):iY lo w' C A n c L j :=
  ⟨hc,h.row.keep (hb.keeps (fun _ h=>h.1) (fun _ h _=>h)),h.lt⟩
theorem iY.below {lo:Nat} {w w':World} {C:Nat} {A:Option Addr} {n c:Nat} {L:List Int} {i:Nat} (h:iY lo w C A n c L i) (hb:Below lo w w'):iY lo w' C A n c L i:=by
 have hr:cL w' (fun b=>b≠C∧b<lo) 1 A n (runeCells L):=h.row.keep (fun b hX hl=>⟨hb.block b hX.2,hX,Nat.lt_of_lt_of_le hl hb.size⟩);exact⟨⟨h.cur.blk.same (hb.block C h.lt),hr.lift (fun _ h=>h.1),h.cur.size,h.cur.le,h.cur.cap⟩,hr,h.lt⟩
theorem iY.drewN {lo:Nat} {w:World} {C:Nat} {A:Option Addr} {n c:Nat} {L:List Int} {i:Nat} (h:iY lo w C A n c L i) (k:Nat):iY lo (w.drewN k) C A n c L i:=h.but (h.cur.drewN k) (bQ.drewN w C k)
def NO (w:World) (C:Nat) (A:Option Addr) (n c:Nat) (L:List Int) (i:Nat) (e:Ending) (w':World):Prop :=
  (pk L (aF lK L (i+1))=39∧(∃ B m d,e=.returned (.slice B m d)∧cL w' (fun b=>w.heap.size≤b) 4 B m (iD (aT L (i+1) (aF lK L (i+1))))∧m≤d∧m≤n)∧aB w' C A n c L (aF lK L (i+1)+1)∧bQ w C w') ∨
    (pk L (aF lK L (i+1))≠39∧e=bA 2 (aF lK L (i+1))∧bQ w C w')
theorem I0 (w:World) (C:Nat) (A:Option Addr) (n c:Nat) (L:List Int) (i:Nat) (h:aB w C A n c L i) (hi:i<n) (hn:n≤100000) :
    Calls Tryz.prog 125 #[.pointer (some ⟨C,0,none⟩)] w (NO w C A n c L i):=by
 obtain⟨i0,K9,z0,z1,z2⟩:=info_parts zX;have hl:=h.len;have hw1:IntKind.i64.wrap ((i:Int)+1)=(i:Int)+1:=wrap_small _ (by omega) (by omega);obtain⟨d1,d2,d3,d4⟩:=h.step hi;have HLO:=qqh ((iY.start h).but d3 d4);have cy:=qqh d4;have iP:=qqh (fun(W:World) (m:Nat) (h:aB W C A n c L m)=>mT W C A n c L m h);obtain⟨r,hr⟩:∃ r,aF lK L (i+1)=r:=⟨_,rfl⟩;have HR:=qqh hr;unfold NO;rw [hr];clear h d3 d4 hr;go_enter Tryz.func125,Tryz.ntmps125;go_wp2_with fail;go_loopw [3] (fun out wr=>∃ j:Nat,i+1≤j∧j≤n∧r=aF lK L j∧wr.ownsRow w.heap.size 167 4 out (j - (i+1)) (iD (aT L (i+1) j))∧iY w.heap.size wr C A n c L j∧bQ w C wr) (fun _ wr=>n - (match wr.cell? ⟨C,1,none⟩with | some (.int _ j)=>j.toNat | _=>0));(case atStart=>exact⟨i+1,qql,hi,HR.out.symm,by rw [Nat.sub_self,DK];exact World.ownsRow_nil _ _ _ _,HLO.out,cy.out⟩);obtain⟨j,hij,hjn,hrun,hown,uq,B8⟩:=hrel;have HJ:=qqh uq;have HB:=qqh B8;have HO:=qqh hown;have SU:=qqh hrun;have nc:=qqh (uq.cur.blk.cell 1);obtain⟨Av,cv,rfl,sP⟩:=av hown;have hwj:IntKind.i64.wrap ((j:Int)+1)=(j:Int)+1:=wrap_small _ (by omega) (by omega);obtain⟨x,hx⟩:∃ x,pk L j=x:=⟨_,rfl⟩;have HX:=qqh hx;have HP:=qqh (fun(W:World) (h:aB W C A n c L j)=>show Calls Tryz.prog 35 #[.pointer (some ⟨C,0,none⟩)] W fun e w'=>e=.returned (.int .i32 x)∧∃ m,w'=W.drewN m by have:=iP.out W j h;rwa [hx]at this);clear uq B8 hown hrun hx;by_cases yV:x=39
 ·have hj:r=j:=SU.out.trans (di (fun _=>by rw [HX.out,yV];rfl));have hlt:j<n:=(by rw [← hl];exact bO (by rw [HX.out];omega));subst yV;go_wp2_with fail;refine(HP.out _ HJ.out.cur).mono ?_;rintro e w3 ⟨rfl,m3,ER⟩;have mh:=qqh (HJ.out.drewN m3);have bN:=qqh (HB.out.trans (bQ.drewN _ C m3));have qG:=qqh (show(World.drewN _ m3).ownsRow w.heap.size 167 4 _ _ _ from HO.out);rw [← ER]at mh bN qG;clear ER;have nP:=qqh (cL.b8 (X:=fun b=>w.heap.size≤b) qG.out (fun b hb=>(bt qG.out hb).1));obtain⟨s1,s2,s3,s4⟩:=mh.out.cur.step hlt;have zE:=qqh s3;have bW:=qqh (bN.out.trans s4);have Zr:=mh.out.lt;have aaq:=qqh (nP.out.keep (s4.keeps (X':=fun b=>w.heap.size≤b) (fun b h=>by omega) (fun b h _=>h)));clear s3 s4;have HJR:=qqh hj;clear hj;go_wp2_with fail;go_ret;left;rw [HJR.out];exact⟨HX.out,⟨Av,_,cv,rfl,aaq.out,sP,by omega⟩,zE.out,bW.out⟩
 have agk:(x != 39)=true:=(by simp;exact yV);by_cases hneg:x<0
 ·have hj:r=j:=SU.out.trans (di (fun _=>by rw [HX.out];unfold lK;rw [decide_eq_false (by omega)];rfl));have HJR:=qqh hj;have zf:=qqh (show pk L j≠39 by rw [HX.out];exact yV);clear hj yV;go_wp2_with fail;refine(HP.out _ HJ.out.cur).mono ?_;rintro e w3 ⟨rfl,m3,ER⟩;have mh:=qqh (HJ.out.drewN m3);have bN:=qqh (HB.out.trans (bQ.drewN _ C m3));have qG:=qqh (show(World.drewN _ m3).ownsRow w.heap.size 167 4 _ _ _ from HO.out);rw [← ER]at mh bN qG;clear ER;go_wp2_with fail;refine(HP.out _ mh.out.cur).mono ?_;rintro e w4 ⟨rfl,m4,T6⟩;have Gc:=qqh (mh.out.drewN m4);have bW:=qqh (bN.out.trans (bQ.drewN _ C m4));have jm:=qqh (show(World.drewN _ m4).ownsRow w.heap.size 167 4 _ _ _ from qG.out);rw [← T6]at Gc bW jm;clear T6;have k1:=Gc.out.cur.blk.cell 1;go_wp2_with fail;refine(cE 2 j _).mono ?_;rintro e w5 ⟨rfl,rfl⟩;go_wp2_with fail;rw [HJR.out];exact⟨rfl,.inr ⟨zf.out,rfl,bW.out⟩⟩
 have hge:decide (x<0)=false:=decide_eq_false hneg;have hlt:j<n:=(by rw [← hl];exact bO (by rw [HX.out];omega));have Cm:=qqh (SU.out.trans (ey (p:=lK) (by omega) (by rw [HX.out];unfold lK;simp;omega)));have sK:=qqh (show iD (aT L (i+1) (j+1))=iD (aT L (i+1) j)++[.int .i64 1,.int .i32 x,.slice none 0 0,.string ⟨#[]⟩] by rw [Dr hij (by omega),Er,HX.out]);clear yV hneg;go_wp2_with fail;refine(HP.out _ HJ.out.cur).mono ?_;rintro e w3 ⟨rfl,m3,ER⟩;have mh:=qqh (HJ.out.drewN m3);have bN:=qqh (HB.out.trans (bQ.drewN _ C m3));have qG:=qqh (show(World.drewN _ m3).ownsRow w.heap.size 167 4 _ _ _ from HO.out);rw [← ER]at mh bN qG;clear ER;go_wp2_with fail;refine(HP.out _ mh.out.cur).mono ?_;rintro e w4 ⟨rfl,m4,T6⟩;have Gc:=qqh (mh.out.drewN m4);have bW:=qqh (bN.out.trans (bQ.drewN _ C m4));have jm:=qqh (show(World.drewN _ m4).ownsRow w.heap.size 167 4 _ _ _ from qG.out);rw [← T6]at Gc bW jm;clear T6;have Eb:=qqh (fun(W:World)=>Rd.new W 167 4 1 [.int .i64 1,.int .i32 x,.slice none 0 0,.string ⟨#[]⟩] rfl);go_wp2_with fail;refine(HP.out _ Gc.out.cur).mono ?_;rintro e w5 ⟨rfl,m5,ND⟩;have G8:=qqh (Gc.out.drewN m5);have eD:=qqh (bW.out.trans (bQ.drewN _ C m5));have yq:=qqh (show(World.drewN _ m5).ownsRow w.heap.size 167 4 _ _ _ from jm.out);rw [← ND]at G8 eD yq;clear ND;have AD:=qqh (World.ownsRow.alloc yq.out (.cells #[.int .i64 1,.int .i32 x,.slice none 0 0,.string ⟨#[]⟩] 167));have fG:=(Below.refl w5.heap.size w5).alloc qql (.cells #[.int .i64 1,.int .i32 x,.slice none 0 0,.string ⟨#[]⟩] 167);have ND:=eD.out.1;have iQ:=qqh (bQ.below (w:=w5) C fG)
 have ig:=qqh (eD.out.trans iQ.out);have AR:=qqh (G8.out.below (fG.mono ND));have hsz:=ig.out.1;clear fG;go_wp2_with (at_builtin;refine aj _ rfl (.tmp 29) (.tmp 35) 79 rfl w.heap.size 167 i0 _ 4 56 Tryz.underlying79 K9 z0 z1 z2 rfl (by decide) _ _ _ rfl AD.out (w5.heap.size+1) (some ⟨w5.heap.size,0,none⟩) 1 1 [.int .i64 1,.int .i32 x,.slice none 0 0,.string ⟨#[]⟩] rfl (Eb.out w5) (QY x) (by simp only [maxLen];omega) (by omega) hsz ?_);intro v' w9 af;have cA:=af.below hsz AD.out;have Ks:=qqh (AR.out.below cA);have cB:=qqh (fN ig.out cA);have fH:=qqh (show w9.ownsRow w.heap.size 167 4 v' (j+1 - (i+1)) (iD (aT L (i+1) (j+1))) by
  have:=af.own;rw [sK.out,show j+1 - (i+1)=j - (i+1)+1 by omega];exact this)
 clear af cA;obtain⟨s1,s2,s3,s4⟩:=Ks.out.cur.step hlt;have HJA:=qqh (Ks.out.but s3 s4);have vI:=qqh (cB.out.trans s4);have Zr:=Ks.out.lt;obtain⟨A9,c9,rfl,_⟩:=av fH.out;have HOA:=qqh (ownsRow_setCell_below fH.out (a:=⟨C,1,none⟩) Zr (.int .i64 ((j:Int)+1)));clear s3 s4;go_wp2_with fail;refine⟨⟨j+1,by omega,hlt,Cm.out,HOA.out,HJA.out,vI.out⟩,?_⟩;have e1:(w9.setCell ⟨C,1,none⟩ (.int .i64 ((j:Int)+1))).cell? ⟨C,1,none⟩=some (.int .i64 ((j+1:Nat):Int)):=HJA.out.cur.blk.cell 1;have e2:wr.cell? ⟨C,1,none⟩=some (.int .i64 (j:Int)):=nc.out;rw [e1,e2];simp only [Int.toNat_natCast];omega
def iO (w:World) (X:Nat→Prop) (a:aI) (cs:List Value):Prop :=
  ∃ A n c,cs = [.int .i64 a.kind,.int .i32 a.rune,.slice A n c,.string a.name]∧cL w X 2 A n (au a.set)∧n≤c∧n≤maxLen
theorem iO.keep {w w':World} {X X':Nat→Prop} (hk:aa w X w' X') (a:aI) (cs:List Value) (h:iO w X a cs):iO w' X' a cs:=by
 obtain⟨A,n,c,e,h1,h2⟩:=h;exact⟨A,n,c,e,h1.keep hk,h2⟩
theorem iO.one {w:World} {X:Nat→Prop} {a:aI} {cs:List Value} (h:iO w X a cs):∀ u∈cs,u.oneCell'=true:=by
 obtain⟨A,n,c,rfl,_⟩:=h;intro u hu;simp at hu;rcases hu with rfl | rfl | rfl | rfl <;> rfl
def xA (lo C:Nat) (v:Value) (b:Nat):Prop:=lo≤b∧b≠C∧v.ownBlock≠some b
def gY (lo C:Nat) (w:World) (v:Value) (l:List aI):Prop:=dD (iO w (xA lo C v)) 167 4 w lo v l
theorem Il {w w':World} {C base sz n:Nat} {e:TypeId} {v:Value} {xs:List Value} (h:w.ownsRow base e sz v n xs) (hb:bQ w C w') (hC:C<base):w'.ownsRow base e sz v n xs:=by
 refine⟨h.1,?_⟩;rcases h.2 with h2 | ⟨g,cap,cur,hv,hg,hh,r⟩;exact .inl h2;exact .inr ⟨g,cap,cur,hv,hg,(hb.2.2.2.2 g (Array.getElem?_eq_some_iff.1 hh).1 (by omega)).trans hh,r⟩
theorem gY.but {lo C:Nat} {w w':World} {v:Value} {l:List aI} (h:gY lo C w v l) (hb:bQ w C w') (hC:C<lo):gY lo C w' v l :=
  dD.kept (fun _ _ ho=>Il ho hb hC) (iO.keep (hb.keeps (fun _ h=>h.2.1) (fun _ h _=>h))) h
theorem Cf {lo C m sz:Nat} {e:TypeId} {v v':Value} {ys:List Value} {w w2:World} (ha:bh lo e sz v w m ys v' w2):aa w (xA lo C v) w2 (xA lo C v'):=by
 refine aa.app ha (fun b hb=>hb.2.2) (fun b hb hl=>⟨hb.1,hb.2.1,?_⟩);rcases ha.2.2 with e | e
 ·rw [e];exact hb.2.2
 rw [e];intro h;injection h with h;omega
theorem gY.push {lo C:Nat} {w:World} {v:Value} {l:List aI} (h:gY lo C w v l) (a:aI) {cs:List Value} (ha:iO w (xA lo C v) a cs) (hcs:cs.length=4) :
    ∃ ys,w.ownsRow lo 167 4 v l.length ys∧∀ v' w',bh lo 167 4 v w (l.length+1) (ys++cs) v' w'→gY lo C w' v' (l++[a]):=by
 obtain⟨css,h1,h2,h3,h4⟩:=h;refine⟨css.flatten,h4,fun v' w' af=>?_⟩;have hk:aa w (xA lo C v) w' (xA lo C v'):=Cf af;exact dD.push h1 h2 h3 (iO.keep hk) (ha.keep hk) hcs af
def qc (x:Int):List Value:=[.int .i64 1,.int .i32 x,.slice none 0 0,.string ⟨#[]⟩]
theorem Pt (rs:List Int):(rs.map qc).flatten=iD rs:=by unfold iD;rw [List.flatMap_def];rfl
theorem BH (w:World) (X:Nat→Prop) (x:Int):iO w X (mQ x) (qc x):=⟨none,0,0,rfl,⟨rfl,fun h=>absurd h (by omega)⟩,qql,Nat.zero_le _⟩
theorem gY.VB {lo C:Nat} {w:World} {v:Value} {l:List aI} (h:gY lo C w v l) (rs:List Int) :
    ∃ ys,w.ownsRow lo 167 4 v l.length ys∧∀ v' w',bh lo 167 4 v w (l.length+rs.length) (ys++iD rs) v' w'→gY lo C w' v' (l++rs.map mQ):=by
 obtain⟨css,h1,h2,h3,h4⟩:=h;refine⟨css.flatten,h4,fun v' w' af=>?_⟩;have hk:aa w (xA lo C v) w' (xA lo C v'):=Cf af;refine⟨css++rs.map qc,by simp [h1],?_,?_,?_⟩
 ·intro i a cs ha hc;rcases Nat.lt_or_ge i l.length with hi | hi
  ·rw [List.getElem?_append_left hi]at ha;rw [List.getElem?_append_left (by omega)]at hc;exact iO.keep hk a cs (h2 i a cs ha hc)
  rw [List.getElem?_append_right hi,List.getElem?_map]at ha;rw [List.getElem?_append_right (by omega),h1,List.getElem?_map]at hc;cases hx:rs[i - l.length]? with
  | none=>rw [hx]at ha;cases ha
  | some x=>
   rw [hx]at ha hc;obtain rfl:=Option.some.inj ha;obtain rfl:=Option.some.inj hc;exact BH w' _ x
 ·intro cs hc;rcases List.mem_append.1 hc with hc | hc;exact h3 cs hc;obtain⟨x,_,rfl⟩:=List.mem_map.1 hc;rfl
 have:=af.own;rw [List.flatten_append,Pt,List.length_append,List.length_map];exact this
theorem gY.form {lo C:Nat} {w:World} {v:Value} {l:List aI} (h:gY lo C w v l):∃ A c,v=.slice A l.length c∧l.length≤c:=dD.form h
theorem gY.nil (lo C:Nat) (w:World):gY lo C w (.slice none 0 0) []:=dD.nil _ _
theorem gY.below {lo C:Nat} {w w':World} {v:Value} {l:List aI} (h:gY lo C w v l) (hb:Below w.heap.size w w'):gY lo C w' v l :=
  dD.kept (fun _ _ ho=>bG ho hb) (iO.keep (aa.any hb)) h
theorem gY.apart {lo C:Nat} {w:World} {v:Value} {l:List aI} (h:gY lo C w v l) {b:Nat} (hb:w.heap.size≤b):v.ownBlock≠some b:=by
 obtain⟨css,h1,h2,h3,h4⟩:=h;intro e;have:=(bt h4 e).2;omega
end Go.Proofs.YtamkjeipdjbemaaGreatDoor
