/- SortSpan + SetFour + CurSpan + RdSpace + RdWord + RdName -/
import Derived.Test.YtblinekbpcdbfaaGreatDoorShelf2
import Derived.Test.YtblinekbpcdbfaaGreatDoorShelfM
import Derived.Test.YtblinekbpcdbfaaGreatDoorZv12
import Derived.Test.YtblinekbpcdbfaaGreatDoorZv22
import Derived.Test.YtblinekbpcdbfaaGreatDoorZv14
import Derived.Test.YtblinekbpcdbfaaGreatDoorZv33
import Derived.Test.YtblinekbpcdbfaaGreatDoorZv13
set_option maxHeartbeats 6400000
set_option maxRecDepth 100000
namespace Go.Proofs.YtblinekbpcdbfaaGreatDoor
open Go.RowKit
def mM (x:Int × Int):List Value:=[.int .i32 x.1,.int .i32 x.2]
def lD (x y:Int × Int):Int:=Lib.compareInt x.1 y.1
theorem Bo (x y:Int × Int):ltOf lD x y=decide (x.1<y.1):=by
 unfold ltOf lD Lib.compareInt;by_cases h1:x.1<y.1
 ·simp [h1]
 by_cases h2:y.1<x.1 <;> simp [h1,h2]
theorem Pf:Sort.SWO (ltOf lD) where
  irrefl x:=by rw [Bo];simp
  trans x y z h1 h2:=by rw [Bo]at *;simp at *;omega
  ntrans x y z h1 h2:=by rw [Bo]at *;simp at *;omega
theorem FU (x:Int) (w:World):Calls Tryz.prog 138 #[.int .i32 x] w fun e w'=>e=.returned (.bool false)∧w'=w:=by
 have h:(x != x)=false:=(by simp);go_enter Tryz.func138,Tryz.ntmps138;go_wp2_with fail;go_ret;exact⟨rfl,rfl⟩
theorem Lb (x y:Int) (w:World):Calls Tryz.prog 121 #[.int .i32 x,.int .i32 y] w fun e w'=>e=.returned (.int .i64 (Lib.compareInt x y))∧w'=w:=by
 unfold Lib.compareInt;by_cases h1:x<y
 ·rw [if_pos h1];go_enter Tryz.func121,Tryz.ntmps121;go_wp2_with (go_at_call 138;refine(FU _ _).mono ?_;rintro e w' ⟨rfl,rfl⟩);go_ret;exact⟨rfl,rfl⟩
 rw [if_neg h1];by_cases h2:x > y
 ·rw [if_pos h2];go_enter Tryz.func121,Tryz.ntmps121;go_wp2_with (go_at_call 138;refine(FU _ _).mono ?_;rintro e w' ⟨rfl,rfl⟩);go_ret;exact⟨rfl,rfl⟩
 rw [if_neg h2];go_enter Tryz.func121,Tryz.ntmps121;go_wp2_with (go_at_call 138;refine(FU _ _).mono ?_;rintro e w' ⟨rfl,rfl⟩);go_ret;exact⟨rfl,rfl⟩
theorem To (x y:Int × Int) (W:World):Calls Tryz.prog 120 #[.agg #[.int .i32 x.1,.int .i32 x.2],.agg #[.int .i32 y.1,.int .i32 y.2]] W fun e w'=>e=.returned (.int .i64 (lD x y))∧∃ q os',w'=Sort.grow (W.drewN q) os':=by
 have K6:=fun W'=>Lb x.1 y.1 W';unfold lD;generalize Lib.compareInt x.1 y.1=r at K6 ⊢;go_enter Tryz.func120,Tryz.ntmps120;go_wp2_with (go_at_call 121;refine(K6 _).mono ?_;rintro e w' ⟨rfl,rfl⟩);go_ret;exact⟨rfl,0,_,by rw [Sort.alloc_eq_grow,Sort.alloc_eq_grow,Sort.grow_grow];rfl⟩
theorem PS (blk off size:Nat) (w:World):CmpLays Tryz.prog 120 #[] mM 2 lD blk off size w:=fun _ _ _ _ x y=>To x y _
theorem nY (l:aa) (t:Nat) (h:t<l.length*2):(an l)[t]? = some ((mM (l.toArray[t / 2]!))[t % 2]!):=by
 have hk:t / 2<l.length:=(by omega);obtain⟨⟨x,y⟩,hx⟩:∃ z,l[t / 2]? = some z:=⟨_,List.getElem?_eq_getElem hk⟩;obtain⟨c0,c1⟩:=j9 l (t / 2) x y hx;have hg:l.toArray[t / 2]! =(x,y):=by
  rw [getElem!_pos l.toArray (t / 2) (by simpa using hk)];simp only [List.getElem_toArray];exact(List.getElem?_eq_some_iff.1 hx).2
 rw [hg];rcases Nat.mod_two_eq_zero_or_one t with h0 | h0
 ·rw [h0];have e:t=t / 2*2:=(by omega);rw [← e]at c0;exact c0
 rw [h0];have e:t=t / 2*2+1:=(by omega);rw [← e]at c1;exact c1
theorem Bc {l:aa} {n:Nat} {d':Array (Int × Int)} (hn:l.length=n) (hp:Sort.PermIn 0 n l.toArray d') (hs:Sort.SortedIn (ltOf lD) 0 n d') :
    d'.size=n∧l.Perm d'.toList∧d'.toList.Pairwise (fun a b=>a.1≤b.1):=by
 obtain⟨h1,_,h3⟩:=hp;have hsz:d'.size=n:=(by rw [h1];simpa using hn);have e1:(d'.extract 0 n).toList=d'.toList:=(by rw [← hsz];simp);have e2:(l.toArray.extract 0 n).toList=l:=(by rw [← hn];simp);rw [e1,e2]at h3;refine⟨hsz,h3.symm,List.pairwise_iff_getElem.2 fun i j hi hj hij=>?_⟩;have hi':i<d'.size:=(by simpa using hi);have hj':j<d'.size:=(by simpa using hj);have:=hs i j (Nat.zero_le _) hij (by omega);rw [Bo,getElem!_pos d' i hi',getElem!_pos d' j hj',decide_eq_false_iff_not]at this;simp only [Array.getElem_toList];omega
theorem pM (w:World) (g m:Nat) (dk:Array (Int × Int)) (os:Array Obj):bF w g (sortWorldK mM 2 w g 0 m dk os):=by
 unfold sortWorldK Sort.putRowK Sort.putRow Sort.mapBlock Sort.grow Sort.ahead;refine⟨by simp,rfl,rfl,rfl,fun k hk hne=>?_⟩;simp only;rw [Array.getElem?_append_left (by simpa using hk),Array.getElem?_modify,if_neg (Ne.symm hne)]
theorem EE (g n c base:Nat) (l:aa) (w:World) (hn:n≤100000) (hl:l.length=n) (ho:w.ownsRow base 134 2 (.slice (some ⟨g,0,none⟩) n c) n (an l)) :
    Calls Tryz.prog 119 #[.slice (some ⟨g,0,none⟩) n c,.func (.func 120) #[] #[]] w fun e w'=>e=.returned (.tuple #[])∧bF w g w' ∧
      ∃ l',l.Perm l'∧l'.Pairwise (fun a b=>a.1≤b.1)∧kM w' w'.heap.size (some ⟨g,0,none⟩) n l':=by
 have hg:=(bk ho rfl).2;have hH:Sort.HoldsK mM 2 w g 0 l.toArray:=by
  intro j hj;rw [Sort.size_flatK]at hj;have hj2:j<l.length*2:=(by simpa using hj);rw [Sort.get_flatK _ _ _ _ (by simpa using hj2),Nat.zero_add];refine⟨?_,ho.frozenAt _⟩;rw [ho.cellAt _ (by omega)];exact nY l j hj2
 have hsz:l.toArray.size=n:=(by simpa using hl);have eg:∀ args w,(callFunc 120 args).run Tryz.prog w=.ok (.enter 120 args) w:=enters_of Tryz.func120 (by kernel_rfl) rfl;have K6:=AnyQ.slices_SortFunc Tryz.sortSpan 2 Tryz.isAgg134 Tryz.sizeOf134 mM (fun _=>rfl) (fun x v hv=>by simp [mM]at hv;rcases hv with rfl | rfl <;> rfl) lD Pf 120 #[] g 0 c l.toArray w eg (PS g 0 _ w) hH hg (by rw [hsz];omega);rw [hsz]at K6;refine Calls.mono K6 ?_;rintro e w' ⟨rfl,d',m,os,hp,hs,rfl⟩;obtain⟨h1,h2,h3⟩:=Bc hl hp hs;refine⟨rfl,pM _ _ _ _ _,d'.toList,h2,h3,⟨by rw [bt];simp [h1],fun h0=>⟨g,0,rfl,Nat.lt_of_lt_of_le hg (pM w g m d' os).1,fun j u hu=>?_⟩⟩⟩;have hj:j<d'.toList.length*2:=(by have:=(List.getElem?_eq_some_iff.1 hu).1;rwa [bt]at this);rw [nY _ j hj]at hu;have hK:=holdsK_sortWorldK_c mM 2 w g 0 l.toArray d' m os hH hg (by rw [h1,hsz]);have:=(hK j (by rw [Sort.size_flatK];simpa using hj)).1;rw [Sort.get_flatK _ _ _ _ (by simpa using hj)]at this;rw [this];simpa using hu
theorem M9 (w:World) :
    Calls Tryz.prog 119 #[.slice none 0 0,.func (.func 120) #[] #[]] w fun e w'=>e=.returned (.tuple #[])∧w'=w:=by
 have H1:=qqh (show Calls Tryz.prog 148 #[.slice none 0 0,.int .i64 0,.int .i64 0,.func (.func 120) #[] #[]] w fun e w'=>e=.returned (.tuple #[])∧w'=w by
  go_enter Tryz.func148,Tryz.ntmps148;go_wp2_with fail;go_loopw [8] (fun i wr=>i=.int .i64 1∧wr=w) (fun _ _=>0);(case atStart=>exact⟨rfl,rfl⟩);obtain⟨rfl,rfl⟩:=hrel;go_wp2_with fail;go_end0;exact⟨rfl,rfl⟩)
 have H2:=qqh (fun(x:Int)=>show Calls Tryz.prog 136 #[.slice none 0 0,.int .i64 0,.int .i64 0,.int .i64 x,.func (.func 120) #[] #[]] w fun e w'=>e=.returned (.tuple #[])∧w'=w by
  go_enter Tryz.func136,Tryz.ntmps136;go_wp2_with fail;go_loopw [1,2,3] (fun a b c wr=>a=.int .i64 0∧b=.int .i64 0∧c=.int .i64 x∧wr=w) (fun _ _ _ _=>0);(case atStart=>exact⟨rfl,rfl,rfl,rfl⟩);obtain⟨rfl,rfl,rfl,rfl⟩:=hrel;go_wp2_with fail;refine H1.out.mono ?_;rintro e w1 ⟨rfl,rfl⟩;go_wp2_with fail;(try simp only [Exit.inBlock,Exit.then]);refine bodyPost_ret (results_none rfl _ _ _) rfl ?_;exact⟨rfl,rfl⟩)
 have H3:=qqh (show Calls Tryz.prog 137 #[.int .u64 0] w fun e w'=>e=.returned (.int .i64 (Lib.bitLen 0:Nat))∧w'=w from Tryz.bits_Len 0 w (by decide) (by decide));go_enter Tryz.func119,Tryz.ntmps119;go_wp2_with (first | (go_at_call 137;refine H3.out.mono ?_;rintro e w1 ⟨rfl,rfl⟩) | (go_at_call 136;refine(H2.out _).mono ?_;rintro e w1 ⟨rfl,rfl⟩));go_end0;exact⟨rfl,rfl⟩
def bR (w:World) (r:aa × Int) (e:Ending) (w':World):Prop:=∃ A' n' c',e=.returned (.tuple #[.slice A' n' c',.int .i64 r.2])∧cV w' (fun b=>w.heap.size≤b) 2 A' n' (an r.1)∧n'≤200∧n'≤c'∧Below w.heap.size w w'
theorem bR.wm {w w1:World} {A:Option Addr} {n c:Nat} {s:aa} {e:Ending} {w':World} (h1:cV w1 (fun b=>w.heap.size≤b) 2 A n (an s)) (hc:n≤c) (hb:Below w.heap.size w w1)
    (he:e=.returned (if 200<n then .tuple #[.slice none 0 0,.int .i64 5]else .tuple #[.slice A n c,.int .i64 0])∧w'=w1):bR w (uo s) e w':=by
 obtain⟨rfl,rfl⟩:=he;have hl:s.length=n:=(by have:=h1.1;rw [bt]at this;omega);unfold uo;rw [hl];by_cases h:200<n
 ·rw [if_pos h,if_pos h];exact⟨none,0,0,rfl,⟨rfl,fun h=>absurd h (by omega)⟩,by omega,by omega,hb⟩
 rw [if_neg h,if_neg h];exact⟨A,n,c,rfl,h1,by omega,hc,hb⟩
theorem cV.lift {w:World} {X X':Nat→Prop} {sz n:Nat} {A:Option Addr} {xs:List Value} (h:cV w X sz A n xs) (hX:∀ b,X b→X' b):cV w X' sz A n xs:=h.keep (ag.refl hX)
def Xz (w:World) (n:Nat) (i:Value) (wr:World):Prop:=∃ j:Nat,j≤n∧i=.int .i64 j∧Below w.heap.size w wr
def RJ (w:World) (l:aa) (e:Ending) (w':World):Prop:=∃ l',l.Perm l'∧l'.Pairwise (fun a b=>a.1≤b.1)∧bR w (uo (iI l')) e w'
theorem Qk (A:Option Addr) (n c:Nat) (l:aa) (w:World) (hn:n≤1000) (hr:oB l) (hl:kM w w.heap.size A n l) :
    Calls Tryz.prog 101 #[.slice A n c] w (RJ w l):=by
 have aW:=qqh hl.len;have HL:=qqh hl;have HR:=qqh hr;clear hl hr;go_enter Tryz.func101,Tryz.ntmps101;go_wp2_with fail;go_loopw [9] (Xz w n) (fun i _=>n - (intOf i).toNat);(case atStart=>exact⟨0,Nat.zero_le _,rfl,qqb⟩);obtain⟨j,hj,rfl,hb⟩:=hrel;have hz:=hb.size;by_cases hlt:j<n
 ·obtain⟨⟨x,y⟩,hx⟩:∃ z,l[j]? = some z:=⟨_,List.getElem?_eq_getElem (by rw [aW.out];exact hlt)⟩;obtain⟨b,off,rfl,ey,c0,c1⟩:=HL.out.at hx;have d0:=(hb.cell (p:=⟨b,off+j*2,none⟩) ey).trans c0;have d1:=(hb.cell (p:=⟨b,off+j*2+1,none⟩) ey).trans c1;have hxy:=HR.out (x,y) (List.mem_of_getElem? hx);simp only at hxy;have bJ:=qqh (hb.alloc hz (.cells #[.int .i32 x,.int .i32 y] 134));have g1:decide (x<0)=false:=decide_eq_false (by omega);have g2:decide (1114111<y)=false:=decide_eq_false (by omega);have g3:decide (y<x)=false:=decide_eq_false (by omega);clear hx c0 c1 hb;go_wp2_with fail;exact⟨⟨j+1,by omega,by go_num,bJ.out⟩,by simp [intOf];omega⟩
 obtain rfl:j=n:=(by omega);have xX:=qqh (C0 A j c l wr (by omega) ((Rd.below HL.out hb).more hz));have HB:=qqh hb;clear hb;go_wp2_with fail;refine xX.out.mono ?_;rintro e w1 ⟨⟨v,rfl,ho⟩,aT⟩;have bJ:=qqh (HB.out.trans (aT.mono hz));have sJ:=qqh (mg ho hz);clear aT xX;have VO:=qqh (aJ ho);rcases ho.2 with ⟨rfl,hn0⟩ | ⟨g,cap,cur,rfl,hg,hh,WJ⟩
 ·obtain rfl:j=0:=hn0;have C5:l = []:=List.eq_nil_of_length_eq_zero aW.out;subst C5;clear ho VO;go_wp2_with fail;refine(M9 _).mono ?_;rintro e w2 ⟨rfl,rfl⟩;have HM:=qqh (tw none 0 0 [] w2 (by omega) (by intro x hx;simp at hx) Rd.nil);go_wp2_with fail;refine HM.out.mono ?_;rintro e w3 ⟨A3,n3,c3,rfl,lJ,RM,lA,bP⟩;have bM:=qqh (bJ.out.trans (bP.mono bJ.out.size));have HP:=qqh (fun(e:Ending) (w':World) h=>show bR w (uo (iI [])) e w' from bR.wm (lJ.lift (X':=fun b=>w.heap.size≤b) (fun _ h=>Nat.le_trans bJ.out.size h)) lA bM.out h);clear lJ bP;go_wp2_with fail;refine(nQ A3 n3 c3 w3).mono ?_;rintro e w4 he;obtain⟨A5,n5,c5,rfl,h5⟩:=HP.out e w4 he;have H5:=qqh h5;clear h5 he HP;go_wp2_with fail;go_ret2;exact⟨[],List.Perm.nil,List.Pairwise.nil,A5,n5,c5,rfl,H5.out⟩
 have HS:=qqh (EE g j cap w.heap.size l w1 (by omega) aW.out sJ.out);have Oi:=qqh (Nat.le_trans hz hg);clear ho VO WJ hh hg;go_wp2_with fail;refine HS.out.mono ?_;rintro e w2 ⟨rfl,ng,l',hp,Vv,hrd⟩;have bL:=qqh (bJ.out.trans (ng.to bJ.out.size Oi.out));have dP:=qqh (show oB l' from fun x hx=>HR.out x (hp.mem_iff.2 hx));have HP:=qqh hp;have K2:=qqh Vv;have HM:=qqh (tw (some ⟨g,0,none⟩) j cap l' w2 (by omega) dP.out hrd);clear ng hp Vv hrd HS;go_wp2_with fail;refine HM.out.mono ?_;rintro e w3 ⟨A3,n3,c3,rfl,lJ,RM,lA,bP⟩;have bM:=qqh (bL.out.trans (bP.mono bL.out.size));have HT:=qqh (fun(e:Ending) (w':World) h=>show bR w (uo (iI l')) e w' from bR.wm (lJ.lift (X':=fun b=>w.heap.size≤b) (fun _ h=>Nat.le_trans bL.out.size h)) lA bM.out h);clear lJ bP;go_wp2_with fail;refine(nQ A3 n3 c3 w3).mono ?_;rintro e w4 he;obtain⟨A5,n5,c5,rfl,h5⟩:=HT.out e w4 he;have H5:=qqh h5;clear h5 he HT;go_wp2_with fail;go_ret2;exact⟨l',HP.out,K2.out,A5,n5,c5,rfl,H5.out⟩
structure bU (w:World) (A:Option Addr) (n c:Nat) (s:aa):Prop where
  right:aH s
  rd:kM w w.heap.size A n s
  cap:n≤c
theorem bU.below {w w':World} {A:Option Addr} {n c:Nat} {s:aa} (h:bU w A n c s) (hb:Below w.heap.size w w'):bU w' A n c s:=⟨h.right,(Rd.below h.rd hb).more hb.size,h.cap⟩
theorem bU.le {w:World} {A:Option Addr} {n c:Nat} {s:aa} (h:bU w A n c s):n≤200:=by have:=h.rd.len;have:=h.right.size;omega
theorem bU.R5 {w:World} {A:Option Addr} {n c:Nat} {s:aa} (h:bU w A n c s):nS w BU s [.slice A n c] :=
  ⟨_,rfl,A,n,c,rfl,cV.G9 h.rd qql (fun _ _=>trivial),by have:=h.le;simp only [maxLen];omega⟩
theorem Mt {w:World} {A:Option Addr} {n c:Nat} {s:aa} (h:bU w A n c s) :
    ck (nS (w.alloc (.cells #[.slice A n c] 22)) BU) (w.alloc (.cells #[.slice A n c] 22)) BU 1 (some ⟨w.heap.size,0,none⟩) 1 [s]:=by
 have hb:=(Below.refl w.heap.size w).alloc qql (.cells #[.slice A n c] 22);refine⟨[[.slice A n c]],rfl,rfl,?_,by simp,cV.new 22 [.slice A n c] rfl trivial⟩;intro i a cs ha hc;rcases i with _ | i
 ·simp at ha hc;subst ha hc;exact(h.below hb).R5
 simp at ha
theorem MQ {w:World} {A B:Option Addr} {n c m d:Nat} {a b:aa} (ha:bU w A n c a) (hb:bU w B m d b) :
    ck (nS (w.alloc (.cells #[.slice A n c,.slice B m d] 22)) BU) (w.alloc (.cells #[.slice A n c,.slice B m d] 22)) BU 1 (some ⟨w.heap.size,0,none⟩) 2 [a,b]:=by
 have fq:=(Below.refl w.heap.size w).alloc qql (.cells #[.slice A n c,.slice B m d] 22);refine⟨[[.slice A n c],[.slice B m d]],rfl,rfl,?_,by simp,cV.new 22 [.slice A n c,.slice B m d] rfl trivial⟩;intro i x cs hx hc;match i with
 | 0=>simp at hx hc;subst hx hc;exact(ha.below fq).R5
 | 1=>simp at hx hc;subst hx hc;exact(hb.below fq).R5
 | i+2=>simp at hx
theorem vU {w:World} {A:Option Addr} {n c:Nat} {s:aa} (h:bU w A n c s) :
    Calls Tryz.prog 100 #[.slice (some ⟨w.heap.size,0,none⟩) 1 1] (w.alloc (.cells #[.slice A n c] 22)) fun e w'=>e=.returned (.int .i64 0)∧Below w.heap.size w w' :=
  (wM BU [s] _ 1 1 _ (by decide) (by simpa using h.right) (Mt h)).mono fun _ _ ⟨he,hb⟩=>⟨he,(qqb.alloc qql _).trans (hb.mono (by simp))⟩
theorem kP {w:World} {A B:Option Addr} {n c m d:Nat} {a b:aa} (ha:bU w A n c a) (hb:bU w B m d b) :
    Calls Tryz.prog 100 #[.slice (some ⟨w.heap.size,0,none⟩) 2 2] (w.alloc (.cells #[.slice A n c,.slice B m d] 22)) fun e w'=>e=.returned (.int .i64 0)∧Below w.heap.size w w' :=
  (wM BU [a,b] _ 2 2 _ (by decide) (by simpa using ⟨ha.right,hb.right⟩) (MQ ha hb)).mono fun _ _ ⟨he,hb⟩=>⟨he,(qqb.alloc qql _).trans (hb.mono (by simp))⟩
theorem tY {w:World} {A B:Option Addr} {n c m d:Nat} {a b:aa} (ha:bU w A n c a) (hb:bU w B m d b) :
    Calls Tryz.prog 102 #[.slice (some ⟨w.heap.size,0,none⟩) 2 2] (w.alloc (.cells #[.slice A n c,.slice B m d] 22)) fun e w'=>
      ∃ A' c' k,e=.returned (.slice A' k c')∧k≤1000∧kM w' w'.heap.size A' k (a++b)∧Below w.heap.size w w':=by
 have fq:=(Below.refl w.heap.size w).alloc qql (.cells #[.slice A n c,.slice B m d] 22);have hf : [a,b].flatten=a++b:=(by simp)
 have h:=Bv [a,b] [.slice A n c,.slice B m d] (some ⟨w.heap.size,0,none⟩) 2 2 (w.alloc (.cells #[.slice A n c,.slice B m d] 22)) rfl
   (by have:=Rd.new w 22 1 2 [.slice A n c,.slice B m d] rfl;simpa using this)
   (by
     intro i l u hl hu
     match i with
     | 0=>simp at hl hu;subst hl hu;exact⟨A,n,c,rfl,(ha.below fq).rd⟩
     | 1=>simp at hl hu;subst hl hu;exact⟨B,m,d,rfl,(hb.below fq).rd⟩
     | i+2=>simp at hl)
   (by rw [hf,List.length_append];have:=ha.right.size;have:=hb.right.size;omega) (by decide)
 rw [hf]at h;refine h.mono ?_;rintro e w' ⟨⟨v,rfl,ho⟩,aT⟩;obtain⟨A',c',rfl,_⟩:=aJ ho;exact⟨A',c',_,rfl,by rw [List.length_append];have:=ha.right.size;have:=hb.right.size;omega,Rd.cC ho,fq.trans (aT.mono (by simp))⟩
theorem qd (A B:Option Addr) (n c m d:Nat) (a b:aa) (w:World) (ha:bU w A n c a) (hb:bU w B m d b) :
    Calls Tryz.prog 81 #[.slice A n c,.slice B m d] w (bR w (nC 124 a b)):=by
 have HA:=qqh ha;have HB:=qqh hb;clear ha hb;go_enter Tryz.func81,Tryz.ntmps81;go_wp2_with fail;refine(kP HA.out HB.out).mono ?_;rintro e w1 ⟨rfl,aT⟩;have pP:=qqh (HA.out.below aT);have bJ:=qqh (HB.out.below aT);have qY:=qqh aT;clear aT;go_wp2_with fail;refine(tY pP.out bJ.out).mono ?_;rintro e w2 ⟨A2,c2,k,rfl,hlen,hrd,aX⟩;have LK:=qqh (qY.out.trans (aX.mono qY.out.size));have HO:=qqh (Qk A2 k c2 (a++b) w2 hlen (fun x hx=>by
  rcases List.mem_append.1 hx with h | h;exact HA.out.right.each x h;exact HB.out.right.each x h) hrd)
 clear hrd aX;go_wp2_with fail;refine HO.out.mono ?_;rintro e w3 ⟨l',hp,Vv,A3,n3,c3,rfl,h1,h2,h3,h4⟩;rw [← Ng HA.out.right HB.out.right hp Vv]at h1 ⊢;have H1:=qqh (h1.lift (X':=fun b=>w.heap.size≤b) (fun _ h=>Nat.le_trans LK.out.size h));have H4:=qqh (LK.out.trans (h4.mono LK.out.size));clear h1 h4 hp Vv HO;go_wp2_with fail;go_ret2;exact⟨A3,n3,c3,rfl,H1.out,h2,h3,H4.out⟩
theorem yH (A B:Option Addr) (n c m d:Nat) (a b:aa) (w:World) (ha:bU w A n c a) (hb:bU w B m d b) :
    Calls Tryz.prog 83 #[.slice A n c,.slice B m d] w (bR w (nC 38 a b)):=by
 have HA:=qqh ha;have HB:=qqh hb;clear ha hb;rw [PR HA.out.right HB.out.right];go_enter Tryz.func83,Tryz.ntmps83;go_wp2_with fail;refine(kP HA.out HB.out).mono ?_;rintro e w1 ⟨rfl,aT⟩;have HM:=qqh (zO A B n m c d a b w1 (by have:=HA.out.le;have:=HB.out.le;omega) HA.out.cap HB.out.cap HA.out.right.canon HB.out.right.canon (HA.out.below aT).rd (HB.out.below aT).rd);have qY:=qqh aT;clear aT;go_wp2_with fail;refine HM.out.mono ?_;rintro e w3 ⟨A3,n3,c3,rfl,lJ,RM,lA,bP⟩;have bM:=qqh (qY.out.trans (bP.mono qY.out.size));have HT:=qqh (fun(e:Ending) (w':World) h=>show bR w (uo (dr a b)) e w' from bR.wm (lJ.lift (X':=fun b=>w.heap.size≤b) (fun _ h=>Nat.le_trans qY.out.size h)) lA bM.out h);clear lJ bP;go_wp2_with fail;refine(nQ A3 n3 c3 w3).mono ?_;rintro e w4 he;obtain⟨A5,n5,c5,rfl,h5⟩:=HT.out e w4 he;have H5:=qqh h5;clear h5 he HT;go_wp2_with fail;go_ret2;exact⟨A5,n5,c5,rfl,H5.out⟩
theorem EZ (A B:Option Addr) (n c m d:Nat) (a b:aa) (w:World) (ha:bU w A n c a) (hb:bU w B m d b) :
    Calls Tryz.prog 84 #[.slice A n c,.slice B m d] w (bR w (nC 45 a b)):=by
 have HA:=qqh ha;have HB:=qqh hb;clear ha hb;rw [K5 HA.out.right HB.out.right];go_enter Tryz.func84,Tryz.ntmps84;go_wp2_with fail;refine(kP HA.out HB.out).mono ?_;rintro e w1 ⟨rfl,aT⟩;have pP:=qqh (HA.out.below aT);have HN:=qqh (Ci B m d b w1 HB.out.le HB.out.right (HB.out.below aT).rd);have qY:=qqh aT;clear aT;go_wp2_with fail;refine HN.out.mono ?_;rintro e w2 ⟨A2,n2,c2,rfl,iW,hn2,hc2,aX⟩;have bL:=qqh (qY.out.trans (aX.mono qY.out.size));have HM:=qqh (zO A A2 n n2 c c2 a (wI b) w2 (by have:=HA.out.le;omega) HA.out.cap hc2 HA.out.right.canon (BA HB.out.right.canon).1 (pP.out.below aX).rd iW.of);clear iW aX;go_wp2_with fail;refine HM.out.mono ?_;rintro e w3 ⟨A3,n3,c3,rfl,lJ,RM,lA,bP⟩;have bM:=qqh (bL.out.trans (bP.mono bL.out.size));have HT:=qqh (fun(e:Ending) (w':World) h=>show bR w (uo (dr a (wI b))) e w' from bR.wm (lJ.lift (X':=fun b=>w.heap.size≤b) (fun _ h=>Nat.le_trans bL.out.size h)) lA bM.out h);clear lJ bP;go_wp2_with fail;refine(nQ A3 n3 c3 w3).mono ?_;rintro e w4 he;obtain⟨A5,n5,c5,rfl,h5⟩:=HT.out e w4 he;have H5:=qqh h5;clear h5 he HT;go_wp2_with fail;go_ret2;exact⟨A5,n5,c5,rfl,H5.out⟩
theorem By (A:Option Addr) (n c:Nat) (a b:aa) (w:World) (ha:bU w A n c a) :
    Calls Tryz.prog 86 #[.slice A n c] w (bR w (nC 94 a b)):=by
 have HA:=qqh ha;clear ha;rw [M7 HA.out.right b];go_enter Tryz.func86,Tryz.ntmps86;go_wp2_with fail;refine(vU HA.out).mono ?_;rintro e w1 ⟨rfl,aT⟩;have HN:=qqh (Ci A n c a w1 HA.out.le HA.out.right (HA.out.below aT).rd);have qY:=qqh aT;clear aT;go_wp2_with fail;refine HN.out.mono ?_;rintro e w3 ⟨A3,n3,c3,rfl,lJ,RM,lA,bP⟩;have bM:=qqh (qY.out.trans (bP.mono qY.out.size));have HT:=qqh (fun(e:Ending) (w':World) h=>show bR w (uo (wI a)) e w' from bR.wm (lJ.lift (X':=fun b=>w.heap.size≤b) (fun _ h=>Nat.le_trans qY.out.size h)) lA bM.out h);clear lJ bP;go_wp2_with fail;refine(nQ A3 n3 c3 w3).mono ?_;rintro e w4 he;obtain⟨A5,n5,c5,rfl,h5⟩:=HT.out e w4 he;have H5:=qqh h5;clear h5 he HT;go_wp2_with fail;go_ret2;exact⟨A5,n5,c5,rfl,H5.out⟩
theorem cG (w:World) (C:Nat) (A:Option Addr) (n c:Nat) (L:List Int) (i:Nat) (h:av w C A n c L i) :
    Calls Tryz.prog 31 #[.pointer (some ⟨C,0,none⟩)] w fun e w'=>e=.returned (.int .i32 (pk L i))∧av w' C A n c L i∧bF w C w' :=
  (l9 w C A n c L i h).mono fun e w' ⟨he,m,hw⟩=>⟨he,by rw [hw];exact h.drewN m,by rw [hw];exact bF.drewN w C m⟩
theorem lY (w:World) (C:Nat) (A:Option Addr) (n c:Nat) (L:List Int) (i k:Nat) (h:av w C A n c L i) (hk:k≤1000) :
    Calls Tryz.prog 51 #[.pointer (some ⟨C,0,none⟩),.int .i64 k] w fun e w'=>e=.returned (.int .i32 (pk L (i+k)))∧av w' C A n c L i∧bF w C w' :=
  (Di w C A n c L i k h hk).mono fun e w' ⟨he,m,hw⟩=>⟨he,by rw [hw];exact h.drewN m,by rw [hw];exact bF.drewN w C m⟩
def eo (w:World) (C:Nat) (A:Option Addr) (n c:Nat) (L:List Int) (r:jY aa) (e:Ending) (w':World):Prop :=
  match r with
  | .ok (s,j)=>(∃ B m d,e=.returned (.slice B m d)∧cV w' (fun b=>w.heap.size≤b) 2 B m (an s)∧m≤d)∧av w' C A n c L j∧bF w C w'
  | .error (x,p)=>e=aS x p∧bF w C w'
def jT (L:List Int) (i:Nat):jY aa:=match js L i with
  | .error e=>.error e
  | .ok (x,j)=>.ok ([x],j)
theorem Mr {L:List Int} {i:Nat} {e:Int × Nat} (h:cL L i=.error e):jT L i=.error e:=by unfold jT js;rw [h]
theorem zx {L:List Int} {i j:Nat} {x:Int} (h:cL L i=.ok (x,j)) (h2:¬(pk L j=45∧pk L (j+1)≠91)):jT L i=.ok ([(x,x)],j):=by unfold jT js;rw [h];simp only;rw [if_neg h2]
theorem KX {L:List Int} {i j:Nat} {x:Int} {e:Int × Nat} (h:cL L i=.ok (x,j)) (h2:pk L j=45∧pk L (j+1)≠91) (h3:cL L (j+1)=.error e):jT L i=.error e:=by
 unfold jT js;rw [h];simp only;rw [if_pos h2,h3]
theorem Lf {L:List Int} {i j k:Nat} {x y:Int} (h:cL L i=.ok (x,j)) (h2:pk L j=45∧pk L (j+1)≠91) (h3:cL L (j+1)=.ok (y,k)) (h4:y<x):jT L i=.error (3,j+1):=by
 unfold jT js;rw [h];simp only;rw [if_pos h2,h3];simp only;rw [if_pos h4]
theorem IF {L:List Int} {i j k:Nat} {x y:Int} (h:cL L i=.ok (x,j)) (h2:pk L j=45∧pk L (j+1)≠91) (h3:cL L (j+1)=.ok (y,k)) (h4:¬ y<x):jT L i=.ok ([(x,y)],k):=by
 unfold jT js;rw [h];simp only;rw [if_pos h2,h3];simp only;rw [if_neg h4]
theorem sv {w W:World} {C:Nat} {A:Option Addr} {n c:Nat} {L:List Int} {j:Nat} (x y:Int) (h:av W C A n c L j) (hb:bF w C W) :
    eo w C A n c L (.ok ([(x,y)],j)) (.returned (.slice (some ⟨W.heap.size,0,none⟩) 1 1)) (W.alloc (.cells #[.int .i32 x,.int .i32 y] 134)) :=
  ⟨⟨_,1,1,rfl,cV.new 134 [.int .i32 x,.int .i32 y] rfl hb.1,qql⟩,h.below (qqb.alloc qql _),hb.trans (bF.below C (qqb.alloc qql _))⟩
theorem Mo (w:World) (C:Nat) (A:Option Addr) (n c:Nat) (L:List Int) (i:Nat) (h:av w C A n c L i) (hL:fZ L) :
    Calls Tryz.prog 85 #[.pointer (some ⟨C,0,none⟩)] w (eo w C A n c L (jT L i)):=by
 have hs:=h.size;have hlen:=h.len;have HC:=qqh h;have ie:=qqh (fun(W:World) (k:Nat) (h:av W C A n c L k)=>cG W C A n c L k h);have Oq:=qqh (fun(W:World) (k:Nat) (h:av W C A n c L k)=>lY W C A n c L k 1 h (by decide));have JD:=qqh (fun(W:World) (k:Nat) (h:av W C A n c L k)=>DS W C A n c L k h hL);have Q7:=qqh hL.ok;clear h hL;obtain⟨R,hR⟩:∃ R,jT L i=R:=⟨_,rfl⟩;rw [hR];have fQ:=qqh hR;clear hR;have H1:=qqh (JD.out w i HC.out);cases h1:cL L i with
 | error e0=>
  obtain⟨x,p⟩:=e0;rw [h1]at H1;have HR:=qqh (fQ.out.symm.trans (Mr h1));clear h1;go_enter Tryz.func85,Tryz.ntmps85;go_wp2_with fail;refine H1.out.mono ?_;rintro e w5 ⟨he,hb⟩;unfold aS at he;subst he;have dG:=qqh hb;clear hb;go_wp2_with fail;rw [HR.out];exact⟨rfl,rfl,dG.out⟩
 | ok q=>
  obtain⟨x,j⟩:=q;rw [h1]at H1;have jL:=qqh h1;obtain⟨_,hx0,hx1⟩:=nZ Q7.out h1;clear h1;by_cases hd:pk L j=45
  ·have Ed:j<n:=(by rw [← hlen];exact bl (by omega));have sK:=qqh (fun(W:World) (h:av W C A n c L j)=>show Calls Tryz.prog 31 #[.pointer (some ⟨C,0,none⟩)] W fun e w'=>e=.returned (.int .i32 45)∧av w' C A n c L j∧bF W C w' by have:=ie.out W j h;rwa [hd]at this);by_cases hb:pk L (j+1)=91
   ·have HR:=qqh (fQ.out.symm.trans (zx jL.out (fun h=>h.2 hb)));have L6:=qqh (fun(W:World) (h:av W C A n c L j)=>show Calls Tryz.prog 51 #[.pointer (some ⟨C,0,none⟩),.int .i64 1] W fun e w'=>e=.returned (.int .i32 91)∧av w' C A n c L j∧bF W C w' by have:=Oq.out W j h;rwa [hb]at this);clear hd hb;go_enter Tryz.func85,Tryz.ntmps85;go_wp2_with fail;refine H1.out.mono ?_;rintro e w5 ⟨rfl,hc,hb⟩;have uu:=qqh hc;have dG:=qqh hb;clear hb hc;go_wp2_with fail;refine(sK.out _ uu.out).mono ?_;rintro e w6 ⟨rfl,hc,hb⟩;have Ix:=qqh hc;have gT:=qqh (dG.out.trans hb);clear hb hc;go_wp2_with fail;refine(L6.out _ Ix.out).mono ?_;rintro e w7 ⟨rfl,hc,hb⟩;have KL:=qqh hc;have kR:=qqh (gT.out.trans hb);clear hb hc;go_wp2_with fail;go_ret;rw [HR.out];exact sv x x KL.out kR.out
   have L6:=qqh (fun(W:World) (h:av W C A n c L j)=>Oq.out W j h);have hq:(pk L (j+1) != 91)=true:=(by simp;exact hb);have HCN:=qqh (And.intro hd hb);generalize pk L (j+1)=r2 at hq L6;have H2:=qqh (fun(W:World) (h:av W C A n c L (j+1))=>JD.out W (j+1) h);have hcast:((j+1:Nat):Int)=(j:Int)+1:=(by omega);have hw1:IntKind.i64.wrap ((j:Int)+1)=(j:Int)+1:=wrap_small _ (by omega) (by omega);clear hd hb;cases h2:cL L (j+1)with
   | error e0=>
    obtain⟨x2,p2⟩:=e0;rw [h2]at H2;have HR:=qqh (fQ.out.symm.trans (KX jL.out HCN.out h2));clear h2;go_enter Tryz.func85,Tryz.ntmps85;go_wp2_with fail;refine H1.out.mono ?_;rintro e w5 ⟨rfl,hc,hb⟩;have uu:=qqh hc;have dG:=qqh hb;clear hb hc;go_wp2_with fail;refine(sK.out _ uu.out).mono ?_;rintro e w6 ⟨rfl,hc,hb⟩;have Ix:=qqh hc;have gT:=qqh (dG.out.trans hb);clear hb hc;go_wp2_with fail;refine(L6.out _ Ix.out).mono ?_;rintro e w7 ⟨rfl,hc,hb⟩;have KL:=qqh hc;have kR:=qqh (gT.out.trans hb);clear hb hc;obtain⟨d1,d2,d3,d4⟩:=KL.out.step Ed;have SX:=qqh d3;have qM:=qqh (kR.out.trans d4);clear d3 d4;go_wp2_with fail;refine(H2.out _ SX.out).mono ?_;rintro e w9 ⟨he,hb⟩;unfold aS at he;subst he;have eF:=qqh (qM.out.trans hb);clear hb;go_wp2_with fail;rw [HR.out];exact⟨rfl,rfl,eF.out⟩
   | ok q=>
    obtain⟨y,k⟩:=q;rw [h2]at H2;have ox:=qqh h2;obtain⟨_,hy0,hy1⟩:=nZ Q7.out h2;clear h2;go_enter Tryz.func85,Tryz.ntmps85;go_wp2_with fail;refine H1.out.mono ?_;rintro e w5 ⟨rfl,hc,hb⟩;have uu:=qqh hc;have dG:=qqh hb;clear hb hc;go_wp2_with fail;refine(sK.out _ uu.out).mono ?_;rintro e w6 ⟨rfl,hc,hb⟩;have Ix:=qqh hc;have gT:=qqh (dG.out.trans hb);clear hb hc;go_wp2_with fail;refine(L6.out _ Ix.out).mono ?_;rintro e w7 ⟨rfl,hc,hb⟩;have KL:=qqh hc;have kR:=qqh (gT.out.trans hb);clear hb hc;obtain⟨d1,d2,d3,d4⟩:=KL.out.step Ed;have SX:=qqh d3;have qM:=qqh (kR.out.trans d4);clear d3 d4;go_wp2_with fail;refine(H2.out _ SX.out).mono ?_;rintro e w9 ⟨rfl,hc,hb⟩;have HC9:=qqh hc;have eF:=qqh (qM.out.trans hb);clear hb hc;by_cases hlt:y<x
    ·have HR:=qqh (fQ.out.symm.trans (Lf jL.out HCN.out ox.out hlt));have HF:=qqh (fun(W:World)=>bT 3 ((j:Int)+1) W);go_wp2_with fail;refine(HF.out _).mono ?_;rintro e Ro ⟨rfl,rfl⟩;go_wp2_with fail;rw [HR.out];exact⟨rfl,by rw [aS,hcast],eF.out⟩
    have HR:=qqh (fQ.out.symm.trans (IF jL.out HCN.out ox.out hlt));go_wp2_with fail;go_ret;rw [HR.out];exact sv x y HC9.out eF.out
  have HR:=qqh (fQ.out.symm.trans (zx jL.out (fun h=>hd h.1)));have hq:(pk L j == 45)=false:=(by simp;exact hd);go_enter Tryz.func85,Tryz.ntmps85;go_wp2_with fail;refine H1.out.mono ?_;rintro e w5 ⟨rfl,hc,hb⟩;have uu:=qqh hc;have dG:=qqh hb;clear hb hc;go_wp2_with fail;refine(ie.out _ _ uu.out).mono ?_;rintro e w6 ⟨rfl,hc,hb⟩;have Ix:=qqh hc;have gT:=qqh (dG.out.trans hb);clear hb hc;go_wp2_with fail;go_ret;rw [HR.out];exact sv x x Ix.out gT.out
theorem FM {L:List Int} {f j:Nat} (h:pk L (aN L j)≠35):eO L (f+1) j=aN L j:=by rw [eO,if_neg h]
theorem Kr {L:List Int} {f j:Nat} (h:pk L (aN L j)=35):eO L (f+1) j=eO L f (az qv L (aN L j)):=by rw [eO,if_pos h]
theorem zl (r:Int) (w:World) :
    Calls Tryz.prog 109 #[.int .i32 r] w fun e w'=>e=.returned (.bool (j7 r))∧w'=w:=by
 go_enter Tryz.func109,Tryz.ntmps109;go_wp2;(all_goals go_ret);(all_goals refine⟨bH ?_,rfl⟩);(all_goals (rw [Bool.eq_iff_iff];simp [j7];try omega))
theorem ju (w:World) (C:Nat) (A:Option Addr) (n c:Nat) (L:List Int) (i:Nat) (h:av w C A n c L i) :
    Calls Tryz.prog 30 #[.pointer (some ⟨C,0,none⟩)] w fun e w'=>e=.returned (.tuple #[])∧av w' C A n c L (ax L i)∧bF w C w':=by
 have hs:=h.size;have hl:=h.len;have HC:=qqh h;clear h;go_enter Tryz.func30,Tryz.ntmps30;go_wp2_with fail;go_loopw [2] (fun _ wr=>∃ f j:Nat,j≤n∧n+1≤f+j∧ax L i=eO L f j∧av wr C A n c L j∧bF w C wr) (fun _ wr=>n - (match wr.cell? ⟨C,1,none⟩with | some (.int _ j)=>j.toNat | _=>0));(case atStart=>exact⟨L.length+1,i,HC.out.le,by omega,rfl,HC.out,bF.refl _ _⟩);obtain⟨f0,j,hj,hf,hsp,hc,hb⟩:=hrel;obtain⟨f,rfl⟩:∃ f,f0=f+1:=⟨f0 - 1,by omega⟩;have HJ:=qqh hc;have HB:=qqh hb;have qD:=qqh hsp;have mC:=qqh (hc.blk.cell 1);obtain⟨k,hk⟩:∃ k,aN L j=k:=⟨_,rfl⟩;have HK:=qqh hk;have hjk:j≤k:=(by rw [← hk];exact ee L j);have ie:=qqh (fun(W:World) (m:Nat) (h:av W C A n c L m)=>cG W C A n c L m h);clear hc hb hsp;go_wp2_with fail;refine(iQ wr C A n c L j HJ.out).mono ?_;rintro e w1 ⟨rfl,hc1,aT⟩;rw [hk]at hc1;have jL:=qqh hc1;have bJ:=qqh (HB.out.trans aT);clear hc1 aT hk;go_wp2_with fail;refine(ie.out _ k jL.out).mono ?_;rintro e w2 ⟨rfl,hc2,aX⟩;have ox:=qqh hc2;have bL:=qqh (bJ.out.trans aX);clear hc2 aX;by_cases rW:pk L k=35
 ·have hlt:k<L.length:=bl (by omega);have pT:=qqh (show ax L i=eO L f (az qv L k) by rw [qD.out,Kr (by rw [HK.out];exact rW),HK.out]);have Ra:=qqh (show k+1≤az qv L k by rw [dL hlt (by rw [rW];rfl)];exact eK _ _ _);have HLE:=qqh (show az qv L k≤n by rw [← hl];exact(iq (Nat.le_of_lt hlt)).2);obtain⟨m0,hm0⟩:∃ m0,az qv L k=m0:=⟨_,rfl⟩;rw [hm0]at pT Ra HLE;have HM:=qqh hm0;rw [rW];clear hm0 rW;go_wp2_with fail;go_loopw [11] (fun _ wy=>∃ m:Nat,k≤m∧m≤n∧m0=az qv L m∧av wy C A n c L m∧bF w C wy) (fun _ wy=>n - (match wy.cell? ⟨C,1,none⟩with | some (.int _ j)=>j.toNat | _=>0));(case atStart=>exact⟨k,qql,by omega,HM.out.symm,ox.out,bL.out⟩);obtain⟨m,hkm,hmn,hrun,X9,Q6⟩:=hrel;have Q3:=qqh X9;have HBM:=qqh Q6;have ZU:=qqh hrun;have Tf:=qqh (X9.blk.cell 1);clear X9 Q6 hrun;cases hrem:qv (pk L m)with
  | true=>
   have ZD:m<L.length:=bl (fun e=>by rw [e]at hrem;exact absurd hrem (by decide));have KV:=qqh (ZU.out.trans (dL ZD hrem));have h0:0≤pk L m∧pk L m≠10:=(by simpa [qv] using hrem);have hg0:decide ((0:Int)≤pk L m)=true:=decide_eq_true h0.1;have hg1:(pk L m != 10)=true:=(by simp;exact h0.2);have hwm:IntKind.i64.wrap ((m:Int)+1)=(m:Int)+1:=wrap_small _ (by omega) (by omega);clear hrem h0;go_wp2_with fail;refine(ie.out _ m Q3.out).mono ?_;rintro e w3 ⟨rfl,lA,bP⟩;have qE:=qqh lA;have bM:=qqh (HBM.out.trans bP);clear lA bP;go_wp2_with fail;refine(ie.out _ m qE.out).mono ?_;rintro e w4 ⟨rfl,lW,hb4⟩;have Dr:=qqh lW;have dS:=qqh (bM.out.trans hb4);clear lW hb4;obtain⟨d1,d2,d3,d4⟩:=Dr.out.step (by omega);have uC:=qqh d3;have dG:=qqh (dS.out.trans d4);clear d3 d4;go_wp2_with fail;refine⟨⟨m+1,by omega,by omega,KV.out,uC.out,dG.out⟩,?_⟩;have e1:(w4.setCell ⟨C,1,none⟩ (.int .i64 ((m:Int)+1))).cell? ⟨C,1,none⟩=some (.int .i64 ((m+1:Nat):Int)):=uC.out.blk.cell 1;have e2:wr.cell? ⟨C,1,none⟩=some (.int .i64 (m:Int)):=Tf.out;rw [e1,e2];simp only [Int.toNat_natCast];omega
  | false=>
   obtain rfl:m0=m:=ZU.out.trans (cF (fun _=>hrem));have hor:pk L m0<0∨(0≤pk L m0∧pk L m0=10):=by
    simp [qv]at hrem;by_cases h:pk L m0<0;exact .inl h;exact .inr ⟨by omega,hrem (by omega)⟩
   have hge:=Ra.out;clear hrem ZU;rcases hor with h0 | ⟨_,h0⟩
   ·go_wp2_with fail;refine(ie.out _ m0 Q3.out).mono ?_;rintro e w3 ⟨rfl,lA,bP⟩;have qE:=qqh lA;have bM:=qqh (HBM.out.trans bP);clear lA bP;go_wp2_with fail;refine⟨⟨f,m0,hmn,by omega,pT.out,qE.out,bM.out⟩,?_⟩;rw [qE.out.blk.cell 1,mC.out];simp only [Int.toNat_natCast,List.getElem?_toArray,List.getElem?_cons_succ,List.getElem?_cons_zero];omega
   go_wp2_with fail;refine(cG _ C A n c L m0 Q3.out).mono ?_;rintro e w3 ⟨rfl,lA,bP⟩;rw [h0];have qE:=qqh lA;have bM:=qqh (HBM.out.trans bP);clear lA bP;go_wp2_with fail;refine(cG _ C A n c L m0 qE.out).mono ?_;rintro e w4 ⟨rfl,lW,hb4⟩;rw [h0];have Dr:=qqh lW;have dS:=qqh (bM.out.trans hb4);clear lW hb4;go_wp2_with fail;refine⟨⟨f,m0,hmn,by omega,pT.out,Dr.out,dS.out⟩,?_⟩;rw [Dr.out.blk.cell 1,mC.out];simp only [Int.toNat_natCast,List.getElem?_toArray,List.getElem?_cons_succ,List.getElem?_cons_zero];omega
 have sC:=qqh (show ax L i=k by rw [qD.out,FM (by rw [HK.out];exact rW),HK.out]);have hq:(pk L k != 35)=true:=(by simp;exact rW);clear rW;go_wp2_with fail;(try simp only [Exit.inBlock,Exit.then]);refine bodyPost_ret (results_none rfl _ _ _) rfl ?_;rw [sC.out];exact⟨rfl,ox.out,bL.out⟩
def Ls {α:Type} (V:α→Value) (w:World) (C:Nat) (A:Option Addr) (n c:Nat) (L:List Int) (r:jY α) (e:Ending) (w':World):Prop :=
  match r with
  | .ok (d,j)=>e=.returned (V d)∧av w' C A n c L j∧bF w C w'
  | .error (x,p)=>e=aS x p∧bF w C w'
theorem Me (w:World) (C:Nat) (A:Option Addr) (n c:Nat) (L:List Int) (i:Nat) (h:av w C A n c L i) :
    Calls Tryz.prog 59 #[.pointer (some ⟨C,0,none⟩)] w (Ls (Value.int .i64) w C A n c L (eJ L i)):=by
 have hs:=h.size;have hl:=h.len;have hle:=h.le;have HC:=qqh h;have ie:=qqh (fun(W:World) (m:Nat) (h:av W C A n c L m)=>cG W C A n c L m h);have Oq:=qqh (fun(W:World) (h:av W C A n c L i)=>lY W C A n c L i 1 h (by decide));have hw1:IntKind.i64.wrap ((i:Int)+1)=(i:Int)+1:=wrap_small _ (by omega) (by omega);have CS:IntKind.i64.wrap ((i:Int)+2)=(i:Int)+2:=wrap_small _ (by omega) (by omega);clear h;obtain⟨R,hR⟩:∃ R,eJ L i=R:=⟨_,rfl⟩;rw [hR];have fQ:=qqh hR;clear hR;by_cases JW:pk L i=62
 ·have iE:=qqh (show R=.ok (1,i+1) by rw [← fQ.out];unfold eJ;rw [if_pos JW]);have hlt:i<L.length:=bl (by omega);go_enter Tryz.func59,Tryz.ntmps59;go_wp2_with fail;refine(ie.out _ i HC.out).mono ?_;rintro e w1 ⟨rfl,hc1,aT⟩;rw [JW];have jL:=qqh hc1;have bJ:=qqh aT;clear hc1 aT JW;obtain⟨d1,d2,d3,d4⟩:=jL.out.step (by omega);have uC:=qqh d3;have dG:=qqh (bJ.out.trans d4);clear d3 d4;go_wp2_with fail;go_ret;rw [iE.out];exact⟨rfl,uC.out,dG.out⟩
 have q62:(pk L i == 62)=false:=(by rw [beq_eq_false_iff_ne];exact JW);by_cases zE:pk L i=60
 ·have hlt:i<L.length:=bl (by omega);by_cases h2:pk L (i+1)=62
  ·have iE:=qqh (show R=.ok (3,i+2) by rw [← fQ.out];unfold eJ;rw [if_neg JW,if_pos ⟨zE,h2⟩]);have hlt2:i+1<L.length:=bl (by omega);go_enter Tryz.func59,Tryz.ntmps59;go_wp2_with fail;refine(ie.out _ i HC.out).mono ?_;rintro e w1 ⟨rfl,hc1,aT⟩;have jL:=qqh hc1;have bJ:=qqh aT;clear hc1 aT;go_wp2_with fail;refine(ie.out _ i jL.out).mono ?_;rintro e w2 ⟨rfl,hc2,aX⟩;rw [zE];have ox:=qqh hc2;have bL:=qqh (bJ.out.trans aX);clear hc2 aX;go_wp2_with fail;refine(Oq.out _ ox.out).mono ?_;rintro e w3 ⟨rfl,lA,bP⟩;rw [h2];have qE:=qqh lA;have bM:=qqh (bL.out.trans bP);clear lA bP;have d1:=qE.out.blk.cell 1;have d2:=qE.out.blk.frozen 1;have hm:=qE.out.move (j:=i+2) (by omega);rw [show(((i+2:Nat)):Int)=(i:Int)+2 by omega]at hm;have uC:=qqh hm;have dG:=qqh (bM.out.trans (bF.set w3 C 1 (.int .i64 ((i:Int)+2))));clear hm;go_wp2_with fail;go_ret;rw [iE.out];exact⟨rfl,uC.out,dG.out⟩
  have q2:(pk L (i+1) == 62)=false:=(by rw [beq_eq_false_iff_ne];exact h2);have iE:=qqh (show R=.ok (2,i+1) by rw [← fQ.out];unfold eJ;rw [if_neg JW,if_neg (fun h=>h2 h.2)];unfold aQ;rw [if_pos zE]);have Ja:=qqh (fun(W:World) (h:av W C A n c L i)=>show Calls Tryz.prog 33 #[.pointer (some ⟨C,0,none⟩),.int .i32 60] W fun e w'=>e=.returned (.tuple #[])∧av w' C A n c L (i+1)∧bF W C w' by have:=fc W C A n c L i 60 h (by decide);rwa [show aQ L i 60=.ok (i+1) by unfold aQ;rw [if_pos zE]]at this);go_enter Tryz.func59,Tryz.ntmps59;go_wp2_with fail;refine(ie.out _ i HC.out).mono ?_;rintro e w1 ⟨rfl,hc1,aT⟩;have jL:=qqh hc1;have bJ:=qqh aT;clear hc1 aT;go_wp2_with fail;refine(ie.out _ i jL.out).mono ?_;rintro e w2 ⟨rfl,hc2,aX⟩;rw [zE];have ox:=qqh hc2;have bL:=qqh (bJ.out.trans aX);clear hc2 aX;go_wp2_with fail;refine(Oq.out _ ox.out).mono ?_;rintro e w3 ⟨rfl,lA,bP⟩;have qE:=qqh lA;have bM:=qqh (bL.out.trans bP);clear lA bP;go_wp2_with fail;refine(Ja.out _ qE.out).mono ?_;rintro e w4 ⟨rfl,lW,hb4⟩;have Dr:=qqh lW;have dS:=qqh (bM.out.trans hb4);clear lW hb4;go_wp2_with fail;go_ret;rw [iE.out];exact⟨rfl,Dr.out,dS.out⟩
 have q60:(pk L i == 60)=false:=(by rw [beq_eq_false_iff_ne];exact zE);have iE:=qqh (show R=.error (2,i) by rw [← fQ.out];unfold eJ;rw [if_neg JW,if_neg (fun h=>zE h.1)];unfold aQ;rw [if_neg zE]);have Ja:=qqh (fun(W:World) (h:av W C A n c L i)=>show Calls Tryz.prog 33 #[.pointer (some ⟨C,0,none⟩),.int .i32 60] W fun e w'=>e=aS 2 i∧bF W C w' by have:=fc W C A n c L i 60 h (by decide);rwa [show aQ L i 60=.error (2,i) by unfold aQ;rw [if_neg zE]]at this);go_enter Tryz.func59,Tryz.ntmps59;go_wp2_with fail;refine(ie.out _ i HC.out).mono ?_;rintro e w1 ⟨rfl,hc1,aT⟩;have jL:=qqh hc1;have bJ:=qqh aT;clear hc1 aT;go_wp2_with fail;refine(ie.out _ i jL.out).mono ?_;rintro e w2 ⟨rfl,hc2,aX⟩;have ox:=qqh hc2;have bL:=qqh (bJ.out.trans aX);clear hc2 aX;go_wp2_with fail;refine(Ja.out _ ox.out).mono ?_;rintro e w4 ⟨he,hb4⟩;unfold aS at he;subst he;have dS:=qqh (bL.out.trans hb4);clear hb4;go_wp2_with fail;rw [iE.out];exact⟨rfl,rfl,dS.out⟩
def Sp (r:Int):Bool:=j7 r || zY r
theorem EA {L:List Int} {i:Nat} (h:j7 (pk L i)=false):aV L i=i:=by unfold aV;rw [h];rfl
theorem DV {L:List Int} {i:Nat} (h:j7 (pk L i)=true):aV L i=az Sp L (i+1):=by
 have hlt:i<L.length:=bl (fun e=>by rw [e]at h;exact absurd h (by decide));unfold aV;rw [if_pos h];exact dL (p:=Sp) hlt (by unfold Sp;rw [h];rfl)
def Ji (L:List Int) (i j:Nat):Prop:=j=i∨(i<j∧aV L i=az Sp L j)
theorem Ji.next {L:List Int} {i j:Nat} (h:Ji L i j) (hj:j7 (pk L j)=true∨(i<j∧zY (pk L j)=true)):Ji L i (j+1):=by
 have hl:Sp (pk L j)=true:=by
  unfold Sp;rcases hj with h | h
  ·rw [h];rfl
  rw [h.2,Bool.or_true]
 have hlt:j<L.length:=bl (fun e=>by rw [e]at hl;exact absurd hl (by decide));rcases h with rfl | ⟨h1,h2⟩
 ·rcases hj with h | h;exact .inr ⟨by omega,DV h⟩;omega
 exact .inr ⟨by omega,h2.trans (dL hlt hl)⟩
theorem Ji.done {L:List Int} {i j:Nat} (h:Ji L i j) (h1:j7 (pk L j)=false) (h2:i<j→zY (pk L j)=false):aV L i=j:=by
 rcases h with rfl | ⟨h3,h4⟩;exact EA h1;rw [h4];exact cF (fun _=>by unfold Sp;rw [h1,h2 h3];rfl)
theorem qQ (w:World) (C:Nat) (A:Option Addr) (n c:Nat) (L:List Int) (i:Nat) (h:av w C A n c L i) (h0:0<n) :
    Calls Tryz.prog 53 #[.pointer (some ⟨C,0,none⟩)] w fun e w'=>e=.returned (.string (gW L i))∧av w' C A n c L (aV L i)∧bF w C w':=by
 have hs:=h.size;have hl:=h.len;have hi:=h.le;obtain⟨b,off,rfl,_,_⟩:=h.at h0;have HC:=qqh h;have ie:=qqh (fun(W:World) (m:Nat) (h:av W C (some ⟨b,off,none⟩) n c L m)=>cG W C (some ⟨b,off,none⟩) n c L m h);have c1:=h.blk.cell 1;clear h;go_enter Tryz.func53,Tryz.ntmps53;go_upto_block 0 with (go_at_call 31;refine(ie.out _ i HC.out).mono ?_;rintro e w1 ⟨rfl,hc1,aT⟩);have jL:=qqh hc1;have bJ:=qqh aT;clear hc1 aT c1;go_cut [3] (fun v wx=>v=.int .i64 (i:Int)∧av wx C (some ⟨b,off,none⟩) n c L (aV L i)∧bF w C wx);case first=>
  go_wp2_with fail;go_loopw [4] (fun v wr=>∃ j:Nat,i≤j∧j≤n∧v=.int .i32 (pk L j)∧Ji L i j∧av wr C (some ⟨b,off,none⟩) n c L j∧bF w C wr) (fun _ wr=>n - (match wr.cell? ⟨C,1,none⟩with | some (.int _ j)=>j.toNat | _=>0));(case atStart=>exact⟨i,qql,hi,rfl,.inl rfl,jL.out,bJ.out⟩);obtain⟨j,hij,hjn,rfl,WR,tO,AD⟩:=hrel;have HJ:=qqh tO;have HB:=qqh AD;have RC:=qqh WR;have mC:=qqh (tO.blk.cell 1);have k1:=tO.blk.cell 1;clear tO AD WR;have Cy:=qqh (fun h1 h2=>RC.out.done h1 h2);have GV:=qqh (fun hj=>RC.out.next hj);have xF:=qqh (fun(W:World) (h:av W C (some ⟨b,off,none⟩) n c L (j+1))=>ie.out W (j+1) h);obtain⟨x,hx⟩:∃ x,pk L j=x:=⟨_,rfl⟩;have hjl:0≤x→j<n:=fun h=>(by rw [← hl];exact bl (by rw [hx];omega));rw [hx]at Cy GV;rw [hx];have hwj:IntKind.i64.wrap ((j:Int)+1)=(j:Int)+1:=wrap_small _ (by omega) (by omega);clear hx;have VI:(j7 x=true∧((97≤x∧x≤122)∨x=95))∨(j7 x=false∧i<j∧zY x=true∧48≤x∧x≤57)∨(j7 x=false∧(i<j→zY x=false)∧(x<48∨(48≤x∧x≤57∧j=i)∨(57<x∧x<95)∨x=96∨122<x)):=by
   by_cases h1:j7 x=true;exact .inl ⟨h1,by simpa [j7] using h1⟩;rw [Bool.not_eq_true]at h1;have h2:¬((97≤x∧x≤122)∨x=95):=(by simpa [j7] using h1);right;by_cases h3:i<j∧zY x=true;exact .inl ⟨h1,h3.1,h3.2,by simpa [zY] using h3.2⟩;right;refine⟨h1,fun h4=>by rw [Bool.eq_false_iff];exact fun h5=>h3 ⟨h4,h5⟩,?_⟩;by_cases h4:48≤x∧x≤57
   ·have:¬ i<j:=fun h5=>h3 ⟨h5,by simp [zY,h4]⟩;omega
   omega
  rcases VI with ⟨h1,hr⟩ | ⟨h1,hlt,h2,hr⟩ | ⟨h1,h2,hr⟩
  ·have HN:=qqh (GV.out (.inl h1));have O7:j<n:=hjl (by omega);obtain⟨d1,d2,d3,d4⟩:=HJ.out.step O7;have uC:=qqh d3;have dG:=qqh (HB.out.trans d4);clear d3 d4;rcases hr with ⟨r1,r2⟩ | r1
   all_goals
     go_wp2_with fail
     refine(xF.out _ uC.out).mono ?_
     rintro e w5 ⟨rfl,lQ,dN⟩
     have uu:=qqh lQ
     have gT:=qqh (dG.out.trans dN)
     clear lQ dN
     go_wp2_with fail
     refine⟨⟨j+1,by omega,by omega,rfl,HN.out,uu.out,gT.out⟩,?_⟩
     have e1:w5.cell? ⟨C,1,none⟩=some (.int .i64 ((j+1:Nat):Int)):=uu.out.blk.cell 1
     have e2:wr.cell? ⟨C,1,none⟩=some (.int .i64 (j:Int)):=mC.out
     rw [e1,e2]
     simp only [Int.toNat_natCast]
     omega
  ·have HN:=qqh (GV.out (.inr ⟨hlt,h2⟩));have O7:j<n:=hjl (by omega);obtain⟨d1,d2,d3,d4⟩:=HJ.out.step O7;have uC:=qqh d3;have dG:=qqh (HB.out.trans d4);have hgt:decide ((i:Int)<(j:Int))=true:=decide_eq_true (by omega);clear d3 d4;obtain⟨r1,r2⟩:=hr;go_wp2_with fail;refine(xF.out _ uC.out).mono ?_;rintro e w5 ⟨rfl,lQ,dN⟩;have uu:=qqh lQ;have gT:=qqh (dG.out.trans dN);clear lQ dN;go_wp2_with fail;refine⟨⟨j+1,by omega,by omega,rfl,HN.out,uu.out,gT.out⟩,?_⟩;have e1:w5.cell? ⟨C,1,none⟩=some (.int .i64 ((j+1:Nat):Int)):=uu.out.blk.cell 1;have e2:wr.cell? ⟨C,1,none⟩=some (.int .i64 (j:Int)):=mC.out;rw [e1,e2];simp only [Int.toNat_natCast];omega
  have HE:=qqh (Cy.out h1 h2);clear Cy GV RC h1 h2;rcases hr with r1 | ⟨r1,r2,r3⟩ | ⟨r1,r2⟩ | r1 | r1
  all_goals
    have q95:(x == 95)=false:=by rw [beq_eq_false_iff_ne];omega
    by_cases hgt:(i:Int)<(j:Int)
    all_goals first
    | (exfalso;omega)
    | (go_wp2_with fail
       go_meet
       rw [HE.out]
       exact⟨rfl,HJ.out,HB.out⟩)
 obtain⟨rfl,xU,hbc⟩:=hcut;have HT:=qqh (show gW L i=runesBytes (aM L i (aV L i)) from rfl);have hir:i≤aV L i:=by
  unfold aV;split;exact eK _ _ _;exact qql
 obtain⟨r,hr⟩:∃ r,aV L i=r:=⟨_,rfl⟩;rw [hr]at xU HT hir;have lH:=qqh hr;clear hr;have HCC:=qqh xU;have T':=qqh hbc;have hrn:=xU.le;have d0:=xU.blk.cell 0;have d1:=xU.blk.cell 1;have sZ:=vv (xU.drewN 1) hir hrn;have hk1:(i:Int)≤(r:Int):=(by omega);have hk2:(r:Int)≤(c:Int):=(by have:=xU.cap;omega);have QM:(0:Int)≤(i:Int):=(by omega);clear xU hbc jL bJ HC;generalize runesBytes (aM L i r)=T at *;go_upto_region 6 with fail;refine ay (S:=(fun w'=>w'.cell? ⟨C,0,none⟩=some (.slice (some ⟨b,off,none⟩) n c)∧w'.cell? ⟨C,1,none⟩=some (.int .i64 r)∧(convert 24 9 (.slice (if c=i then some ⟨b,off,none⟩else some ⟨b,off+i,none⟩) (r - i) (c - i))).run Tryz.prog w'=.ok (.string T) w')) [4,10,12] (by kernel_rfl) ⟨d0,d1,sZ⟩ (fun aU=>?_);refine tq 0 54 ?_;(try simp only [zp,za,z0,zs]);refine tq 1 55 ?_;(try simp only [zp,za,z0,zs]);refine tq 2 56 ?_;(try simp only [zp,za,z0,zs]);refine tq 3 57 ?_;(try simp only [zp,za,z0,zs]);refine tu 4 58 ?_;(try simp only [zp,za,z0,zs]);refine tq 5 59 ?_;(try simp only [zp,za,z0,zs]);refine tq 6 60 ?_;(try simp only [zp,za,z0,zs]);refine tq 7 61 ?_;(try simp only [zp,za,z0,zs]);refine tq 8 62 ?_;(try simp only [zp,za,z0,zs]);refine tq 9 63 ?_;(try simp only [zp,za,z0,zs]);refine tu 10 64 ?_;(try simp only [zp,za,z0,zs]);refine tq 11 65 ?_;(try simp only [zp,za,z0,zs]);refine tu 12 66 ?_;(try simp only [zp,za,z0,zs]);refine tq 13 2 ?_;(try simp only [zp,za,z0,zs]);refine aK (by kernel_rfl) ?_ _;generalize (if c=i then some ({ block:=b,off:=off }:Addr)else some { block:=b,off:=off+i })=Z;go_simp;go_wp2_with fail;go_ret;rw [HT.out,lH.out];exact⟨rfl,HCC.out.drewN 1,T'.out.trans (bF.drewN wc C 1)⟩
theorem GM (w:World) (C:Nat) (A:Option Addr) (n c:Nat) (L:List Int) (i:Nat) (h:av w C A n c L i) (h0:0<n) :
    Calls Tryz.prog 57 #[.pointer (some ⟨C,0,none⟩)] w (Ls Value.string w C A n c L (gh L i)):=by
 have HW:=qqh (qQ w C A n c L i h h0);have c1:=h.blk.cell 1;have HN:=qqh (show gh L i=if ec (gW L i)=true then .ok (gW L i,aV L i)else .error (7,i) from rfl);obtain⟨R,hR⟩:∃ R,gh L i=R:=⟨_,rfl⟩;rw [hR];rw [hR]at HN;clear h hR;generalize gW L i=T at *;generalize aV L i=r at *;have FI:=qqh (fun(W:World)=>ji T W);cases hnm:ec T with
 | true=>
  rw [hnm]at HN FI;go_enter Tryz.func57,Tryz.ntmps57;go_wp2_with fail;refine HW.out.mono ?_;rintro e w1 ⟨rfl,hc1,aT⟩;have jL:=qqh hc1;have bJ:=qqh aT;clear hc1 aT;go_wp2_with fail;refine(FI.out _).mono ?_;rintro e w2 ⟨rfl,rfl⟩;go_wp2_with fail;go_ret;rw [HN.out];exact⟨rfl,jL.out,bJ.out⟩
 | false=>
  rw [hnm]at HN FI;go_enter Tryz.func57,Tryz.ntmps57;go_wp2_with fail;refine HW.out.mono ?_;rintro e w1 ⟨rfl,hc1,aT⟩;have jL:=qqh hc1;have bJ:=qqh aT;clear hc1 aT;go_wp2_with fail;refine(FI.out _).mono ?_;rintro e w2 ⟨rfl,rfl⟩;go_wp2_with fail;refine(bT 7 i _).mono ?_;rintro e w3 ⟨rfl,rfl⟩;go_wp2_with fail;rw [HN.out];exact⟨rfl,rfl,bJ.out⟩
def K4 (L:List Int) (i:Nat):Bool:=decide (pk L (ax L (aV L (i+1)))=61)
theorem tQ (w:World) (C:Nat) (A:Option Addr) (n c:Nat) (L:List Int) (i:Nat) (h:av w C A n c L i) (hi:i<n) :
    Calls Tryz.prog 56 #[.pointer (some ⟨C,0,none⟩)] w fun e w'=>e=.returned (.bool (K4 L i))∧Below w.heap.size w w':=by
 have hs:=h.size;have c0:=h.blk.cell 0;have c1:=h.blk.cell 1;have hw1:IntKind.i64.wrap ((i:Int)+1)=(i:Int)+1:=wrap_small _ (by omega) (by omega)
 have HN:=qqh (show av (w.alloc (.cells #[.slice A n c,.int .i64 ((i:Int)+1)] 79)) w.heap.size A n c L (i+1) from
   ⟨⟨_,by rw [show(((i+1:Nat)):Int)=(i:Int)+1 by omega];exact aj.new _ _ _⟩,(h.row.lift (X':=fun _=>True) (fun _ _=>trivial)).keep (ag.alloc _ (fun b _ hl=>Nat.ne_of_lt hl)),h.size,hi,h.cap⟩)
 have HB:=qqh (show Below w.heap.size w (w.alloc (.cells #[.slice A n c,.int .i64 ((i:Int)+1)] 79)) from qqb.alloc qql _);have HV:=qqh (show K4 L i=decide (pk L (ax L (aV L (i+1)))=61) from rfl);clear h;go_enter Tryz.func56,Tryz.ntmps56;go_wp2_with fail;refine(qQ _ w.heap.size A n c L (i+1) HN.out (by omega)).mono ?_;rintro e w1 ⟨rfl,hc1,aT⟩;have jL:=qqh hc1;have bJ:=qqh (HB.out.trans (aT.to HB.out.size qql));clear hc1 aT;go_wp2_with fail;refine(ju _ w.heap.size A n c L _ jL.out).mono ?_;rintro e w2 ⟨rfl,hc2,aX⟩;have ox:=qqh hc2;have bL:=qqh (bJ.out.trans (aX.to bJ.out.size qql));clear hc2 aX;go_wp2_with fail;refine(cG _ w.heap.size A n c L _ ox.out).mono ?_;rintro e w3 ⟨rfl,lA,bP⟩;have bM:=qqh (bL.out.trans (bP.to bL.out.size qql));clear lA bP;go_wp2_with fail;go_ret;rw [HV.out];exact⟨bH (by first | rfl | (rw [Bool.eq_iff_iff];simp)),bM.out⟩
end Go.Proofs.YtblinekbpcdbfaaGreatDoor
