/- SortSpan + SetFour + CurSpan + RdSpace + RdWord + RdName -/
import Derived.Test.YtkggjgeihhialaaGreatDoorShelf2
import Derived.Test.YtkggjgeihhialaaGreatDoorShelfM
import Derived.Test.YtkggjgeihhialaaGreatDoorZu11
import Derived.Test.YtkggjgeihhialaaGreatDoorZu21
import Derived.Test.YtkggjgeihhialaaGreatDoorZu14
import Derived.Test.YtkggjgeihhialaaGreatDoorZu33
import Derived.Test.YtkggjgeihhialaaGreatDoorZu13
set_option maxHeartbeats 6400000
set_option maxRecDepth 100000
namespace Go.Proofs.YtkggjgeihhialaaGreatDoor
open Go.RowKit
def mD (x:Int × Int):List Value:=[.int .i32 x.1,.int .i32 x.2]
def lC (x y:Int × Int):Int:=Lib.compareInt x.1 y.1
theorem BC (x y:Int × Int):ltOf lC x y=decide (x.1<y.1):=by
 unfold ltOf lC Lib.compareInt;by_cases h1:x.1<y.1
 ·simp [h1]
 by_cases h2:y.1<x.1 <;> simp [h1,h2]
theorem Pt:Sort.SWO (ltOf lC) where
  irrefl x:=by rw [BC];simp
  trans x y z h1 h2:=by rw [BC]at *;simp at *;omega
  ntrans x y z h1 h2:=by rw [BC]at *;simp at *;omega
theorem Eo (x:Int) (w:World):Calls Tryz.prog 146 #[.int .i32 x] w fun e w'=>e=.returned (.bool false)∧w'=w:=by
 have h:(x != x)=false:=(by simp);go_enter Tryz.func146,Tryz.ntmps146;go_wp2_with fail;go_ret;exact⟨rfl,rfl⟩
theorem MP (x y:Int) (w:World):Calls Tryz.prog 130 #[.int .i32 x,.int .i32 y] w fun e w'=>e=.returned (.int .i64 (Lib.compareInt x y))∧w'=w:=by
 unfold Lib.compareInt;by_cases h1:x<y
 ·rw [if_pos h1];go_enter Tryz.func130,Tryz.ntmps130;go_wp2_with (go_at_call 146;refine(Eo _ _).mono ?_;rintro e w' ⟨rfl,rfl⟩);go_ret;exact⟨rfl,rfl⟩
 rw [if_neg h1];by_cases h2:x > y
 ·rw [if_pos h2];go_enter Tryz.func130,Tryz.ntmps130;go_wp2_with (go_at_call 146;refine(Eo _ _).mono ?_;rintro e w' ⟨rfl,rfl⟩);go_ret;exact⟨rfl,rfl⟩
 rw [if_neg h2];go_enter Tryz.func130,Tryz.ntmps130;go_wp2_with (go_at_call 146;refine(Eo _ _).mono ?_;rintro e w' ⟨rfl,rfl⟩);go_ret;exact⟨rfl,rfl⟩
theorem Rq (x y:Int × Int) (W:World):Calls Tryz.prog 129 #[.agg #[.int .i32 x.1,.int .i32 x.2],.agg #[.int .i32 y.1,.int .i32 y.2]] W fun e w'=>e=.returned (.int .i64 (lC x y))∧∃ q os',w'=Sort.grow (W.drewN q) os':=by
 have Ml:=fun W'=>MP x.1 y.1 W';unfold lC;generalize Lib.compareInt x.1 y.1=r at Ml ⊢;go_enter Tryz.func129,Tryz.ntmps129;go_wp2_with (go_at_call 130;refine(Ml _).mono ?_;rintro e w' ⟨rfl,rfl⟩);go_ret;exact⟨rfl,0,_,by rw [Sort.alloc_eq_grow,Sort.alloc_eq_grow,Sort.grow_grow];rfl⟩
theorem Pf (blk off size:Nat) (w:World):CmpLays Tryz.prog 129 #[] mD 2 lC blk off size w:=fun _ _ _ _ x y=>Rq x y _
theorem nJ (l:af) (t:Nat) (h:t<l.length*2):(an l)[t]? = some ((mD (l.toArray[t / 2]!))[t % 2]!):=by
 have hk:t / 2<l.length:=(by omega);obtain⟨⟨x,y⟩,hx⟩:∃ z,l[t / 2]? = some z:=⟨_,List.getElem?_eq_getElem hk⟩;obtain⟨c0,c1⟩:=jX l (t / 2) x y hx;have hg:l.toArray[t / 2]! =(x,y):=by
  rw [getElem!_pos l.toArray (t / 2) (by simpa using hk)];simp only [List.getElem_toArray];exact(List.getElem?_eq_some_iff.1 hx).2
 rw [hg];rcases Nat.mod_two_eq_zero_or_one t with h0 | h0
 ·rw [h0];have e:t=t / 2*2:=(by omega);rw [← e]at c0;exact c0
 rw [h0];have e:t=t / 2*2+1:=(by omega);rw [← e]at c1;exact c1
theorem zT {l:af} {n:Nat} {d':Array (Int × Int)} (hn:l.length=n) (hp:Sort.PermIn 0 n l.toArray d') (hs:Sort.SortedIn (ltOf lC) 0 n d') :
    d'.size=n∧l.Perm d'.toList∧d'.toList.Pairwise (fun a b=>a.1≤b.1):=by
 obtain⟨h1,_,h3⟩:=hp;have hsz:d'.size=n:=(by rw [h1];simpa using hn);have e1:(d'.extract 0 n).toList=d'.toList:=(by rw [← hsz];simp);have e2:(l.toArray.extract 0 n).toList=l:=(by rw [← hn];simp);rw [e1,e2]at h3;refine⟨hsz,h3.symm,List.pairwise_iff_getElem.2 fun i j hi hj hij=>?_⟩;have hi':i<d'.size:=(by simpa using hi);have hj':j<d'.size:=(by simpa using hj);have:=hs i j (Nat.zero_le _) hij (by omega);rw [BC,getElem!_pos d' i hi',getElem!_pos d' j hj',decide_eq_false_iff_not]at this;simp only [Array.getElem_toList];omega
theorem oS (w:World) (g m:Nat) (dk:Array (Int × Int)) (os:Array Obj):bN w g (sortWorldK mD 2 w g 0 m dk os):=by
 unfold sortWorldK Sort.putRowK Sort.putRow Sort.mapBlock Sort.grow Sort.ahead;refine⟨by simp,rfl,rfl,rfl,fun k hk hne=>?_⟩;simp only;rw [Array.getElem?_append_left (by simpa using hk),Array.getElem?_modify,if_neg (Ne.symm hne)]
theorem FD (g n c base:Nat) (l:af) (w:World) (hn:n≤100000) (hl:l.length=n) (ho:w.ownsRow base 82 2 (.slice (some ⟨g,0,none⟩) n c) n (an l)) :
    Calls Tryz.prog 128 #[.slice (some ⟨g,0,none⟩) n c,.func (.func 129) #[] #[]] w fun e w'=>e=.returned (.tuple #[])∧bN w g w' ∧
      ∃ l',l.Perm l'∧l'.Pairwise (fun a b=>a.1≤b.1)∧jz w' w'.heap.size (some ⟨g,0,none⟩) n l':=by
 have hg:=(aY ho rfl).2;have hH:Sort.HoldsK mD 2 w g 0 l.toArray:=by
  intro j hj;rw [Sort.size_flatK]at hj;have hj2:j<l.length*2:=(by simpa using hj);rw [Sort.get_flatK _ _ _ _ (by simpa using hj2),Nat.zero_add];refine⟨?_,ho.frozenAt _⟩;rw [ho.cellAt _ (by omega)];exact nJ l j hj2
 have hsz:l.toArray.size=n:=(by simpa using hl);have eg:∀ args w,(callFunc 129 args).run Tryz.prog w=.ok (.enter 129 args) w:=enters_of Tryz.func129 (by kernel_rfl) rfl;have Ml:=AnyQ.slices_SortFunc Tryz.sortSpan 2 Tryz.isAgg82 Tryz.sizeOf82 mD (fun _=>rfl) (fun x v hv=>by simp [mD]at hv;rcases hv with rfl | rfl <;> rfl) lC Pt 129 #[] g 0 c l.toArray w eg (Pf g 0 _ w) hH hg (by rw [hsz];omega);rw [hsz]at Ml;refine Calls.mono Ml ?_;rintro e w' ⟨rfl,d',m,os,hp,hs,rfl⟩;obtain⟨h1,h2,h3⟩:=zT hl hp hs;refine⟨rfl,oS _ _ _ _ _,d'.toList,h2,h3,⟨by rw [bB];simp [h1],fun h0=>⟨g,0,rfl,Nat.lt_of_lt_of_le hg (oS w g m d' os).1,fun j u hu=>?_⟩⟩⟩;have hj:j<d'.toList.length*2:=(by have:=(List.getElem?_eq_some_iff.1 hu).1;rwa [bB]at this);rw [nJ _ j hj]at hu;have hK:=holdsK_sortWorldK_c mD 2 w g 0 l.toArray d' m os hH hg (by rw [h1,hsz]);have:=(hK j (by rw [Sort.size_flatK];simpa using hj)).1;rw [Sort.get_flatK _ _ _ _ (by simpa using hj)]at this;rw [this];simpa using hu
theorem Nr (w:World) :
    Calls Tryz.prog 128 #[.slice none 0 0,.func (.func 129) #[] #[]] w fun e w'=>e=.returned (.tuple #[])∧w'=w:=by
 have H1:=qqh (show Calls Tryz.prog 153 #[.slice none 0 0,.int .i64 0,.int .i64 0,.func (.func 129) #[] #[]] w fun e w'=>e=.returned (.tuple #[])∧w'=w by
  go_enter Tryz.func153,Tryz.ntmps153;go_wp2_with fail;go_loopw [8] (fun i wr=>i=.int .i64 1∧wr=w) (fun _ _=>0);(case atStart=>exact⟨rfl,rfl⟩);obtain⟨rfl,rfl⟩:=hrel;go_wp2_with fail;go_end0;exact⟨rfl,rfl⟩)
 have H2:=qqh (fun(x:Int)=>show Calls Tryz.prog 144 #[.slice none 0 0,.int .i64 0,.int .i64 0,.int .i64 x,.func (.func 129) #[] #[]] w fun e w'=>e=.returned (.tuple #[])∧w'=w by
  go_enter Tryz.func144,Tryz.ntmps144;go_wp2_with fail;go_loopw [1,2,3] (fun a b c wr=>a=.int .i64 0∧b=.int .i64 0∧c=.int .i64 x∧wr=w) (fun _ _ _ _=>0);(case atStart=>exact⟨rfl,rfl,rfl,rfl⟩);obtain⟨rfl,rfl,rfl,rfl⟩:=hrel;go_wp2_with fail;refine H1.out.mono ?_;rintro e w1 ⟨rfl,rfl⟩;go_wp2_with fail;(try simp only [Exit.inBlock,Exit.then]);refine bodyPost_ret (results_none rfl _ _ _) rfl ?_;exact⟨rfl,rfl⟩)
 have H3:=qqh (show Calls Tryz.prog 145 #[.int .u64 0] w fun e w'=>e=.returned (.int .i64 (Lib.bitLen 0:Nat))∧w'=w from Tryz.bits_Len 0 w (by decide) (by decide));go_enter Tryz.func128,Tryz.ntmps128;go_wp2_with (first | (go_at_call 145;refine H3.out.mono ?_;rintro e w1 ⟨rfl,rfl⟩) | (go_at_call 144;refine(H2.out _).mono ?_;rintro e w1 ⟨rfl,rfl⟩));go_end0;exact⟨rfl,rfl⟩
def bS (w:World) (r:af × Int) (e:Ending) (w':World):Prop:=∃ A' n' c',e=.returned (.tuple #[.slice A' n' c',.int .i64 r.2])∧cE w' (fun b=>w.heap.size≤b) 2 A' n' (an r.1)∧n'≤200∧n'≤c'∧Below w.heap.size w w'
theorem bS.wL {w w1:World} {A:Option Addr} {n c:Nat} {s:af} {e:Ending} {w':World} (h1:cE w1 (fun b=>w.heap.size≤b) 2 A n (an s)) (hc:n≤c) (hb:Below w.heap.size w w1)
    (he:e=.returned (if 200<n then .tuple #[.slice none 0 0,.int .i64 5]else .tuple #[.slice A n c,.int .i64 0])∧w'=w1):bS w (sy s) e w':=by
 obtain⟨rfl,rfl⟩:=he;have hl:s.length=n:=(by have:=h1.1;rw [bB]at this;omega);unfold sy;rw [hl];by_cases h:200<n
 ·rw [if_pos h,if_pos h];exact⟨none,0,0,rfl,⟨rfl,fun h=>absurd h (by omega)⟩,by omega,by omega,hb⟩
 rw [if_neg h,if_neg h];exact⟨A,n,c,rfl,h1,by omega,hc,hb⟩
theorem cE.lift {w:World} {X X':Nat→Prop} {sz n:Nat} {A:Option Addr} {xs:List Value} (h:cE w X sz A n xs) (hX:∀ b,X b→X' b):cE w X' sz A n xs:=h.keep (aa.refl hX)
def XM (w:World) (n:Nat) (i:Value) (wr:World):Prop:=∃ j:Nat,j≤n∧i=.int .i64 j∧Below w.heap.size w wr
def QO (w:World) (l:af) (e:Ending) (w':World):Prop:=∃ l',l.Perm l'∧l'.Pairwise (fun a b=>a.1≤b.1)∧bS w (sy (iD l')) e w'
theorem OA (A:Option Addr) (n c:Nat) (l:af) (w:World) (hn:n≤1000) (hr:oh l) (hl:jz w w.heap.size A n l) :
    Calls Tryz.prog 111 #[.slice A n c] w (QO w l):=by
 have aQ:=qqh hl.len;have HL:=qqh hl;have HR:=qqh hr;clear hl hr;go_enter Tryz.func111,Tryz.ntmps111;go_wp2_with fail;go_loopw [9] (XM w n) (fun i _=>n - (intOf i).toNat);(case atStart=>exact⟨0,Nat.zero_le _,rfl,Below.refl _ _⟩);obtain⟨j,hj,rfl,hb⟩:=hrel;have hz:=hb.size;by_cases hlt:j<n
 ·obtain⟨⟨x,y⟩,hx⟩:∃ z,l[j]? = some z:=⟨_,List.getElem?_eq_getElem (by rw [aQ.out];exact hlt)⟩;obtain⟨b,off,rfl,cH,c0,c1⟩:=HL.out.at hx;have d0:=(hb.cell (p:=⟨b,off+j*2,none⟩) cH).trans c0;have d1:=(hb.cell (p:=⟨b,off+j*2+1,none⟩) cH).trans c1;have hxy:=HR.out (x,y) (List.mem_of_getElem? hx);simp only at hxy;have bJ:=qqh (hb.alloc hz (.cells #[.int .i32 x,.int .i32 y] 82));have g1:decide (x<0)=false:=decide_eq_false (by omega);have g2:decide (1114111<y)=false:=decide_eq_false (by omega);have g3:decide (y<x)=false:=decide_eq_false (by omega);clear hx c0 c1 hb;go_wp2_with fail;exact⟨⟨j+1,by omega,by go_num,bJ.out⟩,by simp [intOf];omega⟩
 obtain rfl:j=n:=(by omega);have uC:=qqh (BN A j c l wr (by omega) ((Rd.below HL.out hb).more hz));have HB:=qqh hb;clear hb;go_wp2_with fail;refine uC.out.mono ?_;rintro e w1 ⟨⟨v,rfl,ho⟩,aR⟩;have bJ:=qqh (HB.out.trans (aR.mono hz));have zw:=qqh (lZ ho hz);clear aR uC;have HWL:=qqh (aI ho);rcases ho.2 with ⟨rfl,hn0⟩ | ⟨g,cap,cur,rfl,hg,hh,VW⟩
 ·obtain rfl:j=0:=hn0;have CY:l = []:=List.eq_nil_of_length_eq_zero aQ.out;subst CY;clear ho HWL;go_wp2_with fail;refine(Nr _).mono ?_;rintro e w2 ⟨rfl,rfl⟩;have HM:=qqh (tO none 0 0 [] w2 (by omega) (by intro x hx;simp at hx) Rd.nil);go_wp2_with fail;refine HM.out.mono ?_;rintro e w3 ⟨A3,n3,c3,rfl,kH,Qz,lG,bL⟩;have bG:=qqh (bJ.out.trans (bL.mono bJ.out.size));have HP:=qqh (fun(e:Ending) (w':World) h=>show bS w (sy (iD [])) e w' from bS.wL (kH.lift (X':=fun b=>w.heap.size≤b) (fun _ h=>Nat.le_trans bJ.out.size h)) lG bG.out h);clear kH bL;go_wp2_with fail;refine(nK A3 n3 c3 w3).mono ?_;rintro e w4 he;obtain⟨A5,n5,c5,rfl,h5⟩:=HP.out e w4 he;have H5:=qqh h5;clear h5 he HP;go_wp2_with fail;go_ret2;exact⟨[],List.Perm.nil,List.Pairwise.nil,A5,n5,c5,rfl,H5.out⟩
 have HS:=qqh (FD g j cap w.heap.size l w1 (by omega) aQ.out zw.out);have HGW:=qqh (Nat.le_trans hz hg);clear ho HWL VW hh hg;go_wp2_with fail;refine HS.out.mono ?_;rintro e w2 ⟨rfl,mA,l',hp,Wr,hrd⟩;have bD:=qqh (bJ.out.trans (mA.to bJ.out.size HGW.out));have gJ:=qqh (show oh l' from fun x hx=>HR.out x (hp.mem_iff.2 hx));have HP:=qqh hp;have Kx:=qqh Wr;have HM:=qqh (tO (some ⟨g,0,none⟩) j cap l' w2 (by omega) gJ.out hrd);clear mA hp Wr hrd HS;go_wp2_with fail;refine HM.out.mono ?_;rintro e w3 ⟨A3,n3,c3,rfl,kH,Qz,lG,bL⟩;have bG:=qqh (bD.out.trans (bL.mono bD.out.size));have HT:=qqh (fun(e:Ending) (w':World) h=>show bS w (sy (iD l')) e w' from bS.wL (kH.lift (X':=fun b=>w.heap.size≤b) (fun _ h=>Nat.le_trans bD.out.size h)) lG bG.out h);clear kH bL;go_wp2_with fail;refine(nK A3 n3 c3 w3).mono ?_;rintro e w4 he;obtain⟨A5,n5,c5,rfl,h5⟩:=HT.out e w4 he;have H5:=qqh h5;clear h5 he HT;go_wp2_with fail;go_ret2;exact⟨l',HP.out,Kx.out,A5,n5,c5,rfl,H5.out⟩
structure bU (w:World) (A:Option Addr) (n c:Nat) (s:af):Prop where
  right:aF s
  rd:jz w w.heap.size A n s
  cap:n≤c
theorem bU.below {w w':World} {A:Option Addr} {n c:Nat} {s:af} (h:bU w A n c s) (hb:Below w.heap.size w w'):bU w' A n c s:=⟨h.right,(Rd.below h.rd hb).more hb.size,h.cap⟩
theorem bU.le {w:World} {A:Option Addr} {n c:Nat} {s:af} (h:bU w A n c s):n≤200:=by have:=h.rd.len;have:=h.right.size;omega
theorem bU.RE {w:World} {A:Option Addr} {n c:Nat} {s:af} (h:bU w A n c s):mG w DF s [.slice A n c] :=
  ⟨_,rfl,⟨A,n,c,rfl,cE.Dv h.rd (Nat.le_refl _) (fun _ _=>trivial),by have:=h.le;simp only [maxLen];omega⟩,(⟨A,n,c,rfl,h.cap⟩:MB _)⟩
theorem Mg {w:World} {A:Option Addr} {n c:Nat} {s:af} (h:bU w A n c s) :
    bt (mG (w.alloc (.cells #[.slice A n c] 24)) DF) (w.alloc (.cells #[.slice A n c] 24)) DF 1 (some ⟨w.heap.size,0,none⟩) 1 [s]:=by
 have hb:=(Below.refl w.heap.size w).alloc (Nat.le_refl _) (.cells #[.slice A n c] 24);refine⟨[[.slice A n c]],rfl,rfl,?_,by simp,cE.new 24 [.slice A n c] rfl trivial⟩;intro i a cs ha hc;rcases i with _ | i
 ·simp at ha hc;subst ha hc;exact(h.below hb).RE
 simp at ha
theorem Mb {w:World} {A B:Option Addr} {n c m d:Nat} {a b:af} (ha:bU w A n c a) (hb:bU w B m d b) :
    bt (mG (w.alloc (.cells #[.slice A n c,.slice B m d] 24)) DF) (w.alloc (.cells #[.slice A n c,.slice B m d] 24)) DF 1 (some ⟨w.heap.size,0,none⟩) 2 [a,b]:=by
 have eF:=(Below.refl w.heap.size w).alloc (Nat.le_refl _) (.cells #[.slice A n c,.slice B m d] 24);refine⟨[[.slice A n c],[.slice B m d]],rfl,rfl,?_,by simp,cE.new 24 [.slice A n c,.slice B m d] rfl trivial⟩;intro i x cs hx hc;match i with
 | 0=>simp at hx hc;subst hx hc;exact(ha.below eF).RE
 | 1=>simp at hx hc;subst hx hc;exact(hb.below eF).RE
 | i+2=>simp at hx
theorem wX {w:World} {A:Option Addr} {n c:Nat} {s:af} (h:bU w A n c s) :
    Calls Tryz.prog 55 #[.slice (some ⟨w.heap.size,0,none⟩) 1 1] (w.alloc (.cells #[.slice A n c] 24)) fun e w'=>e=.returned (.int .i64 0)∧Below w.heap.size w w' :=
  (vF DF [s] _ 1 1 _ (by decide) (by simpa using h.right) (Mg h)).mono fun _ _ ⟨he,hb⟩=>⟨he,((Below.refl _ _).alloc (Nat.le_refl _) _).trans (hb.mono (by simp))⟩
theorem kF {w:World} {A B:Option Addr} {n c m d:Nat} {a b:af} (ha:bU w A n c a) (hb:bU w B m d b) :
    Calls Tryz.prog 55 #[.slice (some ⟨w.heap.size,0,none⟩) 2 2] (w.alloc (.cells #[.slice A n c,.slice B m d] 24)) fun e w'=>e=.returned (.int .i64 0)∧Below w.heap.size w w' :=
  (vF DF [a,b] _ 2 2 _ (by decide) (by simpa using ⟨ha.right,hb.right⟩) (Mb ha hb)).mono fun _ _ ⟨he,hb⟩=>⟨he,((Below.refl _ _).alloc (Nat.le_refl _) _).trans (hb.mono (by simp))⟩
theorem uu {w:World} {A B:Option Addr} {n c m d:Nat} {a b:af} (ha:bU w A n c a) (hb:bU w B m d b) :
    Calls Tryz.prog 112 #[.slice (some ⟨w.heap.size,0,none⟩) 2 2] (w.alloc (.cells #[.slice A n c,.slice B m d] 24)) fun e w'=>
      ∃ A' c' k,e=.returned (.slice A' k c')∧k≤1000∧jz w' w'.heap.size A' k (a++b)∧Below w.heap.size w w':=by
 have eF:=(Below.refl w.heap.size w).alloc (Nat.le_refl _) (.cells #[.slice A n c,.slice B m d] 24);have hf : [a,b].flatten=a++b:=(by simp)
 have h:=Bj [a,b] [.slice A n c,.slice B m d] (some ⟨w.heap.size,0,none⟩) 2 2 (w.alloc (.cells #[.slice A n c,.slice B m d] 24)) rfl
   (by have:=Rd.new w 24 1 2 [.slice A n c,.slice B m d] rfl;simpa using this)
   (by
     intro i l u hl hu
     match i with
     | 0=>simp at hl hu;subst hl hu;exact⟨A,n,c,rfl,(ha.below eF).rd⟩
     | 1=>simp at hl hu;subst hl hu;exact⟨B,m,d,rfl,(hb.below eF).rd⟩
     | i+2=>simp at hl)
   (by rw [hf,List.length_append];have:=ha.right.size;have:=hb.right.size;omega) (by decide)
 rw [hf]at h;refine h.mono ?_;rintro e w' ⟨⟨v,rfl,ho⟩,aR⟩;obtain⟨A',c',rfl,_⟩:=aI ho;exact⟨A',c',_,rfl,by rw [List.length_append];have:=ha.right.size;have:=hb.right.size;omega,Rd.cP ho,eF.trans (aR.mono (by simp))⟩
theorem ql (A B:Option Addr) (n c m d:Nat) (a b:af) (w:World) (ha:bU w A n c a) (hb:bU w B m d b) :
    Calls Tryz.prog 95 #[.slice A n c,.slice B m d] w (bS w (mz 124 a b)):=by
 have HA:=qqh ha;have HB:=qqh hb;clear ha hb;go_enter Tryz.func95,Tryz.ntmps95;go_wp2_with fail;refine(kF HA.out HB.out).mono ?_;rintro e w1 ⟨rfl,aR⟩;have oX:=qqh (HA.out.below aR);have bJ:=qqh (HB.out.below aR);have qp:=qqh aR;clear aR;go_wp2_with fail;refine(uu oX.out bJ.out).mono ?_;rintro e w2 ⟨A2,c2,k,rfl,hlen,hrd,aU⟩;have Fz:=qqh (qp.out.trans (aU.mono qp.out.size));have HO:=qqh (OA A2 k c2 (a++b) w2 hlen (fun x hx=>by
  rcases List.mem_append.1 hx with h | h;exact HA.out.right.each x h;exact HB.out.right.each x h) hrd)
 clear hrd aU;go_wp2_with fail;refine HO.out.mono ?_;rintro e w3 ⟨l',hp,Wr,A3,n3,c3,rfl,h1,h2,h3,h4⟩;rw [← LR HA.out.right HB.out.right hp Wr]at h1 ⊢;have H1:=qqh (h1.lift (X':=fun b=>w.heap.size≤b) (fun _ h=>Nat.le_trans Fz.out.size h));have H4:=qqh (Fz.out.trans (h4.mono Fz.out.size));clear h1 h4 hp Wr HO;go_wp2_with fail;go_ret2;exact⟨A3,n3,c3,rfl,H1.out,h2,h3,H4.out⟩
theorem oM (A B:Option Addr) (n c m d:Nat) (a b:af) (w:World) (ha:bU w A n c a) (hb:bU w B m d b) :
    Calls Tryz.prog 91 #[.slice A n c,.slice B m d] w (bS w (mz 38 a b)):=by
 have HA:=qqh ha;have HB:=qqh hb;clear ha hb;rw [Gn HA.out.right HB.out.right];go_enter Tryz.func91,Tryz.ntmps91;go_wp2_with fail;refine(kF HA.out HB.out).mono ?_;rintro e w1 ⟨rfl,aR⟩;have HM:=qqh (zz A B n m c d a b w1 (by have:=HA.out.le;have:=HB.out.le;omega) HA.out.cap HB.out.cap HA.out.right.canon HB.out.right.canon (HA.out.below aR).rd (HB.out.below aR).rd);have qp:=qqh aR;clear aR;go_wp2_with fail;refine HM.out.mono ?_;rintro e w3 ⟨A3,n3,c3,rfl,kH,Qz,lG,bL⟩;have bG:=qqh (qp.out.trans (bL.mono qp.out.size));have HT:=qqh (fun(e:Ending) (w':World) h=>show bS w (sy (dw a b)) e w' from bS.wL (kH.lift (X':=fun b=>w.heap.size≤b) (fun _ h=>Nat.le_trans qp.out.size h)) lG bG.out h);clear kH bL;go_wp2_with fail;refine(nK A3 n3 c3 w3).mono ?_;rintro e w4 he;obtain⟨A5,n5,c5,rfl,h5⟩:=HT.out e w4 he;have H5:=qqh h5;clear h5 he HT;go_wp2_with fail;go_ret2;exact⟨A5,n5,c5,rfl,H5.out⟩
theorem FZ (A B:Option Addr) (n c m d:Nat) (a b:af) (w:World) (ha:bU w A n c a) (hb:bU w B m d b) :
    Calls Tryz.prog 97 #[.slice A n c,.slice B m d] w (bS w (mz 45 a b)):=by
 have HA:=qqh ha;have HB:=qqh hb;clear ha hb;rw [M7 HA.out.right HB.out.right];go_enter Tryz.func97,Tryz.ntmps97;go_wp2_with fail;refine(kF HA.out HB.out).mono ?_;rintro e w1 ⟨rfl,aR⟩;have oX:=qqh (HA.out.below aR);have HN:=qqh (C9 B m d b w1 HB.out.le HB.out.right (HB.out.below aR).rd);have qp:=qqh aR;clear aR;go_wp2_with fail;refine HN.out.mono ?_;rintro e w2 ⟨A2,n2,c2,rfl,iO,hn2,hc2,aU⟩;have bD:=qqh (qp.out.trans (aU.mono qp.out.size));have HM:=qqh (zz A A2 n n2 c c2 a (wS b) w2 (by have:=HA.out.le;omega) HA.out.cap hc2 HA.out.right.canon (Bu HB.out.right.canon).1 (oX.out.below aU).rd iO.of);clear iO aU;go_wp2_with fail;refine HM.out.mono ?_;rintro e w3 ⟨A3,n3,c3,rfl,kH,Qz,lG,bL⟩;have bG:=qqh (bD.out.trans (bL.mono bD.out.size));have HT:=qqh (fun(e:Ending) (w':World) h=>show bS w (sy (dw a (wS b))) e w' from bS.wL (kH.lift (X':=fun b=>w.heap.size≤b) (fun _ h=>Nat.le_trans bD.out.size h)) lG bG.out h);clear kH bL;go_wp2_with fail;refine(nK A3 n3 c3 w3).mono ?_;rintro e w4 he;obtain⟨A5,n5,c5,rfl,h5⟩:=HT.out e w4 he;have H5:=qqh h5;clear h5 he HT;go_wp2_with fail;go_ret2;exact⟨A5,n5,c5,rfl,H5.out⟩
theorem AG (A:Option Addr) (n c:Nat) (a b:af) (w:World) (ha:bU w A n c a) :
    Calls Tryz.prog 99 #[.slice A n c] w (bS w (mz 94 a b)):=by
 have HA:=qqh ha;clear ha;rw [Nf HA.out.right b];go_enter Tryz.func99,Tryz.ntmps99;go_wp2_with fail;refine(wX HA.out).mono ?_;rintro e w1 ⟨rfl,aR⟩;have HN:=qqh (C9 A n c a w1 HA.out.le HA.out.right (HA.out.below aR).rd);have qp:=qqh aR;clear aR;go_wp2_with fail;refine HN.out.mono ?_;rintro e w3 ⟨A3,n3,c3,rfl,kH,Qz,lG,bL⟩;have bG:=qqh (qp.out.trans (bL.mono qp.out.size));have HT:=qqh (fun(e:Ending) (w':World) h=>show bS w (sy (wS a)) e w' from bS.wL (kH.lift (X':=fun b=>w.heap.size≤b) (fun _ h=>Nat.le_trans qp.out.size h)) lG bG.out h);clear kH bL;go_wp2_with fail;refine(nK A3 n3 c3 w3).mono ?_;rintro e w4 he;obtain⟨A5,n5,c5,rfl,h5⟩:=HT.out e w4 he;have H5:=qqh h5;clear h5 he HT;go_wp2_with fail;go_ret2;exact⟨A5,n5,c5,rfl,H5.out⟩
theorem cT (w:World) (C:Nat) (A:Option Addr) (n c:Nat) (L:List Int) (i:Nat) (h:ax w C A n c L i) :
    Calls Tryz.prog 41 #[.pointer (some ⟨C,0,none⟩)] w fun e w'=>e=.returned (.int .i32 (pk L i))∧ax w' C A n c L i∧bN w C w' :=
  (mc w C A n c L i h).mono fun e w' ⟨he,m,hw⟩=>⟨he,by rw [hw];exact h.drewN m,by rw [hw];exact bN.drewN w C m⟩
theorem mo (w:World) (C:Nat) (A:Option Addr) (n c:Nat) (L:List Int) (i k:Nat) (h:ax w C A n c L i) (hk:k≤1000) :
    Calls Tryz.prog 67 #[.pointer (some ⟨C,0,none⟩),.int .i64 k] w fun e w'=>e=.returned (.int .i32 (pk L (i+k)))∧ax w' C A n c L i∧bN w C w' :=
  (Cz w C A n c L i k h hk).mono fun e w' ⟨he,m,hw⟩=>⟨he,by rw [hw];exact h.drewN m,by rw [hw];exact bN.drewN w C m⟩
def eB (w:World) (C:Nat) (A:Option Addr) (n c:Nat) (L:List Int) (r:jS af) (e:Ending) (w':World):Prop :=
  match r with
  | .ok (s,j)=>(∃ B m d,e=.returned (.slice B m d)∧cE w' (fun b=>w.heap.size≤b) 2 B m (an s)∧m≤d)∧ax w' C A n c L j∧bN w C w'
  | .error (x,p)=>e=aZ x p∧bN w C w'
def jJ (L:List Int) (i:Nat):jS af:=match jd L i with
  | .error e=>.error e
  | .ok (x,j)=>.ok ([x],j)
theorem K8 {L:List Int} {i:Nat} {e:Int × Nat} (h:dc L i=.error e):jJ L i=.error e:=by unfold jJ jd;rw [h]
theorem zF {L:List Int} {i j:Nat} {x:Int} (h:dc L i=.ok (x,j)) (h2:¬(pk L j=45∧pk L (j+1)≠91)):jJ L i=.ok ([(x,x)],j):=by unfold jJ jd;rw [h];simp only;rw [if_neg h2]
theorem Mx {L:List Int} {i j:Nat} {x:Int} {e:Int × Nat} (h:dc L i=.ok (x,j)) (h2:pk L j=45∧pk L (j+1)≠91) (h3:dc L (j+1)=.error e):jJ L i=.error e:=by
 unfold jJ jd;rw [h];simp only;rw [if_pos h2,h3]
theorem MC {L:List Int} {i j k:Nat} {x y:Int} (h:dc L i=.ok (x,j)) (h2:pk L j=45∧pk L (j+1)≠91) (h3:dc L (j+1)=.ok (y,k)) (h4:y<x):jJ L i=.error (3,j+1):=by
 unfold jJ jd;rw [h];simp only;rw [if_pos h2,h3];simp only;rw [if_pos h4]
theorem J3 {L:List Int} {i j k:Nat} {x y:Int} (h:dc L i=.ok (x,j)) (h2:pk L j=45∧pk L (j+1)≠91) (h3:dc L (j+1)=.ok (y,k)) (h4:¬ y<x):jJ L i=.ok ([(x,y)],k):=by
 unfold jJ jd;rw [h];simp only;rw [if_pos h2,h3];simp only;rw [if_neg h4]
theorem su {w W:World} {C:Nat} {A:Option Addr} {n c:Nat} {L:List Int} {j:Nat} (x y:Int) (h:ax W C A n c L j) (hb:bN w C W) :
    eB w C A n c L (.ok ([(x,y)],j)) (.returned (.slice (some ⟨W.heap.size,0,none⟩) 1 1)) (W.alloc (.cells #[.int .i32 x,.int .i32 y] 82)) :=
  ⟨⟨_,1,1,rfl,cE.new 82 [.int .i32 x,.int .i32 y] rfl hb.1,Nat.le_refl _⟩,h.below ((Below.refl _ _).alloc (Nat.le_refl _) _),hb.trans (bN.below C ((Below.refl _ _).alloc (Nat.le_refl _) _))⟩
theorem K0 (w:World) (C:Nat) (A:Option Addr) (n c:Nat) (L:List Int) (i:Nat) (h:ax w C A n c L i) (hL:fU L) :
    Calls Tryz.prog 98 #[.pointer (some ⟨C,0,none⟩)] w (eB w C A n c L (jJ L i)):=by
 have hs:=h.size;have hlen:=h.len;have HC:=qqh h;have gS:=qqh (fun(W:World) (k:Nat) (h:ax W C A n c L k)=>cT W C A n c L k h);have NK:=qqh (fun(W:World) (k:Nat) (h:ax W C A n c L k)=>mo W C A n c L k 1 h (by decide));have IL:=qqh (fun(W:World) (k:Nat) (h:ax W C A n c L k)=>DW W C A n c L k h hL);have Gp:=qqh hL.ok;clear h hL;obtain⟨R,hR⟩:∃ R,jJ L i=R:=⟨_,rfl⟩;rw [hR];have fC:=qqh hR;clear hR;have H1:=qqh (IL.out w i HC.out);cases h1:dc L i with
 | error e0=>
  obtain⟨x,p⟩:=e0;rw [h1]at H1;have HR:=qqh (fC.out.symm.trans (K8 h1));clear h1;go_enter Tryz.func98,Tryz.ntmps98;go_wp2_with fail;refine H1.out.mono ?_;rintro e w5 ⟨he,hb⟩;unfold aZ at he;subst he;have dn:=qqh hb;clear hb;go_wp2_with fail;rw [HR.out];exact⟨rfl,rfl,dn.out⟩
 | ok q=>
  obtain⟨x,j⟩:=q;rw [h1]at H1;have jB:=qqh h1;obtain⟨_,hx0,hx1⟩:=nu Gp.out h1;clear h1;by_cases hd:pk L j=45
  ·have CN:j<n:=(by rw [← hlen];exact bE (by omega));have sQ:=qqh (fun(W:World) (h:ax W C A n c L j)=>show Calls Tryz.prog 41 #[.pointer (some ⟨C,0,none⟩)] W fun e w'=>e=.returned (.int .i32 45)∧ax w' C A n c L j∧bN W C w' by have:=gS.out W j h;rwa [hd]at this);by_cases hb:pk L (j+1)=91
   ·have HR:=qqh (fC.out.symm.trans (zF jB.out (fun h=>h.2 hb)));have Nb:=qqh (fun(W:World) (h:ax W C A n c L j)=>show Calls Tryz.prog 67 #[.pointer (some ⟨C,0,none⟩),.int .i64 1] W fun e w'=>e=.returned (.int .i32 91)∧ax w' C A n c L j∧bN W C w' by have:=NK.out W j h;rwa [hb]at this);clear hd hb;go_enter Tryz.func98,Tryz.ntmps98;go_wp2_with fail;refine H1.out.mono ?_;rintro e w5 ⟨rfl,hc,hb⟩;have uz:=qqh hc;have dn:=qqh hb;clear hb hc;go_wp2_with fail;refine(sQ.out _ uz.out).mono ?_;rintro e w6 ⟨rfl,hc,hb⟩;have IB:=qqh hc;have fG:=qqh (dn.out.trans hb);clear hb hc;go_wp2_with fail;refine(Nb.out _ IB.out).mono ?_;rintro e w7 ⟨rfl,hc,hb⟩;have Kf:=qqh hc;have iU:=qqh (fG.out.trans hb);clear hb hc;go_wp2_with fail;go_ret;rw [HR.out];exact su x x Kf.out iU.out
   have Nb:=qqh (fun(W:World) (h:ax W C A n c L j)=>NK.out W j h);have hq:(pk L (j+1) != 91)=true:=(by simp;exact hb);have HCN:=qqh (And.intro hd hb);generalize pk L (j+1)=r2 at hq Nb;have H2:=qqh (fun(W:World) (h:ax W C A n c L (j+1))=>IL.out W (j+1) h);have hcast:((j+1:Nat):Int)=(j:Int)+1:=(by omega);have hw1:IntKind.i64.wrap ((j:Int)+1)=(j:Int)+1:=wrap_small _ (by omega) (by omega);clear hd hb;cases h2:dc L (j+1)with
   | error e0=>
    obtain⟨x2,p2⟩:=e0;rw [h2]at H2;have HR:=qqh (fC.out.symm.trans (Mx jB.out HCN.out h2));clear h2;go_enter Tryz.func98,Tryz.ntmps98;go_wp2_with fail;refine H1.out.mono ?_;rintro e w5 ⟨rfl,hc,hb⟩;have uz:=qqh hc;have dn:=qqh hb;clear hb hc;go_wp2_with fail;refine(sQ.out _ uz.out).mono ?_;rintro e w6 ⟨rfl,hc,hb⟩;have IB:=qqh hc;have fG:=qqh (dn.out.trans hb);clear hb hc;go_wp2_with fail;refine(Nb.out _ IB.out).mono ?_;rintro e w7 ⟨rfl,hc,hb⟩;have Kf:=qqh hc;have iU:=qqh (fG.out.trans hb);clear hb hc;obtain⟨d1,d2,d3,d4⟩:=Kf.out.step CN;have Sk:=qqh d3;have rV:=qqh (iU.out.trans d4);clear d3 d4;go_wp2_with fail;refine(H2.out _ Sk.out).mono ?_;rintro e w9 ⟨he,hb⟩;unfold aZ at he;subst he;have eG:=qqh (rV.out.trans hb);clear hb;go_wp2_with fail;rw [HR.out];exact⟨rfl,rfl,eG.out⟩
   | ok q=>
    obtain⟨y,k⟩:=q;rw [h2]at H2;have mT:=qqh h2;obtain⟨_,hy0,hy1⟩:=nu Gp.out h2;clear h2;go_enter Tryz.func98,Tryz.ntmps98;go_wp2_with fail;refine H1.out.mono ?_;rintro e w5 ⟨rfl,hc,hb⟩;have uz:=qqh hc;have dn:=qqh hb;clear hb hc;go_wp2_with fail;refine(sQ.out _ uz.out).mono ?_;rintro e w6 ⟨rfl,hc,hb⟩;have IB:=qqh hc;have fG:=qqh (dn.out.trans hb);clear hb hc;go_wp2_with fail;refine(Nb.out _ IB.out).mono ?_;rintro e w7 ⟨rfl,hc,hb⟩;have Kf:=qqh hc;have iU:=qqh (fG.out.trans hb);clear hb hc;obtain⟨d1,d2,d3,d4⟩:=Kf.out.step CN;have Sk:=qqh d3;have rV:=qqh (iU.out.trans d4);clear d3 d4;go_wp2_with fail;refine(H2.out _ Sk.out).mono ?_;rintro e w9 ⟨rfl,hc,hb⟩;have HC9:=qqh hc;have eG:=qqh (rV.out.trans hb);clear hb hc;by_cases hlt:y<x
    ·have HR:=qqh (fC.out.symm.trans (MC jB.out HCN.out mT.out hlt));have HF:=qqh (fun(W:World)=>bZ 3 ((j:Int)+1) W);go_wp2_with fail;refine(HF.out _).mono ?_;rintro e Kn ⟨rfl,rfl⟩;go_wp2_with fail;rw [HR.out];exact⟨rfl,by rw [aZ,hcast],eG.out⟩
    have HR:=qqh (fC.out.symm.trans (J3 jB.out HCN.out mT.out hlt));go_wp2_with fail;go_ret;rw [HR.out];exact su x y HC9.out eG.out
  have HR:=qqh (fC.out.symm.trans (zF jB.out (fun h=>hd h.1)));have hq:(pk L j == 45)=false:=(by simp;exact hd);go_enter Tryz.func98,Tryz.ntmps98;go_wp2_with fail;refine H1.out.mono ?_;rintro e w5 ⟨rfl,hc,hb⟩;have uz:=qqh hc;have dn:=qqh hb;clear hb hc;go_wp2_with fail;refine(gS.out _ _ uz.out).mono ?_;rintro e w6 ⟨rfl,hc,hb⟩;have IB:=qqh hc;have fG:=qqh (dn.out.trans hb);clear hb hc;go_wp2_with fail;go_ret;rw [HR.out];exact su x x IB.out fG.out
theorem Fy {L:List Int} {f j:Nat} (h:pk L (aP L j)≠35):eP L (f+1) j=aP L j:=by rw [eP,if_neg h]
theorem Jr {L:List Int} {f j:Nat} (h:pk L (aP L j)=35):eP L (f+1) j=eP L f (aB qd L (aP L j)):=by rw [eP,if_pos h]
theorem zD (r:Int) (w:World) :
    Calls Tryz.prog 117 #[.int .i32 r] w fun e w'=>e=.returned (.bool (jW r))∧w'=w:=by
 go_enter Tryz.func117,Tryz.ntmps117;go_wp2;(all_goals go_ret);(all_goals refine⟨aW ?_,rfl⟩);(all_goals (rw [Bool.eq_iff_iff];simp [jW];try omega))
theorem ju (w:World) (C:Nat) (A:Option Addr) (n c:Nat) (L:List Int) (i:Nat) (h:ax w C A n c L i) :
    Calls Tryz.prog 40 #[.pointer (some ⟨C,0,none⟩)] w fun e w'=>e=.returned (.tuple #[])∧ax w' C A n c L (az L i)∧bN w C w':=by
 have hs:=h.size;have hl:=h.len;have HC:=qqh h;clear h;go_enter Tryz.func40,Tryz.ntmps40;go_wp2_with fail;go_loopw [2] (fun _ wr=>∃ f j:Nat,j≤n∧n+1≤f+j∧az L i=eP L f j∧ax wr C A n c L j∧bN w C wr) (fun _ wr=>n - (match wr.cell? ⟨C,1,none⟩with | some (.int _ j)=>j.toNat | _=>0));(case atStart=>exact⟨L.length+1,i,HC.out.le,by omega,rfl,HC.out,bN.refl _ _⟩);obtain⟨f0,j,hj,hf,hsp,hc,hb⟩:=hrel;obtain⟨f,rfl⟩:∃ f,f0=f+1:=⟨f0 - 1,by omega⟩;have HJ:=qqh hc;have HB:=qqh hb;have qq:=qqh hsp;have nS:=qqh (hc.blk.cell 1);obtain⟨k,hk⟩:∃ k,aP L j=k:=⟨_,rfl⟩;have HK:=qqh hk;have hjk:j≤k:=(by rw [← hk];exact ez L j);have gS:=qqh (fun(W:World) (m:Nat) (h:ax W C A n c L m)=>cT W C A n c L m h);clear hc hb hsp;go_wp2_with fail;refine(iz wr C A n c L j HJ.out).mono ?_;rintro e w1 ⟨rfl,hc1,aR⟩;rw [hk]at hc1;have jB:=qqh hc1;have bJ:=qqh (HB.out.trans aR);clear hc1 aR hk;go_wp2_with fail;refine(gS.out _ k jB.out).mono ?_;rintro e w2 ⟨rfl,hc2,aU⟩;have mT:=qqh hc2;have bD:=qqh (bJ.out.trans aU);clear hc2 aU;by_cases sM:pk L k=35
 ·have hlt:k<L.length:=bE (by omega);have qY:=qqh (show az L i=eP L f (aB qd L k) by rw [qq.out,Jr (by rw [HK.out];exact sM),HK.out]);have P7:=qqh (show k+1≤aB qd L k by rw [dR hlt (by rw [sM];rfl)];exact eO _ _ _);have HLE:=qqh (show aB qd L k≤n by rw [← hl];exact(gX (Nat.le_of_lt hlt)).2);obtain⟨m0,hm0⟩:∃ m0,aB qd L k=m0:=⟨_,rfl⟩;rw [hm0]at qY P7 HLE;have HM:=qqh hm0;rw [sM];clear hm0 sM;go_wp2_with fail;go_loopw [11] (fun _ wy=>∃ m:Nat,k≤m∧m≤n∧m0=aB qd L m∧ax wy C A n c L m∧bN w C wy) (fun _ wy=>n - (match wy.cell? ⟨C,1,none⟩with | some (.int _ j)=>j.toNat | _=>0));(case atStart=>exact⟨k,Nat.le_refl _,by omega,HM.out.symm,mT.out,bD.out⟩);obtain⟨m,hkm,hmn,hrun,Ya,TX⟩:=hrel;have Qy:=qqh Ya;have HBM:=qqh TX;have HRM:=qqh hrun;have Sl:=qqh (Ya.blk.cell 1);clear Ya TX hrun;cases hrem:qd (pk L m)with
  | true=>
   have aba:m<L.length:=bE (fun e=>by rw [e]at hrem;exact absurd hrem (by decide));have Ke:=qqh (HRM.out.trans (dR aba hrem));have h0:0≤pk L m∧pk L m≠10:=(by simpa [qd] using hrem);have hg0:decide ((0:Int)≤pk L m)=true:=decide_eq_true h0.1;have hg1:(pk L m != 10)=true:=(by simp;exact h0.2);have hwm:IntKind.i64.wrap ((m:Int)+1)=(m:Int)+1:=wrap_small _ (by omega) (by omega);clear hrem h0;go_wp2_with fail;refine(gS.out _ m Qy.out).mono ?_;rintro e w3 ⟨rfl,lG,bL⟩;have oK:=qqh lG;have bG:=qqh (HBM.out.trans bL);clear lG bL;go_wp2_with fail;refine(gS.out _ m oK.out).mono ?_;rintro e w4 ⟨rfl,lS,hb4⟩;have B8:=qqh lS;have dI:=qqh (bG.out.trans hb4);clear lS hb4;obtain⟨d1,d2,d3,d4⟩:=B8.out.step (by omega);have uh:=qqh d3;have dn:=qqh (dI.out.trans d4);clear d3 d4;go_wp2_with fail;refine⟨⟨m+1,by omega,by omega,Ke.out,uh.out,dn.out⟩,?_⟩;have e1:(w4.setCell ⟨C,1,none⟩ (.int .i64 ((m:Int)+1))).cell? ⟨C,1,none⟩=some (.int .i64 ((m+1:Nat):Int)):=uh.out.blk.cell 1;have e2:wr.cell? ⟨C,1,none⟩=some (.int .i64 (m:Int)):=Sl.out;rw [e1,e2];simp only [Int.toNat_natCast];omega
  | false=>
   obtain rfl:m0=m:=HRM.out.trans (cV (fun _=>hrem));have hor:pk L m0<0∨(0≤pk L m0∧pk L m0=10):=by
    simp [qd]at hrem;by_cases h:pk L m0<0;exact .inl h;exact .inr ⟨by omega,hrem (by omega)⟩
   have hge:=P7.out;clear hrem HRM;rcases hor with h0 | ⟨_,h0⟩
   ·go_wp2_with fail;refine(gS.out _ m0 Qy.out).mono ?_;rintro e w3 ⟨rfl,lG,bL⟩;have oK:=qqh lG;have bG:=qqh (HBM.out.trans bL);clear lG bL;go_wp2_with fail;refine⟨⟨f,m0,hmn,by omega,qY.out,oK.out,bG.out⟩,?_⟩;rw [oK.out.blk.cell 1,nS.out];simp only [Int.toNat_natCast,List.getElem?_toArray,List.getElem?_cons_succ,List.getElem?_cons_zero];omega
   go_wp2_with fail;refine(cT _ C A n c L m0 Qy.out).mono ?_;rintro e w3 ⟨rfl,lG,bL⟩;rw [h0];have oK:=qqh lG;have bG:=qqh (HBM.out.trans bL);clear lG bL;go_wp2_with fail;refine(cT _ C A n c L m0 oK.out).mono ?_;rintro e w4 ⟨rfl,lS,hb4⟩;rw [h0];have B8:=qqh lS;have dI:=qqh (bG.out.trans hb4);clear lS hb4;go_wp2_with fail;refine⟨⟨f,m0,hmn,by omega,qY.out,B8.out,dI.out⟩,?_⟩;rw [B8.out.blk.cell 1,nS.out];simp only [Int.toNat_natCast,List.getElem?_toArray,List.getElem?_cons_succ,List.getElem?_cons_zero];omega
 have CP:=qqh (show az L i=k by rw [qq.out,Fy (by rw [HK.out];exact sM),HK.out]);have hq:(pk L k != 35)=true:=(by simp;exact sM);clear sM;go_wp2_with fail;(try simp only [Exit.inBlock,Exit.then]);refine bodyPost_ret (results_none rfl _ _ _) rfl ?_;rw [CP.out];exact⟨rfl,mT.out,bD.out⟩
def Mm {α:Type} (V:α→Value) (w:World) (C:Nat) (A:Option Addr) (n c:Nat) (L:List Int) (r:jS α) (e:Ending) (w':World):Prop :=
  match r with
  | .ok (d,j)=>e=.returned (V d)∧ax w' C A n c L j∧bN w C w'
  | .error (x,p)=>e=aZ x p∧bN w C w'
theorem Lc (w:World) (C:Nat) (A:Option Addr) (n c:Nat) (L:List Int) (i:Nat) (h:ax w C A n c L i) :
    Calls Tryz.prog 73 #[.pointer (some ⟨C,0,none⟩)] w (Mm (Value.int .i64) w C A n c L (eK L i)):=by
 have hs:=h.size;have hl:=h.len;have hle:=h.le;have HC:=qqh h;have gS:=qqh (fun(W:World) (m:Nat) (h:ax W C A n c L m)=>cT W C A n c L m h);have NK:=qqh (fun(W:World) (h:ax W C A n c L i)=>mo W C A n c L i 1 h (by decide));have hw1:IntKind.i64.wrap ((i:Int)+1)=(i:Int)+1:=wrap_small _ (by omega) (by omega);have xU:IntKind.i64.wrap ((i:Int)+2)=(i:Int)+2:=wrap_small _ (by omega) (by omega);clear h;obtain⟨R,hR⟩:∃ R,eK L i=R:=⟨_,rfl⟩;rw [hR];have fC:=qqh hR;clear hR;by_cases Il:pk L i=62
 ·have ic:=qqh (show R=.ok (1,i+1) by rw [← fC.out];unfold eK;rw [if_pos Il]);have hlt:i<L.length:=bE (by omega);go_enter Tryz.func73,Tryz.ntmps73;go_wp2_with fail;refine(gS.out _ i HC.out).mono ?_;rintro e w1 ⟨rfl,hc1,aR⟩;rw [Il];have jB:=qqh hc1;have bJ:=qqh aR;clear hc1 aR Il;obtain⟨d1,d2,d3,d4⟩:=jB.out.step (by omega);have uh:=qqh d3;have dn:=qqh (bJ.out.trans d4);clear d3 d4;go_wp2_with fail;go_ret;rw [ic.out];exact⟨rfl,uh.out,dn.out⟩
 have q62:(pk L i == 62)=false:=(by rw [beq_eq_false_iff_ne];exact Il);by_cases zm:pk L i=60
 ·have hlt:i<L.length:=bE (by omega);by_cases h2:pk L (i+1)=62
  ·have ic:=qqh (show R=.ok (3,i+2) by rw [← fC.out];unfold eK;rw [if_neg Il,if_pos ⟨zm,h2⟩]);have hlt2:i+1<L.length:=bE (by omega);go_enter Tryz.func73,Tryz.ntmps73;go_wp2_with fail;refine(gS.out _ i HC.out).mono ?_;rintro e w1 ⟨rfl,hc1,aR⟩;have jB:=qqh hc1;have bJ:=qqh aR;clear hc1 aR;go_wp2_with fail;refine(gS.out _ i jB.out).mono ?_;rintro e w2 ⟨rfl,hc2,aU⟩;rw [zm];have mT:=qqh hc2;have bD:=qqh (bJ.out.trans aU);clear hc2 aU;go_wp2_with fail;refine(NK.out _ mT.out).mono ?_;rintro e w3 ⟨rfl,lG,bL⟩;rw [h2];have oK:=qqh lG;have bG:=qqh (bD.out.trans bL);clear lG bL;have d1:=oK.out.blk.cell 1;have d2:=oK.out.blk.frozen 1;have hm:=oK.out.move (j:=i+2) (by omega);rw [show(((i+2:Nat)):Int)=(i:Int)+2 by omega]at hm;have uh:=qqh hm;have dn:=qqh (bG.out.trans (bN.set w3 C 1 (.int .i64 ((i:Int)+2))));clear hm;go_wp2_with fail;go_ret;rw [ic.out];exact⟨rfl,uh.out,dn.out⟩
  have q2:(pk L (i+1) == 62)=false:=(by rw [beq_eq_false_iff_ne];exact h2);have ic:=qqh (show R=.ok (2,i+1) by rw [← fC.out];unfold eK;rw [if_neg Il,if_neg (fun h=>h2 h.2)];unfold aT;rw [if_pos zm]);have Hg:=qqh (fun(W:World) (h:ax W C A n c L i)=>show Calls Tryz.prog 43 #[.pointer (some ⟨C,0,none⟩),.int .i32 60] W fun e w'=>e=.returned (.tuple #[])∧ax w' C A n c L (i+1)∧bN W C w' by have:=fk W C A n c L i 60 h (by decide);rwa [show aT L i 60=.ok (i+1) by unfold aT;rw [if_pos zm]]at this);go_enter Tryz.func73,Tryz.ntmps73;go_wp2_with fail;refine(gS.out _ i HC.out).mono ?_;rintro e w1 ⟨rfl,hc1,aR⟩;have jB:=qqh hc1;have bJ:=qqh aR;clear hc1 aR;go_wp2_with fail;refine(gS.out _ i jB.out).mono ?_;rintro e w2 ⟨rfl,hc2,aU⟩;rw [zm];have mT:=qqh hc2;have bD:=qqh (bJ.out.trans aU);clear hc2 aU;go_wp2_with fail;refine(NK.out _ mT.out).mono ?_;rintro e w3 ⟨rfl,lG,bL⟩;have oK:=qqh lG;have bG:=qqh (bD.out.trans bL);clear lG bL;go_wp2_with fail;refine(Hg.out _ oK.out).mono ?_;rintro e w4 ⟨rfl,lS,hb4⟩;have B8:=qqh lS;have dI:=qqh (bG.out.trans hb4);clear lS hb4;go_wp2_with fail;go_ret;rw [ic.out];exact⟨rfl,B8.out,dI.out⟩
 have q60:(pk L i == 60)=false:=(by rw [beq_eq_false_iff_ne];exact zm);have ic:=qqh (show R=.error (2,i) by rw [← fC.out];unfold eK;rw [if_neg Il,if_neg (fun h=>zm h.1)];unfold aT;rw [if_neg zm]);have Hg:=qqh (fun(W:World) (h:ax W C A n c L i)=>show Calls Tryz.prog 43 #[.pointer (some ⟨C,0,none⟩),.int .i32 60] W fun e w'=>e=aZ 2 i∧bN W C w' by have:=fk W C A n c L i 60 h (by decide);rwa [show aT L i 60=.error (2,i) by unfold aT;rw [if_neg zm]]at this);go_enter Tryz.func73,Tryz.ntmps73;go_wp2_with fail;refine(gS.out _ i HC.out).mono ?_;rintro e w1 ⟨rfl,hc1,aR⟩;have jB:=qqh hc1;have bJ:=qqh aR;clear hc1 aR;go_wp2_with fail;refine(gS.out _ i jB.out).mono ?_;rintro e w2 ⟨rfl,hc2,aU⟩;have mT:=qqh hc2;have bD:=qqh (bJ.out.trans aU);clear hc2 aU;go_wp2_with fail;refine(Hg.out _ mT.out).mono ?_;rintro e w4 ⟨he,hb4⟩;unfold aZ at he;subst he;have dI:=qqh (bD.out.trans hb4);clear hb4;go_wp2_with fail;rw [ic.out];exact⟨rfl,rfl,dI.out⟩
def SW (r:Int):Bool:=jW r || BA r
theorem EY {L:List Int} {i:Nat} (h:jW (pk L i)=false):bk L i=i:=by unfold bk;rw [h];rfl
theorem DN {L:List Int} {i:Nat} (h:jW (pk L i)=true):bk L i=aB SW L (i+1):=by
 have hlt:i<L.length:=bE (fun e=>by rw [e]at h;exact absurd h (by decide));unfold bk;rw [if_pos h];exact dR (p:=SW) hlt (by unfold SW;rw [h];rfl)
def Ip (L:List Int) (i j:Nat):Prop:=j=i∨(i<j∧bk L i=aB SW L j)
theorem Ip.next {L:List Int} {i j:Nat} (h:Ip L i j) (hj:jW (pk L j)=true∨(i<j∧BA (pk L j)=true)):Ip L i (j+1):=by
 have hl:SW (pk L j)=true:=by
  unfold SW;rcases hj with h | h
  ·rw [h];rfl
  rw [h.2,Bool.or_true]
 have hlt:j<L.length:=bE (fun e=>by rw [e]at hl;exact absurd hl (by decide));rcases h with rfl | ⟨h1,h2⟩
 ·rcases hj with h | h;exact .inr ⟨by omega,DN h⟩;omega
 exact .inr ⟨by omega,h2.trans (dR hlt hl)⟩
theorem Ip.done {L:List Int} {i j:Nat} (h:Ip L i j) (h1:jW (pk L j)=false) (h2:i<j→BA (pk L j)=false):bk L i=j:=by
 rcases h with rfl | ⟨h3,h4⟩;exact EY h1;rw [h4];exact cV (fun _=>by unfold SW;rw [h1,h2 h3];rfl)
theorem rm (w:World) (C:Nat) (A:Option Addr) (n c:Nat) (L:List Int) (i:Nat) (h:ax w C A n c L i) (h0:0<n) :
    Calls Tryz.prog 69 #[.pointer (some ⟨C,0,none⟩)] w fun e w'=>e=.returned (.string (gN L i))∧ax w' C A n c L (bk L i)∧bN w C w':=by
 have hs:=h.size;have hl:=h.len;have hi:=h.le;obtain⟨b,off,rfl,_,_⟩:=h.at h0;have HC:=qqh h;have gS:=qqh (fun(W:World) (m:Nat) (h:ax W C (some ⟨b,off,none⟩) n c L m)=>cT W C (some ⟨b,off,none⟩) n c L m h);have c1:=h.blk.cell 1;clear h;go_enter Tryz.func69,Tryz.ntmps69;go_upto_block 0 with (go_at_call 41;refine(gS.out _ i HC.out).mono ?_;rintro e w1 ⟨rfl,hc1,aR⟩);have jB:=qqh hc1;have bJ:=qqh aR;clear hc1 aR c1;go_cut [3] (fun v wx=>v=.int .i64 (i:Int)∧ax wx C (some ⟨b,off,none⟩) n c L (bk L i)∧bN w C wx);case first=>
  go_wp2_with fail;go_loopw [4] (fun v wr=>∃ j:Nat,i≤j∧j≤n∧v=.int .i32 (pk L j)∧Ip L i j∧ax wr C (some ⟨b,off,none⟩) n c L j∧bN w C wr) (fun _ wr=>n - (match wr.cell? ⟨C,1,none⟩with | some (.int _ j)=>j.toNat | _=>0));(case atStart=>exact⟨i,Nat.le_refl _,hi,rfl,.inl rfl,jB.out,bJ.out⟩);obtain⟨j,hij,hjn,rfl,VD,tc,Bz⟩:=hrel;have HJ:=qqh tc;have HB:=qqh Bz;have Rm:=qqh VD;have nS:=qqh (tc.blk.cell 1);have k1:=tc.blk.cell 1;clear tc Bz VD;have C':=qqh (fun h1 h2=>Rm.out.done h1 h2);have Gs:=qqh (fun hj=>Rm.out.next hj);have rZ:=qqh (fun(W:World) (h:ax W C (some ⟨b,off,none⟩) n c L (j+1))=>gS.out W (j+1) h);obtain⟨x,hx⟩:∃ x,pk L j=x:=⟨_,rfl⟩;have hjl:0≤x→j<n:=fun h=>(by rw [← hl];exact bE (by rw [hx];omega));rw [hx]at C' Gs;rw [hx];have hwj:IntKind.i64.wrap ((j:Int)+1)=(j:Int)+1:=wrap_small _ (by omega) (by omega);clear hx;have XF:(jW x=true∧((97≤x∧x≤122)∨x=95))∨(jW x=false∧i<j∧BA x=true∧48≤x∧x≤57)∨(jW x=false∧(i<j→BA x=false)∧(x<48∨(48≤x∧x≤57∧j=i)∨(57<x∧x<95)∨x=96∨122<x)):=by
   by_cases h1:jW x=true;exact .inl ⟨h1,by simpa [jW] using h1⟩;rw [Bool.not_eq_true]at h1;have h2:¬((97≤x∧x≤122)∨x=95):=(by simpa [jW] using h1);right;by_cases h3:i<j∧BA x=true;exact .inl ⟨h1,h3.1,h3.2,by simpa [BA] using h3.2⟩;right;refine⟨h1,fun h4=>by rw [Bool.eq_false_iff];exact fun h5=>h3 ⟨h4,h5⟩,?_⟩;by_cases h4:48≤x∧x≤57
   ·have:¬ i<j:=fun h5=>h3 ⟨h5,by simp [BA,h4]⟩;omega
   omega
  rcases XF with ⟨h1,hr⟩ | ⟨h1,hlt,h2,hr⟩ | ⟨h1,h2,hr⟩
  ·have HN:=qqh (Gs.out (.inl h1));have OG:j<n:=hjl (by omega);obtain⟨d1,d2,d3,d4⟩:=HJ.out.step OG;have uh:=qqh d3;have dn:=qqh (HB.out.trans d4);clear d3 d4;rcases hr with ⟨r1,r2⟩ | r1
   all_goals
     go_wp2_with fail
     refine(rZ.out _ uh.out).mono ?_
     rintro e w5 ⟨rfl,lH,dJ⟩
     have uz:=qqh lH
     have fG:=qqh (dn.out.trans dJ)
     clear lH dJ
     go_wp2_with fail
     refine⟨⟨j+1,by omega,by omega,rfl,HN.out,uz.out,fG.out⟩,?_⟩
     have e1:w5.cell? ⟨C,1,none⟩=some (.int .i64 ((j+1:Nat):Int)):=uz.out.blk.cell 1
     have e2:wr.cell? ⟨C,1,none⟩=some (.int .i64 (j:Int)):=nS.out
     rw [e1,e2]
     simp only [Int.toNat_natCast]
     omega
  ·have HN:=qqh (Gs.out (.inr ⟨hlt,h2⟩));have OG:j<n:=hjl (by omega);obtain⟨d1,d2,d3,d4⟩:=HJ.out.step OG;have uh:=qqh d3;have dn:=qqh (HB.out.trans d4);have hgt:decide ((i:Int)<(j:Int))=true:=decide_eq_true (by omega);clear d3 d4;obtain⟨r1,r2⟩:=hr;go_wp2_with fail;refine(rZ.out _ uh.out).mono ?_;rintro e w5 ⟨rfl,lH,dJ⟩;have uz:=qqh lH;have fG:=qqh (dn.out.trans dJ);clear lH dJ;go_wp2_with fail;refine⟨⟨j+1,by omega,by omega,rfl,HN.out,uz.out,fG.out⟩,?_⟩;have e1:w5.cell? ⟨C,1,none⟩=some (.int .i64 ((j+1:Nat):Int)):=uz.out.blk.cell 1;have e2:wr.cell? ⟨C,1,none⟩=some (.int .i64 (j:Int)):=nS.out;rw [e1,e2];simp only [Int.toNat_natCast];omega
  have HE:=qqh (C'.out h1 h2);clear C' Gs Rm h1 h2;rcases hr with r1 | ⟨r1,r2,r3⟩ | ⟨r1,r2⟩ | r1 | r1
  all_goals
    have q95:(x == 95)=false:=by rw [beq_eq_false_iff_ne];omega
    by_cases hgt:(i:Int)<(j:Int)
    all_goals first
    | (exfalso;omega)
    | (go_wp2_with fail
       go_meet
       rw [HE.out]
       exact⟨rfl,HJ.out,HB.out⟩)
 obtain⟨rfl,Bf,hbc⟩:=hcut;have HT:=qqh (show gN L i=runesBytes (aN L i (bk L i)) from rfl);have hir:i≤bk L i:=by
  unfold bk;split;exact eO _ _ _;exact Nat.le_refl _
 obtain⟨r,hr⟩:∃ r,bk L i=r:=⟨_,rfl⟩;rw [hr]at Bf HT hir;have i4:=qqh hr;clear hr;have Kg:=qqh Bf;have TI:=qqh hbc;have hrn:=Bf.le;have d0:=Bf.blk.cell 0;have d1:=Bf.blk.cell 1;have qu:=xp (Bf.drewN 1) hir hrn;have hk1:(i:Int)≤(r:Int):=(by omega);have hk2:(r:Int)≤(c:Int):=(by have:=Bf.cap;omega);have Qs:(0:Int)≤(i:Int):=(by omega);clear Bf hbc jB bJ HC;generalize runesBytes (aN L i r)=T at *;go_upto_region 6 with fail;refine ay (S:=(fun w'=>w'.cell? ⟨C,0,none⟩=some (.slice (some ⟨b,off,none⟩) n c)∧w'.cell? ⟨C,1,none⟩=some (.int .i64 r)∧(convert 33 9 (.slice (if c=i then some ⟨b,off,none⟩else some ⟨b,off+i,none⟩) (r - i) (c - i))).run Tryz.prog w'=.ok (.string T) w')) [4,10,12] (by kernel_rfl) ⟨d0,d1,qu⟩ (fun bg=>?_);refine tq 0 54 ?_;(try simp only [zp,za,z0,zs]);refine tq 1 55 ?_;(try simp only [zp,za,z0,zs]);refine tq 2 56 ?_;(try simp only [zp,za,z0,zs]);refine tq 3 57 ?_;(try simp only [zp,za,z0,zs]);refine tu 4 58 ?_;(try simp only [zp,za,z0,zs]);refine tq 5 59 ?_;(try simp only [zp,za,z0,zs]);refine tq 6 60 ?_;(try simp only [zp,za,z0,zs]);refine tq 7 61 ?_;(try simp only [zp,za,z0,zs]);refine tq 8 62 ?_;(try simp only [zp,za,z0,zs]);refine tq 9 63 ?_;(try simp only [zp,za,z0,zs]);refine tu 10 64 ?_;(try simp only [zp,za,z0,zs]);refine tq 11 65 ?_;(try simp only [zp,za,z0,zs]);refine tu 12 66 ?_;(try simp only [zp,za,z0,zs]);refine tq 13 2 ?_;(try simp only [zp,za,z0,zs]);refine aJ (by kernel_rfl) ?_ _;generalize (if c=i then some ({ block:=b,off:=off }:Addr)else some { block:=b,off:=off+i })=Z;go_simp;go_wp2_with fail;go_ret;rw [HT.out,i4.out];exact⟨rfl,Kg.out.drewN 1,TI.out.trans (bN.drewN wc C 1)⟩
theorem GA (w:World) (C:Nat) (A:Option Addr) (n c:Nat) (L:List Int) (i:Nat) (h:ax w C A n c L i) (h0:0<n) :
    Calls Tryz.prog 71 #[.pointer (some ⟨C,0,none⟩)] w (Mm Value.string w C A n c L (gn L i)):=by
 have HW:=qqh (rm w C A n c L i h h0);have c1:=h.blk.cell 1;have HN:=qqh (show gn L i=if ek (gN L i)=true then .ok (gN L i,bk L i)else .error (7,i) from rfl);obtain⟨R,hR⟩:∃ R,gn L i=R:=⟨_,rfl⟩;rw [hR];rw [hR]at HN;clear h hR;generalize gN L i=T at *;generalize bk L i=r at *;have F8:=qqh (fun(W:World)=>i7 T W);cases hnm:ek T with
 | true=>
  rw [hnm]at HN F8;go_enter Tryz.func71,Tryz.ntmps71;go_wp2_with fail;refine HW.out.mono ?_;rintro e w1 ⟨rfl,hc1,aR⟩;have jB:=qqh hc1;have bJ:=qqh aR;clear hc1 aR;go_wp2_with fail;refine(F8.out _).mono ?_;rintro e w2 ⟨rfl,rfl⟩;go_wp2_with fail;go_ret;rw [HN.out];exact⟨rfl,jB.out,bJ.out⟩
 | false=>
  rw [hnm]at HN F8;go_enter Tryz.func71,Tryz.ntmps71;go_wp2_with fail;refine HW.out.mono ?_;rintro e w1 ⟨rfl,hc1,aR⟩;have jB:=qqh hc1;have bJ:=qqh aR;clear hc1 aR;go_wp2_with fail;refine(F8.out _).mono ?_;rintro e w2 ⟨rfl,rfl⟩;go_wp2_with fail;refine(bZ 7 i _).mono ?_;rintro e w3 ⟨rfl,rfl⟩;go_wp2_with fail;rw [HN.out];exact⟨rfl,rfl,bJ.out⟩
def M3 (L:List Int) (i:Nat):Bool:=decide (pk L (az L (bk L (i+1)))=61)
theorem tG (w:World) (C:Nat) (A:Option Addr) (n c:Nat) (L:List Int) (i:Nat) (h:ax w C A n c L i) (hi:i<n) :
    Calls Tryz.prog 70 #[.pointer (some ⟨C,0,none⟩)] w fun e w'=>e=.returned (.bool (M3 L i))∧Below w.heap.size w w':=by
 have hs:=h.size;have c0:=h.blk.cell 0;have c1:=h.blk.cell 1;have hw1:IntKind.i64.wrap ((i:Int)+1)=(i:Int)+1:=wrap_small _ (by omega) (by omega)
 have HN:=qqh (show ax (w.alloc (.cells #[.slice A n c,.int .i64 ((i:Int)+1)] 96)) w.heap.size A n c L (i+1) from
   ⟨⟨_,by rw [show(((i+1:Nat)):Int)=(i:Int)+1 by omega];exact aj.new _ _ _⟩,(h.row.lift (X':=fun _=>True) (fun _ _=>trivial)).keep (aa.alloc _ (fun b _ hl=>Nat.ne_of_lt hl)),h.size,hi,h.cap⟩)
 have HB:=qqh (show Below w.heap.size w (w.alloc (.cells #[.slice A n c,.int .i64 ((i:Int)+1)] 96)) from(Below.refl _ _).alloc (Nat.le_refl _) _);have HV:=qqh (show M3 L i=decide (pk L (az L (bk L (i+1)))=61) from rfl);clear h;go_enter Tryz.func70,Tryz.ntmps70;go_wp2_with fail;refine(rm _ w.heap.size A n c L (i+1) HN.out (by omega)).mono ?_;rintro e w1 ⟨rfl,hc1,aR⟩;have jB:=qqh hc1;have bJ:=qqh (HB.out.trans (aR.to HB.out.size (Nat.le_refl _)));clear hc1 aR;go_wp2_with fail;refine(ju _ w.heap.size A n c L _ jB.out).mono ?_;rintro e w2 ⟨rfl,hc2,aU⟩;have mT:=qqh hc2;have bD:=qqh (bJ.out.trans (aU.to bJ.out.size (Nat.le_refl _)));clear hc2 aU;go_wp2_with fail;refine(cT _ w.heap.size A n c L _ mT.out).mono ?_;rintro e w3 ⟨rfl,lG,bL⟩;have bG:=qqh (bD.out.trans (bL.to bD.out.size (Nat.le_refl _)));clear lG bL;go_wp2_with fail;go_ret;rw [HV.out];exact⟨aW (by first | rfl | (rw [Bool.eq_iff_iff];simp)),bG.out⟩
end Go.Proofs.YtkggjgeihhialaaGreatDoor
