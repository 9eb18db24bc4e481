/- SortSpan + SetFour + CurSpan + RdSpace + RdWord + RdName -/
import Derived.Test.YtkggjgeihhialaaGreatDoorShelf2
import Derived.Test.YtkggjgeihhialaaGreatDoorShelfM
import Derived.Test.YtkggjgeihhialaaGreatDoorZs12
import Derived.Test.YtkggjgeihhialaaGreatDoorZs22
import Derived.Test.YtkggjgeihhialaaGreatDoorZs15
import Derived.Test.YtkggjgeihhialaaGreatDoorZs33
import Derived.Test.YtkggjgeihhialaaGreatDoorZs14
set_option maxHeartbeats 6400000
set_option maxRecDepth 100000
namespace Go.Proofs.YtkggjgeihhialaaGreatDoor
open Go.RowKit
def mj (x:Int × Int):List Value:=[.int .i32 x.1,.int .i32 x.2]
def kJ (x y:Int × Int):Int:=Lib.compareInt x.1 y.1
theorem zL (x y:Int × Int):ltOf kJ x y=decide (x.1<y.1):=by
 unfold ltOf kJ Lib.compareInt;by_cases h1:x.1<y.1
 ·simp [h1]
 by_cases h2:y.1<x.1 <;> simp [h1,h2]
theorem Nt:Sort.SWO (ltOf kJ) where
  irrefl x:=by rw [zL];simp
  trans x y z h1 h2:=by rw [zL]at *;simp at *;omega
  ntrans x y z h1 h2:=by rw [zL]at *;simp at *;omega
theorem DX (x:Int) (w:World):Calls Tryz.prog 146 #[.int .i32 x] w fun e w'=>e=.returned (.bool false)∧w'=w:=by
 have h:(x != x)=false:=(by simp);go_enter Tryz.func146,Tryz.ntmps146;go_wp2_with fail;go_ret;exact⟨rfl,rfl⟩
theorem Lz (x y:Int) (w:World):Calls Tryz.prog 130 #[.int .i32 x,.int .i32 y] w fun e w'=>e=.returned (.int .i64 (Lib.compareInt x y))∧w'=w:=by
 unfold Lib.compareInt;by_cases h1:x<y
 ·rw [if_pos h1];go_enter Tryz.func130,Tryz.ntmps130;go_wp2_with (go_at_call 146;refine(DX _ _).mono ?_;rintro e w' ⟨rfl,rfl⟩);go_ret;exact⟨rfl,rfl⟩
 rw [if_neg h1];by_cases h2:x > y
 ·rw [if_pos h2];go_enter Tryz.func130,Tryz.ntmps130;go_wp2_with (go_at_call 146;refine(DX _ _).mono ?_;rintro e w' ⟨rfl,rfl⟩);go_ret;exact⟨rfl,rfl⟩
 rw [if_neg h2];go_enter Tryz.func130,Tryz.ntmps130;go_wp2_with (go_at_call 146;refine(DX _ _).mono ?_;rintro e w' ⟨rfl,rfl⟩);go_ret;exact⟨rfl,rfl⟩
theorem Q6 (x y:Int × Int) (W:World):Calls Tryz.prog 129 #[.agg #[.int .i32 x.1,.int .i32 x.2],.agg #[.int .i32 y.1,.int .i32 y.2]] W fun e w'=>e=.returned (.int .i64 (kJ x y))∧∃ q os',w'=Sort.grow (W.drewN q) os':=by
 have J8:=fun W'=>Lz x.1 y.1 W';unfold kJ;generalize Lib.compareInt x.1 y.1=r at J8 ⊢;go_enter Tryz.func129,Tryz.ntmps129;go_wp2_with (go_at_call 130;refine(J8 _).mono ?_;rintro e w' ⟨rfl,rfl⟩);go_ret;exact⟨rfl,0,_,by rw [Sort.alloc_eq_grow,Sort.alloc_eq_grow,Sort.grow_grow];rfl⟩
theorem NH (blk off size:Nat) (w:World):CmpLays Tryz.prog 129 #[] mj 2 kJ blk off size w:=fun _ _ _ _ x y=>Q6 x y _
theorem mQ (l:ag) (t:Nat) (h:t<l.length*2):(ak l)[t]? = some ((mj (l.toArray[t / 2]!))[t % 2]!):=by
 have hk:t / 2<l.length:=(by omega);obtain⟨⟨x,y⟩,hx⟩:∃ z,l[t / 2]? = some z:=⟨_,List.getElem?_eq_getElem hk⟩;obtain⟨c0,c1⟩:=jF l (t / 2) x y hx;have hg:l.toArray[t / 2]! =(x,y):=by
  rw [getElem!_pos l.toArray (t / 2) (by simpa using hk)];simp only [List.getElem_toArray];exact(List.getElem?_eq_some_iff.1 hx).2
 rw [hg];rcases Nat.mod_two_eq_zero_or_one t with h0 | h0
 ·rw [h0];have e:t=t / 2*2:=(by omega);rw [← e]at c0;exact c0
 rw [h0];have e:t=t / 2*2+1:=(by omega);rw [← e]at c1;exact c1
theorem zm {l:ag} {n:Nat} {d':Array (Int × Int)} (hn:l.length=n) (hp:Sort.PermIn 0 n l.toArray d') (hs:Sort.SortedIn (ltOf kJ) 0 n d') :
    d'.size=n∧l.Perm d'.toList∧d'.toList.Pairwise (fun a b=>a.1≤b.1):=by
 obtain⟨h1,_,h3⟩:=hp;have hsz:d'.size=n:=(by rw [h1];simpa using hn);have e1:(d'.extract 0 n).toList=d'.toList:=(by rw [← hsz];simp);have e2:(l.toArray.extract 0 n).toList=l:=(by rw [← hn];simp);rw [e1,e2]at h3;refine⟨hsz,h3.symm,List.pairwise_iff_getElem.2 fun i j hi hj hij=>?_⟩;have hi':i<d'.size:=(by simpa using hi);have hj':j<d'.size:=(by simpa using hj);have:=hs i j (Nat.zero_le _) hij (by omega);rw [zL,getElem!_pos d' i hi',getElem!_pos d' j hj',decide_eq_false_iff_not]at this;simp only [Array.getElem_toList];omega
theorem oE (w:World) (g m:Nat) (dk:Array (Int × Int)) (os:Array Obj):aZ w g (sortWorldK mj 2 w g 0 m dk os):=by
 unfold sortWorldK Sort.putRowK Sort.putRow Sort.mapBlock Sort.grow Sort.ahead;refine⟨by simp,rfl,rfl,rfl,fun k hk hne=>?_⟩;simp only;rw [Array.getElem?_append_left (by simpa using hk),Array.getElem?_modify,if_neg (Ne.symm hne)]
theorem DS (g n c base:Nat) (l:ag) (w:World) (hn:n≤100000) (hl:l.length=n) (ho:w.ownsRow base 82 2 (.slice (some ⟨g,0,none⟩) n c) n (ak l)) :
    Calls Tryz.prog 128 #[.slice (some ⟨g,0,none⟩) n c,.func (.func 129) #[] #[]] w fun e w'=>e=.returned (.tuple #[])∧aZ w g w' ∧
      ∃ l',l.Perm l'∧l'.Pairwise (fun a b=>a.1≤b.1)∧lR w' w'.heap.size (some ⟨g,0,none⟩) n l':=by
 have hg:=(aU ho rfl).2;have hH:Sort.HoldsK mj 2 w g 0 l.toArray:=by
  intro j hj;rw [Sort.size_flatK]at hj;have hj2:j<l.length*2:=(by simpa using hj);rw [Sort.get_flatK _ _ _ _ (by simpa using hj2),Nat.zero_add];refine⟨?_,ho.frozenAt _⟩;rw [ho.cellAt _ (by omega)];exact mQ l j hj2
 have hsz:l.toArray.size=n:=(by simpa using hl);have eg:∀ args w,(callFunc 129 args).run Tryz.prog w=.ok (.enter 129 args) w:=enters_of Tryz.func129 (by kernel_rfl) rfl;have J8:=AnyQ.slices_SortFunc Tryz.sortSpan 2 Tryz.isAgg82 Tryz.sizeOf82 mj (fun _=>rfl) (fun x v hv=>by simp [mj]at hv;rcases hv with rfl | rfl <;> rfl) kJ Nt 129 #[] g 0 c l.toArray w eg (NH g 0 _ w) hH hg (by rw [hsz];omega);rw [hsz]at J8;refine Calls.mono J8 ?_;rintro e w' ⟨rfl,d',m,os,hp,hs,rfl⟩;obtain⟨h1,h2,h3⟩:=zm hl hp hs;refine⟨rfl,oE _ _ _ _ _,d'.toList,h2,h3,⟨by rw [bA];simp [h1],fun h0=>⟨g,0,rfl,Nat.lt_of_lt_of_le hg (oE w g m d' os).1,fun j u hu=>?_⟩⟩⟩;have hj:j<d'.toList.length*2:=(by have:=(List.getElem?_eq_some_iff.1 hu).1;rwa [bA]at this);rw [mQ _ j hj]at hu;have hK:=holdsK_sortWorldK_c mj 2 w g 0 l.toArray d' m os hH hg (by rw [h1,hsz]);have:=(hK j (by rw [Sort.size_flatK];simpa using hj)).1;rw [Sort.get_flatK _ _ _ _ (by simpa using hj)]at this;rw [this];simpa using hu
theorem LZ (w:World) :
    Calls Tryz.prog 128 #[.slice none 0 0,.func (.func 129) #[] #[]] w fun e w'=>e=.returned (.tuple #[])∧w'=w:=by
 have H1:=qqh (show Calls Tryz.prog 153 #[.slice none 0 0,.int .i64 0,.int .i64 0,.func (.func 129) #[] #[]] w fun e w'=>e=.returned (.tuple #[])∧w'=w by
  go_enter Tryz.func153,Tryz.ntmps153;go_wp2_with fail;go_loopw [8] (fun i wr=>i=.int .i64 1∧wr=w) (fun _ _=>0);(case atStart=>exact⟨rfl,rfl⟩);obtain⟨rfl,rfl⟩:=hrel;go_wp2_with fail;go_end0;exact⟨rfl,rfl⟩)
 have H2:=qqh (fun(x:Int)=>show Calls Tryz.prog 144 #[.slice none 0 0,.int .i64 0,.int .i64 0,.int .i64 x,.func (.func 129) #[] #[]] w fun e w'=>e=.returned (.tuple #[])∧w'=w by
  go_enter Tryz.func144,Tryz.ntmps144;go_wp2_with fail;go_loopw [1,2,3] (fun a b c wr=>a=.int .i64 0∧b=.int .i64 0∧c=.int .i64 x∧wr=w) (fun _ _ _ _=>0);(case atStart=>exact⟨rfl,rfl,rfl,rfl⟩);obtain⟨rfl,rfl,rfl,rfl⟩:=hrel;go_wp2_with fail;refine H1.out.mono ?_;rintro e w1 ⟨rfl,rfl⟩;go_wp2_with fail;(try simp only [Exit.inBlock,Exit.then]);refine bodyPost_ret (results_none rfl _ _ _) rfl ?_;exact⟨rfl,rfl⟩)
 have H3:=qqh (show Calls Tryz.prog 145 #[.int .u64 0] w fun e w'=>e=.returned (.int .i64 (Lib.bitLen 0:Nat))∧w'=w from Tryz.bits_Len 0 w (by decide) (by decide));go_enter Tryz.func128,Tryz.ntmps128;go_wp2_with (first | (go_at_call 145;refine H3.out.mono ?_;rintro e w1 ⟨rfl,rfl⟩) | (go_at_call 144;refine(H2.out _).mono ?_;rintro e w1 ⟨rfl,rfl⟩));go_end0;exact⟨rfl,rfl⟩
def bQ (w:World) (r:ag × Int) (e:Ending) (w':World):Prop:=∃ A' n' c',e=.returned (.tuple #[.slice A' n' c',.int .i64 r.2])∧cy w' (fun b=>w.heap.size≤b) 2 A' n' (ak r.1)∧n'≤200∧n'≤c'∧Below w.heap.size w w'
theorem bQ.uL {w w1:World} {A:Option Addr} {n c:Nat} {s:ag} {e:Ending} {w':World} (h1:cy w1 (fun b=>w.heap.size≤b) 2 A n (ak s)) (hc:n≤c) (hb:Below w.heap.size w w1)
    (he:e=.returned (if 200<n then .tuple #[.slice none 0 0,.int .i64 5]else .tuple #[.slice A n c,.int .i64 0])∧w'=w1):bQ w (sQ s) e w':=by
 obtain⟨rfl,rfl⟩:=he;have hl:s.length=n:=(by have:=h1.1;rw [bA]at this;omega);unfold sQ;rw [hl];by_cases h:200<n
 ·rw [if_pos h,if_pos h];exact⟨none,0,0,rfl,⟨rfl,fun h=>absurd h (by omega)⟩,by omega,by omega,hb⟩
 rw [if_neg h,if_neg h];exact⟨A,n,c,rfl,h1,by omega,hc,hb⟩
theorem cy.lift {w:World} {X X':Nat→Prop} {sz n:Nat} {A:Option Addr} {xs:List Value} (h:cy w X sz A n xs) (hX:∀ b,X b→X' b):cy w X' sz A n xs:=h.keep (aa.refl hX)
def Wa (w:World) (n:Nat) (i:Value) (wr:World):Prop:=∃ j:Nat,j≤n∧i=.int .i64 j∧Below w.heap.size w wr
def Qi (w:World) (l:ag) (e:Ending) (w':World):Prop:=∃ l',l.Perm l'∧l'.Pairwise (fun a b=>a.1≤b.1)∧bQ w (sQ (iB l')) e w'
theorem M0 (A:Option Addr) (n c:Nat) (l:ag) (w:World) (hn:n≤1000) (hr:nM l) (hl:lR w w.heap.size A n l) :
    Calls Tryz.prog 111 #[.slice A n c] w (Qi w l):=by
 have aS:=qqh hl.len;have HL:=qqh hl;have HR:=qqh hr;clear hl hr;go_enter Tryz.func111,Tryz.ntmps111;go_wp2_with fail;go_loopw [9] (Wa w n) (fun i _=>n - (intOf i).toNat);(case atStart=>exact⟨0,Nat.zero_le _,rfl,Below.refl _ _⟩);obtain⟨j,hj,rfl,hb⟩:=hrel;have hz:=hb.size;by_cases hlt:j<n
 ·obtain⟨⟨x,y⟩,hx⟩:∃ z,l[j]? = some z:=⟨_,List.getElem?_eq_getElem (by rw [aS.out];exact hlt)⟩;obtain⟨b,off,rfl,dL,c0,c1⟩:=HL.out.at hx;have d0:=(hb.cell (p:=⟨b,off+j*2,none⟩) dL).trans c0;have d1:=(hb.cell (p:=⟨b,off+j*2+1,none⟩) dL).trans c1;have hxy:=HR.out (x,y) (List.mem_of_getElem? hx);simp only at hxy;have bR:=qqh (hb.alloc hz (.cells #[.int .i32 x,.int .i32 y] 82));have g1:decide (x<0)=false:=decide_eq_false (by omega);have g2:decide (1114111<y)=false:=decide_eq_false (by omega);have g3:decide (y<x)=false:=decide_eq_false (by omega);clear hx c0 c1 hb;go_wp2_with fail;exact⟨⟨j+1,by omega,by go_num,bR.out⟩,by simp [intOf];omega⟩
 obtain rfl:j=n:=(by omega);have tU:=qqh (Cq A j c l wr (by omega) ((Rd.below HL.out hb).more hz));have HB:=qqh hb;clear hb;go_wp2_with fail;refine tU.out.mono ?_;rintro e w1 ⟨⟨v,rfl,ho⟩,aT⟩;have bR:=qqh (HB.out.trans (aT.mono hz));have yD:=qqh (lJ ho hz);clear aT tU;have HWL:=qqh (aJ ho);rcases ho.2 with ⟨rfl,hn0⟩ | ⟨g,cap,cur,rfl,hg,hh,UF⟩
 ·obtain rfl:j=0:=hn0;have C':l = []:=List.eq_nil_of_length_eq_zero aS.out;subst C';clear ho HWL;go_wp2_with fail;refine(LZ _).mono ?_;rintro e w2 ⟨rfl,rfl⟩;have HM:=qqh (sA none 0 0 [] w2 (by omega) (by intro x hx;simp at hx) Rd.nil);go_wp2_with fail;refine HM.out.mono ?_;rintro e w3 ⟨A3,n3,c3,rfl,kH,Sv,kR,bJ⟩;have bN:=qqh (bR.out.trans (bJ.mono bR.out.size));have HP:=qqh (fun(e:Ending) (w':World) h=>show bQ w (sQ (iB [])) e w' from bQ.uL (kH.lift (X':=fun b=>w.heap.size≤b) (fun _ h=>Nat.le_trans bR.out.size h)) kR bN.out h);clear kH bJ;go_wp2_with fail;refine(mT A3 n3 c3 w3).mono ?_;rintro e w4 he;obtain⟨A5,n5,c5,rfl,h5⟩:=HP.out e w4 he;have H5:=qqh h5;clear h5 he HP;go_wp2_with fail;go_ret2;exact⟨[],List.Perm.nil,List.Pairwise.nil,A5,n5,c5,rfl,H5.out⟩
 have HS:=qqh (DS g j cap w.heap.size l w1 (by omega) aS.out yD.out);have RM:=qqh (Nat.le_trans hz hg);clear ho HWL UF hh hg;go_wp2_with fail;refine HS.out.mono ?_;rintro e w2 ⟨rfl,lZ,l',hp,VE,hrd⟩;have bt:=qqh (bR.out.trans (lZ.to bR.out.size RM.out));have gM:=qqh (show nM l' from fun x hx=>HR.out x (hp.mem_iff.2 hx));have HP:=qqh hp;have Jv:=qqh VE;have HM:=qqh (sA (some ⟨g,0,none⟩) j cap l' w2 (by omega) gM.out hrd);clear lZ hp VE hrd HS;go_wp2_with fail;refine HM.out.mono ?_;rintro e w3 ⟨A3,n3,c3,rfl,kH,Sv,kR,bJ⟩;have bN:=qqh (bt.out.trans (bJ.mono bt.out.size));have HT:=qqh (fun(e:Ending) (w':World) h=>show bQ w (sQ (iB l')) e w' from bQ.uL (kH.lift (X':=fun b=>w.heap.size≤b) (fun _ h=>Nat.le_trans bt.out.size h)) kR bN.out h);clear kH bJ;go_wp2_with fail;refine(mT A3 n3 c3 w3).mono ?_;rintro e w4 he;obtain⟨A5,n5,c5,rfl,h5⟩:=HT.out e w4 he;have H5:=qqh h5;clear h5 he HT;go_wp2_with fail;go_ret2;exact⟨l',HP.out,Jv.out,A5,n5,c5,rfl,H5.out⟩
structure bU (w:World) (A:Option Addr) (n c:Nat) (s:ag):Prop where
  right:aG s
  rd:lR w w.heap.size A n s
  cap:n≤c
theorem bU.below {w w':World} {A:Option Addr} {n c:Nat} {s:ag} (h:bU w A n c s) (hb:Below w.heap.size w w'):bU w' A n c s:=⟨h.right,(Rd.below h.rd hb).more hb.size,h.cap⟩
theorem bU.le {w:World} {A:Option Addr} {n c:Nat} {s:ag} (h:bU w A n c s):n≤200:=by have:=h.rd.len;have:=h.right.size;omega
theorem bU.PE {w:World} {A:Option Addr} {n c:Nat} {s:ag} (h:bU w A n c s):mc w CZ s [.slice A n c] :=
  ⟨_,rfl,A,n,c,rfl,cy.FF h.rd (Nat.le_refl _) (fun _ _=>trivial),by have:=h.le;simp only [maxLen];omega⟩
theorem KJ {w:World} {A:Option Addr} {n c:Nat} {s:ag} (h:bU w A n c s) :
    bh (mc (w.alloc (.cells #[.slice A n c] 24)) CZ) (w.alloc (.cells #[.slice A n c] 24)) CZ 1 (some ⟨w.heap.size,0,none⟩) 1 [s]:=by
 have hb:=(Below.refl w.heap.size w).alloc (Nat.le_refl _) (.cells #[.slice A n c] 24);refine⟨[[.slice A n c]],rfl,rfl,?_,by simp,cy.new 24 [.slice A n c] rfl trivial⟩;intro i a cs ha hc;rcases i with _ | i
 ·simp at ha hc;subst ha hc;exact(h.below hb).PE
 simp at ha
theorem KY {w:World} {A B:Option Addr} {n c m d:Nat} {a b:ag} (ha:bU w A n c a) (hb:bU w B m d b) :
    bh (mc (w.alloc (.cells #[.slice A n c,.slice B m d] 24)) CZ) (w.alloc (.cells #[.slice A n c,.slice B m d] 24)) CZ 1 (some ⟨w.heap.size,0,none⟩) 2 [a,b]:=by
 have eD:=(Below.refl w.heap.size w).alloc (Nat.le_refl _) (.cells #[.slice A n c,.slice B m d] 24);refine⟨[[.slice A n c],[.slice B m d]],rfl,rfl,?_,by simp,cy.new 24 [.slice A n c,.slice B m d] rfl trivial⟩;intro i x cs hx hc;match i with
 | 0=>simp at hx hc;subst hx hc;exact(ha.below eD).PE
 | 1=>simp at hx hc;subst hx hc;exact(hb.below eD).PE
 | i+2=>simp at hx
theorem uA {w:World} {A:Option Addr} {n c:Nat} {s:ag} (h:bU w A n c s) :
    Calls Tryz.prog 55 #[.slice (some ⟨w.heap.size,0,none⟩) 1 1] (w.alloc (.cells #[.slice A n c] 24)) fun e w'=>e=.returned (.int .i64 0)∧Below w.heap.size w w' :=
  (vv CZ [s] _ 1 1 _ (by decide) (by simpa using h.right) (KJ h)).mono fun _ _ ⟨he,hb⟩=>⟨he,((Below.refl _ _).alloc (Nat.le_refl _) _).trans (hb.mono (by simp))⟩
theorem ko {w:World} {A B:Option Addr} {n c m d:Nat} {a b:ag} (ha:bU w A n c a) (hb:bU w B m d b) :
    Calls Tryz.prog 55 #[.slice (some ⟨w.heap.size,0,none⟩) 2 2] (w.alloc (.cells #[.slice A n c,.slice B m d] 24)) fun e w'=>e=.returned (.int .i64 0)∧Below w.heap.size w w' :=
  (vv CZ [a,b] _ 2 2 _ (by decide) (by simpa using ⟨ha.right,hb.right⟩) (KY ha hb)).mono fun _ _ ⟨he,hb⟩=>⟨he,((Below.refl _ _).alloc (Nat.le_refl _) _).trans (hb.mono (by simp))⟩
theorem sZ {w:World} {A B:Option Addr} {n c m d:Nat} {a b:ag} (ha:bU w A n c a) (hb:bU w B m d b) :
    Calls Tryz.prog 112 #[.slice (some ⟨w.heap.size,0,none⟩) 2 2] (w.alloc (.cells #[.slice A n c,.slice B m d] 24)) fun e w'=>
      ∃ A' c' k,e=.returned (.slice A' k c')∧k≤1000∧lR w' w'.heap.size A' k (a++b)∧Below w.heap.size w w':=by
 have eD:=(Below.refl w.heap.size w).alloc (Nat.le_refl _) (.cells #[.slice A n c,.slice B m d] 24);have hf : [a,b].flatten=a++b:=(by simp)
 have h:=zf [a,b] [.slice A n c,.slice B m d] (some ⟨w.heap.size,0,none⟩) 2 2 (w.alloc (.cells #[.slice A n c,.slice B m d] 24)) rfl
   (by have:=Rd.new w 24 1 2 [.slice A n c,.slice B m d] rfl;simpa using this)
   (by
     intro i l u hl hu
     match i with
     | 0=>simp at hl hu;subst hl hu;exact⟨A,n,c,rfl,(ha.below eD).rd⟩
     | 1=>simp at hl hu;subst hl hu;exact⟨B,m,d,rfl,(hb.below eD).rd⟩
     | i+2=>simp at hl)
   (by rw [hf,List.length_append];have:=ha.right.size;have:=hb.right.size;omega) (by decide)
 rw [hf]at h;refine h.mono ?_;rintro e w' ⟨⟨v,rfl,ho⟩,aT⟩;obtain⟨A',c',rfl,_⟩:=aJ ho;exact⟨A',c',_,rfl,by rw [List.length_append];have:=ha.right.size;have:=hb.right.size;omega,Rd.cj ho,eD.trans (aT.mono (by simp))⟩
theorem oM (A B:Option Addr) (n c m d:Nat) (a b:ag) (w:World) (ha:bU w A n c a) (hb:bU w B m d b) :
    Calls Tryz.prog 95 #[.slice A n c,.slice B m d] w (bQ w (mF 124 a b)):=by
 have HA:=qqh ha;have HB:=qqh hb;clear ha hb;go_enter Tryz.func95,Tryz.ntmps95;go_wp2_with fail;refine(ko HA.out HB.out).mono ?_;rintro e w1 ⟨rfl,aT⟩;have oo:=qqh (HA.out.below aT);have bR:=qqh (HB.out.below aT);have wG:=qqh aT;clear aT;go_wp2_with fail;refine(sZ oo.out bR.out).mono ?_;rintro e w2 ⟨A2,c2,k,rfl,hlen,hrd,aQ⟩;have KF:=qqh (wG.out.trans (aQ.mono wG.out.size));have HO:=qqh (M0 A2 k c2 (a++b) w2 hlen (fun x hx=>by
  rcases List.mem_append.1 hx with h | h;exact HA.out.right.each x h;exact HB.out.right.each x h) hrd)
 clear hrd aQ;go_wp2_with fail;refine HO.out.mono ?_;rintro e w3 ⟨l',hp,VE,A3,n3,c3,rfl,h1,h2,h3,h4⟩;rw [← Lr HA.out.right HB.out.right hp VE]at h1 ⊢;have H1:=qqh (h1.lift (X':=fun b=>w.heap.size≤b) (fun _ h=>Nat.le_trans KF.out.size h));have H4:=qqh (KF.out.trans (h4.mono KF.out.size));clear h1 h4 hp VE HO;go_wp2_with fail;go_ret2;exact⟨A3,n3,c3,rfl,H1.out,h2,h3,H4.out⟩
theorem wW (A B:Option Addr) (n c m d:Nat) (a b:ag) (w:World) (ha:bU w A n c a) (hb:bU w B m d b) :
    Calls Tryz.prog 91 #[.slice A n c,.slice B m d] w (bQ w (mF 38 a b)):=by
 have HA:=qqh ha;have HB:=qqh hb;clear ha hb;rw [M8 HA.out.right HB.out.right];go_enter Tryz.func91,Tryz.ntmps91;go_wp2_with fail;refine(ko HA.out HB.out).mono ?_;rintro e w1 ⟨rfl,aT⟩;have HM:=qqh (yI A B n m c d a b w1 (by have:=HA.out.le;have:=HB.out.le;omega) HA.out.cap HB.out.cap HA.out.right.canon HB.out.right.canon (HA.out.below aT).rd (HB.out.below aT).rd);have wG:=qqh aT;clear aT;go_wp2_with fail;refine HM.out.mono ?_;rintro e w3 ⟨A3,n3,c3,rfl,kH,Sv,kR,bJ⟩;have bN:=qqh (wG.out.trans (bJ.mono wG.out.size));have HT:=qqh (fun(e:Ending) (w':World) h=>show bQ w (sQ (dz a b)) e w' from bQ.uL (kH.lift (X':=fun b=>w.heap.size≤b) (fun _ h=>Nat.le_trans wG.out.size h)) kR bN.out h);clear kH bJ;go_wp2_with fail;refine(mT A3 n3 c3 w3).mono ?_;rintro e w4 he;obtain⟨A5,n5,c5,rfl,h5⟩:=HT.out e w4 he;have H5:=qqh h5;clear h5 he HT;go_wp2_with fail;go_ret2;exact⟨A5,n5,c5,rfl,H5.out⟩
theorem EY (A B:Option Addr) (n c m d:Nat) (a b:ag) (w:World) (ha:bU w A n c a) (hb:bU w B m d b) :
    Calls Tryz.prog 97 #[.slice A n c,.slice B m d] w (bQ w (mF 45 a b)):=by
 have HA:=qqh ha;have HB:=qqh hb;clear ha hb;rw [Ka HA.out.right HB.out.right];go_enter Tryz.func97,Tryz.ntmps97;go_wp2_with fail;refine(ko HA.out HB.out).mono ?_;rintro e w1 ⟨rfl,aT⟩;have oo:=qqh (HA.out.below aT);have HN:=qqh (AJ B m d b w1 HB.out.le HB.out.right (HB.out.below aT).rd);have wG:=qqh aT;clear aT;go_wp2_with fail;refine HN.out.mono ?_;rintro e w2 ⟨A2,n2,c2,rfl,hJ,hn2,hc2,aQ⟩;have bt:=qqh (wG.out.trans (aQ.mono wG.out.size));have HM:=qqh (yI A A2 n n2 c c2 a (uD b) w2 (by have:=HA.out.le;omega) HA.out.cap hc2 HA.out.right.canon (zM HB.out.right.canon).1 (oo.out.below aQ).rd hJ.of);clear hJ aQ;go_wp2_with fail;refine HM.out.mono ?_;rintro e w3 ⟨A3,n3,c3,rfl,kH,Sv,kR,bJ⟩;have bN:=qqh (bt.out.trans (bJ.mono bt.out.size));have HT:=qqh (fun(e:Ending) (w':World) h=>show bQ w (sQ (dz a (uD b))) e w' from bQ.uL (kH.lift (X':=fun b=>w.heap.size≤b) (fun _ h=>Nat.le_trans bt.out.size h)) kR bN.out h);clear kH bJ;go_wp2_with fail;refine(mT A3 n3 c3 w3).mono ?_;rintro e w4 he;obtain⟨A5,n5,c5,rfl,h5⟩:=HT.out e w4 he;have H5:=qqh h5;clear h5 he HT;go_wp2_with fail;go_ret2;exact⟨A5,n5,c5,rfl,H5.out⟩
theorem yS (A:Option Addr) (n c:Nat) (a b:ag) (w:World) (ha:bU w A n c a) :
    Calls Tryz.prog 99 #[.slice A n c] w (bQ w (mF 94 a b)):=by
 have HA:=qqh ha;clear ha;rw [K5 HA.out.right b];go_enter Tryz.func99,Tryz.ntmps99;go_wp2_with fail;refine(uA HA.out).mono ?_;rintro e w1 ⟨rfl,aT⟩;have HN:=qqh (AJ A n c a w1 HA.out.le HA.out.right (HA.out.below aT).rd);have wG:=qqh aT;clear aT;go_wp2_with fail;refine HN.out.mono ?_;rintro e w3 ⟨A3,n3,c3,rfl,kH,Sv,kR,bJ⟩;have bN:=qqh (wG.out.trans (bJ.mono wG.out.size));have HT:=qqh (fun(e:Ending) (w':World) h=>show bQ w (sQ (uD a)) e w' from bQ.uL (kH.lift (X':=fun b=>w.heap.size≤b) (fun _ h=>Nat.le_trans wG.out.size h)) kR bN.out h);clear kH bJ;go_wp2_with fail;refine(mT A3 n3 c3 w3).mono ?_;rintro e w4 he;obtain⟨A5,n5,c5,rfl,h5⟩:=HT.out e w4 he;have H5:=qqh h5;clear h5 he HT;go_wp2_with fail;go_ret2;exact⟨A5,n5,c5,rfl,H5.out⟩
theorem cK (w:World) (C:Nat) (A:Option Addr) (n c:Nat) (L:List Int) (i:Nat) (h:ay w C A n c L i) :
    Calls Tryz.prog 41 #[.pointer (some ⟨C,0,none⟩)] w fun e w'=>e=.returned (.int .i32 (pk L i))∧ay w' C A n c L i∧aZ w C w' :=
  (lE w C A n c L i h).mono fun e w' ⟨he,m,hw⟩=>⟨he,by rw [hw];exact h.drewN m,by rw [hw];exact aZ.drewN w C m⟩
theorem lB (w:World) (C:Nat) (A:Option Addr) (n c:Nat) (L:List Int) (i k:Nat) (h:ay w C A n c L i) (hk:k≤1000) :
    Calls Tryz.prog 67 #[.pointer (some ⟨C,0,none⟩),.int .i64 k] w fun e w'=>e=.returned (.int .i32 (pk L (i+k)))∧ay w' C A n c L i∧aZ w C w' :=
  (BH w C A n c L i k h hk).mono fun e w' ⟨he,m,hw⟩=>⟨he,by rw [hw];exact h.drewN m,by rw [hw];exact aZ.drewN w C m⟩
def eo (w:World) (C:Nat) (A:Option Addr) (n c:Nat) (L:List Int) (r:jP ag) (e:Ending) (w':World):Prop :=
  match r with
  | .ok (s,j)=>(∃ B m d,e=.returned (.slice B m d)∧cy w' (fun b=>w.heap.size≤b) 2 B m (ak s)∧m≤d)∧ay w' C A n c L j∧aZ w C w'
  | .error (x,p)=>e=aW x p∧aZ w C w'
def jA (L:List Int) (i:Nat):jP ag:=match iZ L i with
  | .error e=>.error e
  | .ok (x,j)=>.ok ([x],j)
theorem Ln {L:List Int} {i:Nat} {e:Int × Nat} (h:cT L i=.error e):jA L i=.error e:=by unfold jA iZ;rw [h]
theorem yK {L:List Int} {i j:Nat} {x:Int} (h:cT L i=.ok (x,j)) (h2:¬(pk L j=45∧pk L (j+1)≠91)):jA L i=.ok ([(x,x)],j):=by unfold jA iZ;rw [h];simp only;rw [if_neg h2]
theorem Ju {L:List Int} {i j:Nat} {x:Int} {e:Int × Nat} (h:cT L i=.ok (x,j)) (h2:pk L j=45∧pk L (j+1)≠91) (h3:cT L (j+1)=.error e):jA L i=.error e:=by
 unfold jA iZ;rw [h];simp only;rw [if_pos h2,h3]
theorem Ko {L:List Int} {i j k:Nat} {x y:Int} (h:cT L i=.ok (x,j)) (h2:pk L j=45∧pk L (j+1)≠91) (h3:cT L (j+1)=.ok (y,k)) (h4:y<x):jA L i=.error (3,j+1):=by
 unfold jA iZ;rw [h];simp only;rw [if_pos h2,h3];simp only;rw [if_pos h4]
theorem IE {L:List Int} {i j k:Nat} {x y:Int} (h:cT L i=.ok (x,j)) (h2:pk L j=45∧pk L (j+1)≠91) (h3:cT L (j+1)=.ok (y,k)) (h4:¬ y<x):jA L i=.ok ([(x,y)],k):=by
 unfold jA iZ;rw [h];simp only;rw [if_pos h2,h3];simp only;rw [if_neg h4]
theorem qS {w W:World} {C:Nat} {A:Option Addr} {n c:Nat} {L:List Int} {j:Nat} (x y:Int) (h:ay W C A n c L j) (hb:aZ w C W) :
    eo w C A n c L (.ok ([(x,y)],j)) (.returned (.slice (some ⟨W.heap.size,0,none⟩) 1 1)) (W.alloc (.cells #[.int .i32 x,.int .i32 y] 82)) :=
  ⟨⟨_,1,1,rfl,cy.new 82 [.int .i32 x,.int .i32 y] rfl hb.1,Nat.le_refl _⟩,h.below ((Below.refl _ _).alloc (Nat.le_refl _) _),hb.trans (aZ.below C ((Below.refl _ _).alloc (Nat.le_refl _) _))⟩
theorem LB (w:World) (C:Nat) (A:Option Addr) (n c:Nat) (L:List Int) (i:Nat) (h:ay w C A n c L i) (hL:fN L) :
    Calls Tryz.prog 98 #[.pointer (some ⟨C,0,none⟩)] w (eo w C A n c L (jA L i)):=by
 have hs:=h.size;have hlen:=h.len;have HC:=qqh h;have gD:=qqh (fun(W:World) (k:Nat) (h:ay W C A n c L k)=>cK W C A n c L k h);have My:=qqh (fun(W:World) (k:Nat) (h:ay W C A n c L k)=>lB W C A n c L k 1 h (by decide));have EK:=qqh (fun(W:World) (k:Nat) (h:ay W C A n c L k)=>B8 W C A n c L k h hL);have Ll:=qqh hL.ok;clear h hL;obtain⟨R,hR⟩:∃ R,jA L i=R:=⟨_,rfl⟩;rw [hR];have fO:=qqh hR;clear hR;have H1:=qqh (EK.out w i HC.out);cases h1:cT L i with
 | error e0=>
  obtain⟨x,p⟩:=e0;rw [h1]at H1;have HR:=qqh (fO.out.symm.trans (Ln h1));clear h1;go_enter Tryz.func98,Tryz.ntmps98;go_wp2_with fail;refine H1.out.mono ?_;rintro e w5 ⟨he,hb⟩;unfold aW at he;subst he;have cZ:=qqh hb;clear hb;go_wp2_with fail;rw [HR.out];exact⟨rfl,rfl,cZ.out⟩
 | ok q=>
  obtain⟨x,j⟩:=q;rw [h1]at H1;have iJ:=qqh h1;obtain⟨_,hx0,hx1⟩:=mK Ll.out h1;clear h1;by_cases hd:pk L j=45
  ·have CO:j<n:=(by rw [← hlen];exact bu (by omega));have ri:=qqh (fun(W:World) (h:ay W C A n c L j)=>show Calls Tryz.prog 41 #[.pointer (some ⟨C,0,none⟩)] W fun e w'=>e=.returned (.int .i32 45)∧ay w' C A n c L j∧aZ W C w' by have:=gD.out W j h;rwa [hd]at this);by_cases hb:pk L (j+1)=91
   ·have HR:=qqh (fO.out.symm.trans (yK iJ.out (fun h=>h.2 hb)));have Kx:=qqh (fun(W:World) (h:ay W C A n c L j)=>show Calls Tryz.prog 67 #[.pointer (some ⟨C,0,none⟩),.int .i64 1] W fun e w'=>e=.returned (.int .i32 91)∧ay w' C A n c L j∧aZ W C w' by have:=My.out W j h;rwa [hb]at this);clear hd hb;go_enter Tryz.func98,Tryz.ntmps98;go_wp2_with fail;refine H1.out.mono ?_;rintro e w5 ⟨rfl,hc,hb⟩;have tj:=qqh hc;have cZ:=qqh hb;clear hb hc;go_wp2_with fail;refine(ri.out _ tj.out).mono ?_;rintro e w6 ⟨rfl,hc,hb⟩;have GR:=qqh hc;have gG:=qqh (cZ.out.trans hb);clear hb hc;go_wp2_with fail;refine(Kx.out _ GR.out).mono ?_;rintro e w7 ⟨rfl,hc,hb⟩;have I9:=qqh hc;have jq:=qqh (gG.out.trans hb);clear hb hc;go_wp2_with fail;go_ret;rw [HR.out];exact qS x x I9.out jq.out
   have Kx:=qqh (fun(W:World) (h:ay W C A n c L j)=>My.out W j h);have hq:(pk L (j+1) != 91)=true:=(by simp;exact hb);have I8:=qqh (And.intro hd hb);generalize pk L (j+1)=r2 at hq Kx;have H2:=qqh (fun(W:World) (h:ay W C A n c L (j+1))=>EK.out W (j+1) h);have hcast:((j+1:Nat):Int)=(j:Int)+1:=(by omega);have hw1:IntKind.i64.wrap ((j:Int)+1)=(j:Int)+1:=wrap_small _ (by omega) (by omega);clear hd hb;cases h2:cT L (j+1)with
   | error e0=>
    obtain⟨x2,p2⟩:=e0;rw [h2]at H2;have HR:=qqh (fO.out.symm.trans (Ju iJ.out I8.out h2));clear h2;go_enter Tryz.func98,Tryz.ntmps98;go_wp2_with fail;refine H1.out.mono ?_;rintro e w5 ⟨rfl,hc,hb⟩;have tj:=qqh hc;have cZ:=qqh hb;clear hb hc;go_wp2_with fail;refine(ri.out _ tj.out).mono ?_;rintro e w6 ⟨rfl,hc,hb⟩;have GR:=qqh hc;have gG:=qqh (cZ.out.trans hb);clear hb hc;go_wp2_with fail;refine(Kx.out _ GR.out).mono ?_;rintro e w7 ⟨rfl,hc,hb⟩;have I9:=qqh hc;have jq:=qqh (gG.out.trans hb);clear hb hc;obtain⟨d1,d2,d3,d4⟩:=I9.out.step CO;have PN:=qqh d3;have vG:=qqh (jq.out.trans d4);clear d3 d4;go_wp2_with fail;refine(H2.out _ PN.out).mono ?_;rintro e w9 ⟨he,hb⟩;unfold aW at he;subst he;have eE:=qqh (vG.out.trans hb);clear hb;go_wp2_with fail;rw [HR.out];exact⟨rfl,rfl,eE.out⟩
   | ok q=>
    obtain⟨y,k⟩:=q;rw [h2]at H2;have lT:=qqh h2;obtain⟨_,hy0,hy1⟩:=mK Ll.out h2;clear h2;go_enter Tryz.func98,Tryz.ntmps98;go_wp2_with fail;refine H1.out.mono ?_;rintro e w5 ⟨rfl,hc,hb⟩;have tj:=qqh hc;have cZ:=qqh hb;clear hb hc;go_wp2_with fail;refine(ri.out _ tj.out).mono ?_;rintro e w6 ⟨rfl,hc,hb⟩;have GR:=qqh hc;have gG:=qqh (cZ.out.trans hb);clear hb hc;go_wp2_with fail;refine(Kx.out _ GR.out).mono ?_;rintro e w7 ⟨rfl,hc,hb⟩;have I9:=qqh hc;have jq:=qqh (gG.out.trans hb);clear hb hc;obtain⟨d1,d2,d3,d4⟩:=I9.out.step CO;have PN:=qqh d3;have vG:=qqh (jq.out.trans d4);clear d3 d4;go_wp2_with fail;refine(H2.out _ PN.out).mono ?_;rintro e w9 ⟨rfl,hc,hb⟩;have HC9:=qqh hc;have eE:=qqh (vG.out.trans hb);clear hb hc;by_cases hlt:y<x
    ·have HR:=qqh (fO.out.symm.trans (Ko iJ.out I8.out lT.out hlt));have HF:=qqh (fun(W:World)=>bT 3 ((j:Int)+1) W);go_wp2_with fail;refine(HF.out _).mono ?_;rintro e Pk ⟨rfl,rfl⟩;go_wp2_with fail;rw [HR.out];exact⟨rfl,by rw [aW,hcast],eE.out⟩
    have HR:=qqh (fO.out.symm.trans (IE iJ.out I8.out lT.out hlt));go_wp2_with fail;go_ret;rw [HR.out];exact qS x y HC9.out eE.out
  have HR:=qqh (fO.out.symm.trans (yK iJ.out (fun h=>hd h.1)));have hq:(pk L j == 45)=false:=(by simp;exact hd);go_enter Tryz.func98,Tryz.ntmps98;go_wp2_with fail;refine H1.out.mono ?_;rintro e w5 ⟨rfl,hc,hb⟩;have tj:=qqh hc;have cZ:=qqh hb;clear hb hc;go_wp2_with fail;refine(gD.out _ _ tj.out).mono ?_;rintro e w6 ⟨rfl,hc,hb⟩;have GR:=qqh hc;have gG:=qqh (cZ.out.trans hb);clear hb hc;go_wp2_with fail;go_ret;rw [HR.out];exact qS x x GR.out gG.out
theorem DQ {L:List Int} {f j:Nat} (h:pk L (aN L j)≠35):eN L (f+1) j=aN L j:=by rw [eN,if_neg h]
theorem GC {L:List Int} {f j:Nat} (h:pk L (aN L j)=35):eN L (f+1) j=eN L f (aC oH L (aN L j)):=by rw [eN,if_pos h]
theorem yJ (r:Int) (w:World) :
    Calls Tryz.prog 117 #[.int .i32 r] w fun e w'=>e=.returned (.bool (jN r))∧w'=w:=by
 go_enter Tryz.func117,Tryz.ntmps117;go_wp2;(all_goals go_ret);(all_goals refine⟨bD ?_,rfl⟩);(all_goals (rw [Bool.eq_iff_iff];simp [jN];try omega))
theorem jj (w:World) (C:Nat) (A:Option Addr) (n c:Nat) (L:List Int) (i:Nat) (h:ay w C A n c L i) :
    Calls Tryz.prog 40 #[.pointer (some ⟨C,0,none⟩)] w fun e w'=>e=.returned (.tuple #[])∧ay w' C A n c L (aB L i)∧aZ w C w':=by
 have hs:=h.size;have hl:=h.len;have HC:=qqh h;clear h;go_enter Tryz.func40,Tryz.ntmps40;go_wp2_with fail;go_loopw [2] (fun _ wr=>∃ f j:Nat,j≤n∧n+1≤f+j∧aB L i=eN L f j∧ay wr C A n c L j∧aZ w C wr) (fun _ wr=>n - (match wr.cell? ⟨C,1,none⟩with | some (.int _ j)=>j.toNat | _=>0));(case atStart=>exact⟨L.length+1,i,HC.out.le,by omega,rfl,HC.out,aZ.refl _ _⟩);obtain⟨f0,j,hj,hf,hsp,hc,hb⟩:=hrel;obtain⟨f,rfl⟩:∃ f,f0=f+1:=⟨f0 - 1,by omega⟩;have HJ:=qqh hc;have HB:=qqh hb;have pM:=qqh hsp;have nT:=qqh (hc.blk.cell 1);obtain⟨k,hk⟩:∃ k,aN L j=k:=⟨_,rfl⟩;have HK:=qqh hk;have hjk:j≤k:=(by rw [← hk];exact ef L j);have gD:=qqh (fun(W:World) (m:Nat) (h:ay W C A n c L m)=>cK W C A n c L m h);clear hc hb hsp;go_wp2_with fail;refine(ir wr C A n c L j HJ.out).mono ?_;rintro e w1 ⟨rfl,hc1,aT⟩;rw [hk]at hc1;have iJ:=qqh hc1;have bR:=qqh (HB.out.trans aT);clear hc1 aT hk;go_wp2_with fail;refine(gD.out _ k iJ.out).mono ?_;rintro e w2 ⟨rfl,hc2,aQ⟩;have lT:=qqh hc2;have bt:=qqh (bR.out.trans aQ);clear hc2 aQ;by_cases rG:pk L k=35
 ·have hlt:k<L.length:=bu (by omega);have qb:=qqh (show aB L i=eN L f (aC oH L k) by rw [pM.out,GC (by rw [HK.out];exact rG),HK.out]);have Pp:=qqh (show k+1≤aC oH L k by rw [dN hlt (by rw [rG];rfl)];exact eK _ _ _);have HLE:=qqh (show aC oH L k≤n by rw [← hl];exact(gT (Nat.le_of_lt hlt)).2);obtain⟨m0,hm0⟩:∃ m0,aC oH L k=m0:=⟨_,rfl⟩;rw [hm0]at qb Pp HLE;have HM:=qqh hm0;rw [rG];clear hm0 rG;go_wp2_with fail;go_loopw [11] (fun _ wy=>∃ m:Nat,k≤m∧m≤n∧m0=aC oH L m∧ay wy C A n c L m∧aZ w C wy) (fun _ wy=>n - (match wy.cell? ⟨C,1,none⟩with | some (.int _ j)=>j.toNat | _=>0));(case atStart=>exact⟨k,Nat.le_refl _,by omega,HM.out.symm,lT.out,bt.out⟩);obtain⟨m,hkm,hmn,hrun,Sy,R9⟩:=hrel;have Pr:=qqh Sy;have YJ:=qqh R9;have Yv:=qqh hrun;have QI:=qqh (Sy.blk.cell 1);clear Sy R9 hrun;cases hrem:oH (pk L m)with
  | true=>
   have aa2:m<L.length:=bu (fun e=>by rw [e]at hrem;exact absurd hrem (by decide));have Jg:=qqh (Yv.out.trans (dN aa2 hrem));have h0:0≤pk L m∧pk L m≠10:=(by simpa [oH] using hrem);have hg0:decide ((0:Int)≤pk L m)=true:=decide_eq_true h0.1;have hg1:(pk L m != 10)=true:=(by simp;exact h0.2);have hwm:IntKind.i64.wrap ((m:Int)+1)=(m:Int)+1:=wrap_small _ (by omega) (by omega);clear hrem h0;go_wp2_with fail;refine(gD.out _ m Pr.out).mono ?_;rintro e w3 ⟨rfl,kR,bJ⟩;have nZ:=qqh kR;have bN:=qqh (YJ.out.trans bJ);clear kR bJ;go_wp2_with fail;refine(gD.out _ m nZ.out).mono ?_;rintro e w4 ⟨rfl,kM,hb4⟩;have CD:=qqh kM;have ej:=qqh (bN.out.trans hb4);clear kM hb4;obtain⟨d1,d2,d3,d4⟩:=CD.out.step (by omega);have sV:=qqh d3;have cZ:=qqh (ej.out.trans d4);clear d3 d4;go_wp2_with fail;refine⟨⟨m+1,by omega,by omega,Jg.out,sV.out,cZ.out⟩,?_⟩;have e1:(w4.setCell ⟨C,1,none⟩ (.int .i64 ((m:Int)+1))).cell? ⟨C,1,none⟩=some (.int .i64 ((m+1:Nat):Int)):=sV.out.blk.cell 1;have e2:wr.cell? ⟨C,1,none⟩=some (.int .i64 (m:Int)):=QI.out;rw [e1,e2];simp only [Int.toNat_natCast];omega
  | false=>
   obtain rfl:m0=m:=Yv.out.trans (cJ (fun _=>hrem));have hor:pk L m0<0∨(0≤pk L m0∧pk L m0=10):=by
    simp [oH]at hrem;by_cases h:pk L m0<0;exact .inl h;exact .inr ⟨by omega,hrem (by omega)⟩
   have hge:=Pp.out;clear hrem Yv;rcases hor with h0 | ⟨_,h0⟩
   ·go_wp2_with fail;refine(gD.out _ m0 Pr.out).mono ?_;rintro e w3 ⟨rfl,kR,bJ⟩;have nZ:=qqh kR;have bN:=qqh (YJ.out.trans bJ);clear kR bJ;go_wp2_with fail;refine⟨⟨f,m0,hmn,by omega,qb.out,nZ.out,bN.out⟩,?_⟩;rw [nZ.out.blk.cell 1,nT.out];simp only [Int.toNat_natCast,List.getElem?_toArray,List.getElem?_cons_succ,List.getElem?_cons_zero];omega
   go_wp2_with fail;refine(cK _ C A n c L m0 Pr.out).mono ?_;rintro e w3 ⟨rfl,kR,bJ⟩;rw [h0];have nZ:=qqh kR;have bN:=qqh (YJ.out.trans bJ);clear kR bJ;go_wp2_with fail;refine(cK _ C A n c L m0 nZ.out).mono ?_;rintro e w4 ⟨rfl,kM,hb4⟩;rw [h0];have CD:=qqh kM;have ej:=qqh (bN.out.trans hb4);clear kM hb4;go_wp2_with fail;refine⟨⟨f,m0,hmn,by omega,qb.out,CD.out,ej.out⟩,?_⟩;rw [CD.out.blk.cell 1,nT.out];simp only [Int.toNat_natCast,List.getElem?_toArray,List.getElem?_cons_succ,List.getElem?_cons_zero];omega
 have Bd:=qqh (show aB L i=k by rw [pM.out,DQ (by rw [HK.out];exact rG),HK.out]);have hq:(pk L k != 35)=true:=(by simp;exact rG);clear rG;go_wp2_with fail;(try simp only [Exit.inBlock,Exit.then]);refine bodyPost_ret (results_none rfl _ _ _) rfl ?_;rw [Bd.out];exact⟨rfl,lT.out,bt.out⟩
def Kn {α:Type} (V:α→Value) (w:World) (C:Nat) (A:Option Addr) (n c:Nat) (L:List Int) (r:jP α) (e:Ending) (w':World):Prop :=
  match r with
  | .ok (d,j)=>e=.returned (V d)∧ay w' C A n c L j∧aZ w C w'
  | .error (x,p)=>e=aW x p∧aZ w C w'
theorem Jz (w:World) (C:Nat) (A:Option Addr) (n c:Nat) (L:List Int) (i:Nat) (h:ay w C A n c L i) :
    Calls Tryz.prog 73 #[.pointer (some ⟨C,0,none⟩)] w (Kn (Value.int .i64) w C A n c L (eJ L i)):=by
 have hs:=h.size;have hl:=h.len;have hle:=h.le;have HC:=qqh h;have gD:=qqh (fun(W:World) (m:Nat) (h:ay W C A n c L m)=>cK W C A n c L m h);have My:=qqh (fun(W:World) (h:ay W C A n c L i)=>lB W C A n c L i 1 h (by decide));have hw1:IntKind.i64.wrap ((i:Int)+1)=(i:Int)+1:=wrap_small _ (by omega) (by omega);have xP:IntKind.i64.wrap ((i:Int)+2)=(i:Int)+2:=wrap_small _ (by omega) (by omega);clear h;obtain⟨R,hR⟩:∃ R,eJ L i=R:=⟨_,rfl⟩;rw [hR];have fO:=qqh hR;clear hR;by_cases Hp:pk L i=62
 ·have gI:=qqh (show R=.ok (1,i+1) by rw [← fO.out];unfold eJ;rw [if_pos Hp]);have hlt:i<L.length:=bu (by omega);go_enter Tryz.func73,Tryz.ntmps73;go_wp2_with fail;refine(gD.out _ i HC.out).mono ?_;rintro e w1 ⟨rfl,hc1,aT⟩;rw [Hp];have iJ:=qqh hc1;have bR:=qqh aT;clear hc1 aT Hp;obtain⟨d1,d2,d3,d4⟩:=iJ.out.step (by omega);have sV:=qqh d3;have cZ:=qqh (bR.out.trans d4);clear d3 d4;go_wp2_with fail;go_ret;rw [gI.out];exact⟨rfl,sV.out,cZ.out⟩
 have q62:(pk L i == 62)=false:=(by rw [beq_eq_false_iff_ne];exact Hp);by_cases yg:pk L i=60
 ·have hlt:i<L.length:=bu (by omega);by_cases h2:pk L (i+1)=62
  ·have gI:=qqh (show R=.ok (3,i+2) by rw [← fO.out];unfold eJ;rw [if_neg Hp,if_pos ⟨yg,h2⟩]);have hlt2:i+1<L.length:=bu (by omega);go_enter Tryz.func73,Tryz.ntmps73;go_wp2_with fail;refine(gD.out _ i HC.out).mono ?_;rintro e w1 ⟨rfl,hc1,aT⟩;have iJ:=qqh hc1;have bR:=qqh aT;clear hc1 aT;go_wp2_with fail;refine(gD.out _ i iJ.out).mono ?_;rintro e w2 ⟨rfl,hc2,aQ⟩;rw [yg];have lT:=qqh hc2;have bt:=qqh (bR.out.trans aQ);clear hc2 aQ;go_wp2_with fail;refine(My.out _ lT.out).mono ?_;rintro e w3 ⟨rfl,kR,bJ⟩;rw [h2];have nZ:=qqh kR;have bN:=qqh (bt.out.trans bJ);clear kR bJ;have d1:=nZ.out.blk.cell 1;have d2:=nZ.out.blk.frozen 1;have hm:=nZ.out.move (j:=i+2) (by omega);rw [show(((i+2:Nat)):Int)=(i:Int)+2 by omega]at hm;have sV:=qqh hm;have cZ:=qqh (bN.out.trans (aZ.set w3 C 1 (.int .i64 ((i:Int)+2))));clear hm;go_wp2_with fail;go_ret;rw [gI.out];exact⟨rfl,sV.out,cZ.out⟩
  have q2:(pk L (i+1) == 62)=false:=(by rw [beq_eq_false_iff_ne];exact h2);have gI:=qqh (show R=.ok (2,i+1) by rw [← fO.out];unfold eJ;rw [if_neg Hp,if_neg (fun h=>h2 h.2)];unfold aR;rw [if_pos yg]);have GB:=qqh (fun(W:World) (h:ay W C A n c L i)=>show Calls Tryz.prog 43 #[.pointer (some ⟨C,0,none⟩),.int .i32 60] W fun e w'=>e=.returned (.tuple #[])∧ay w' C A n c L (i+1)∧aZ W C w' by have:=eZ W C A n c L i 60 h (by decide);rwa [show aR L i 60=.ok (i+1) by unfold aR;rw [if_pos yg]]at this);go_enter Tryz.func73,Tryz.ntmps73;go_wp2_with fail;refine(gD.out _ i HC.out).mono ?_;rintro e w1 ⟨rfl,hc1,aT⟩;have iJ:=qqh hc1;have bR:=qqh aT;clear hc1 aT;go_wp2_with fail;refine(gD.out _ i iJ.out).mono ?_;rintro e w2 ⟨rfl,hc2,aQ⟩;rw [yg];have lT:=qqh hc2;have bt:=qqh (bR.out.trans aQ);clear hc2 aQ;go_wp2_with fail;refine(My.out _ lT.out).mono ?_;rintro e w3 ⟨rfl,kR,bJ⟩;have nZ:=qqh kR;have bN:=qqh (bt.out.trans bJ);clear kR bJ;go_wp2_with fail;refine(GB.out _ nZ.out).mono ?_;rintro e w4 ⟨rfl,kM,hb4⟩;have CD:=qqh kM;have ej:=qqh (bN.out.trans hb4);clear kM hb4;go_wp2_with fail;go_ret;rw [gI.out];exact⟨rfl,CD.out,ej.out⟩
 have q60:(pk L i == 60)=false:=(by rw [beq_eq_false_iff_ne];exact yg);have gI:=qqh (show R=.error (2,i) by rw [← fO.out];unfold eJ;rw [if_neg Hp,if_neg (fun h=>yg h.1)];unfold aR;rw [if_neg yg]);have GB:=qqh (fun(W:World) (h:ay W C A n c L i)=>show Calls Tryz.prog 43 #[.pointer (some ⟨C,0,none⟩),.int .i32 60] W fun e w'=>e=aW 2 i∧aZ W C w' by have:=eZ W C A n c L i 60 h (by decide);rwa [show aR L i 60=.error (2,i) by unfold aR;rw [if_neg yg]]at this);go_enter Tryz.func73,Tryz.ntmps73;go_wp2_with fail;refine(gD.out _ i HC.out).mono ?_;rintro e w1 ⟨rfl,hc1,aT⟩;have iJ:=qqh hc1;have bR:=qqh aT;clear hc1 aT;go_wp2_with fail;refine(gD.out _ i iJ.out).mono ?_;rintro e w2 ⟨rfl,hc2,aQ⟩;have lT:=qqh hc2;have bt:=qqh (bR.out.trans aQ);clear hc2 aQ;go_wp2_with fail;refine(GB.out _ lT.out).mono ?_;rintro e w4 ⟨he,hb4⟩;unfold aW at he;subst he;have ej:=qqh (bt.out.trans hb4);clear hb4;go_wp2_with fail;rw [gI.out];exact⟨rfl,rfl,ej.out⟩
def QB (r:Int):Bool:=jN r || z8 r
theorem Et {L:List Int} {i:Nat} (h:jN (pk L i)=false):bf L i=i:=by unfold bf;rw [h];rfl
theorem Bi {L:List Int} {i:Nat} (h:jN (pk L i)=true):bf L i=aC QB L (i+1):=by
 have hlt:i<L.length:=bu (fun e=>by rw [e]at h;exact absurd h (by decide));unfold bf;rw [if_pos h];exact dN (p:=QB) hlt (by unfold QB;rw [h];rfl)
def F8 (L:List Int) (i j:Nat):Prop:=j=i∨(i<j∧bf L i=aC QB L j)
theorem F8.next {L:List Int} {i j:Nat} (h:F8 L i j) (hj:jN (pk L j)=true∨(i<j∧z8 (pk L j)=true)):F8 L i (j+1):=by
 have hl:QB (pk L j)=true:=by
  unfold QB;rcases hj with h | h
  ·rw [h];rfl
  rw [h.2,Bool.or_true]
 have hlt:j<L.length:=bu (fun e=>by rw [e]at hl;exact absurd hl (by decide));rcases h with rfl | ⟨h1,h2⟩
 ·rcases hj with h | h;exact .inr ⟨by omega,Bi h⟩;omega
 exact .inr ⟨by omega,h2.trans (dN hlt hl)⟩
theorem F8.done {L:List Int} {i j:Nat} (h:F8 L i j) (h1:jN (pk L j)=false) (h2:i<j→z8 (pk L j)=false):bf L i=j:=by
 rcases h with rfl | ⟨h3,h4⟩;exact Et h1;rw [h4];exact cJ (fun _=>by unfold QB;rw [h1,h2 h3];rfl)
theorem qt (w:World) (C:Nat) (A:Option Addr) (n c:Nat) (L:List Int) (i:Nat) (h:ay w C A n c L i) (h0:0<n) :
    Calls Tryz.prog 69 #[.pointer (some ⟨C,0,none⟩)] w fun e w'=>e=.returned (.string (gJ L i))∧ay w' C A n c L (bf L i)∧aZ w C w':=by
 have hs:=h.size;have hl:=h.len;have hi:=h.le;obtain⟨b,off,rfl,_,_⟩:=h.at h0;have HC:=qqh h;have gD:=qqh (fun(W:World) (m:Nat) (h:ay W C (some ⟨b,off,none⟩) n c L m)=>cK W C (some ⟨b,off,none⟩) n c L m h);have c1:=h.blk.cell 1;clear h;go_enter Tryz.func69,Tryz.ntmps69;go_upto_block 0 with (go_at_call 41;refine(gD.out _ i HC.out).mono ?_;rintro e w1 ⟨rfl,hc1,aT⟩);have iJ:=qqh hc1;have bR:=qqh aT;clear hc1 aT c1;go_cut [3] (fun v wx=>v=.int .i64 (i:Int)∧ay wx C (some ⟨b,off,none⟩) n c L (bf L i)∧aZ w C wx);case first=>
  go_wp2_with fail;go_loopw [4] (fun v wr=>∃ j:Nat,i≤j∧j≤n∧v=.int .i32 (pk L j)∧F8 L i j∧ay wr C (some ⟨b,off,none⟩) n c L j∧aZ w C wr) (fun _ wr=>n - (match wr.cell? ⟨C,1,none⟩with | some (.int _ j)=>j.toNat | _=>0));(case atStart=>exact⟨i,Nat.le_refl _,hi,rfl,.inl rfl,iJ.out,bR.out⟩);obtain⟨j,hij,hjn,rfl,T4,sI,zz⟩:=hrel;have HJ:=qqh sI;have HB:=qqh zz;have Rk:=qqh T4;have nT:=qqh (sI.blk.cell 1);have k1:=sI.blk.cell 1;clear sI zz T4;have BM:=qqh (fun h1 h2=>Rk.out.done h1 h2);have FJ:=qqh (fun hj=>Rk.out.next hj);have mC:=qqh (fun(W:World) (h:ay W C (some ⟨b,off,none⟩) n c L (j+1))=>gD.out W (j+1) h);obtain⟨x,hx⟩:∃ x,pk L j=x:=⟨_,rfl⟩;have hjl:0≤x→j<n:=fun h=>(by rw [← hl];exact bu (by rw [hx];omega));rw [hx]at BM FJ;rw [hx];have hwj:IntKind.i64.wrap ((j:Int)+1)=(j:Int)+1:=wrap_small _ (by omega) (by omega);clear hx;have Tw:(jN x=true∧((97≤x∧x≤122)∨x=95))∨(jN x=false∧i<j∧z8 x=true∧48≤x∧x≤57)∨(jN x=false∧(i<j→z8 x=false)∧(x<48∨(48≤x∧x≤57∧j=i)∨(57<x∧x<95)∨x=96∨122<x)):=by
   by_cases h1:jN x=true;exact .inl ⟨h1,by simpa [jN] using h1⟩;rw [Bool.not_eq_true]at h1;have h2:¬((97≤x∧x≤122)∨x=95):=(by simpa [jN] using h1);right;by_cases h3:i<j∧z8 x=true;exact .inl ⟨h1,h3.1,h3.2,by simpa [z8] using h3.2⟩;right;refine⟨h1,fun h4=>by rw [Bool.eq_false_iff];exact fun h5=>h3 ⟨h4,h5⟩,?_⟩;by_cases h4:48≤x∧x≤57
   ·have:¬ i<j:=fun h5=>h3 ⟨h5,by simp [z8,h4]⟩;omega
   omega
  rcases Tw with ⟨h1,hr⟩ | ⟨h1,hlt,h2,hr⟩ | ⟨h1,h2,hr⟩
  ·have HN:=qqh (FJ.out (.inl h1));have M7:j<n:=hjl (by omega);obtain⟨d1,d2,d3,d4⟩:=HJ.out.step M7;have sV:=qqh d3;have cZ:=qqh (HB.out.trans d4);clear d3 d4;rcases hr with ⟨r1,r2⟩ | r1
   all_goals
     go_wp2_with fail
     refine(mC.out _ sV.out).mono ?_
     rintro e w5 ⟨rfl,kX,cY⟩
     have tj:=qqh kX
     have gG:=qqh (cZ.out.trans cY)
     clear kX cY
     go_wp2_with fail
     refine⟨⟨j+1,by omega,by omega,rfl,HN.out,tj.out,gG.out⟩,?_⟩
     have e1:w5.cell? ⟨C,1,none⟩=some (.int .i64 ((j+1:Nat):Int)):=tj.out.blk.cell 1
     have e2:wr.cell? ⟨C,1,none⟩=some (.int .i64 (j:Int)):=nT.out
     rw [e1,e2]
     simp only [Int.toNat_natCast]
     omega
  ·have HN:=qqh (FJ.out (.inr ⟨hlt,h2⟩));have M7:j<n:=hjl (by omega);obtain⟨d1,d2,d3,d4⟩:=HJ.out.step M7;have sV:=qqh d3;have cZ:=qqh (HB.out.trans d4);have hgt:decide ((i:Int)<(j:Int))=true:=decide_eq_true (by omega);clear d3 d4;obtain⟨r1,r2⟩:=hr;go_wp2_with fail;refine(mC.out _ sV.out).mono ?_;rintro e w5 ⟨rfl,kX,cY⟩;have tj:=qqh kX;have gG:=qqh (cZ.out.trans cY);clear kX cY;go_wp2_with fail;refine⟨⟨j+1,by omega,by omega,rfl,HN.out,tj.out,gG.out⟩,?_⟩;have e1:w5.cell? ⟨C,1,none⟩=some (.int .i64 ((j+1:Nat):Int)):=tj.out.blk.cell 1;have e2:wr.cell? ⟨C,1,none⟩=some (.int .i64 (j:Int)):=nT.out;rw [e1,e2];simp only [Int.toNat_natCast];omega
  have HE:=qqh (BM.out h1 h2);clear BM FJ Rk h1 h2;rcases hr with r1 | ⟨r1,r2,r3⟩ | ⟨r1,r2⟩ | r1 | r1
  all_goals
    have q95:(x == 95)=false:=by rw [beq_eq_false_iff_ne];omega
    by_cases hgt:(i:Int)<(j:Int)
    all_goals first
    | (exfalso;omega)
    | (go_wp2_with fail
       go_meet
       rw [HE.out]
       exact⟨rfl,HJ.out,HB.out⟩)
 obtain⟨rfl,C6,hbc⟩:=hcut;have HT:=qqh (show gJ L i=runesBytes (aL L i (bf L i)) from rfl);have hir:i≤bf L i:=by
  unfold bf;split;exact eK _ _ _;exact Nat.le_refl _
 obtain⟨r,hr⟩:∃ r,bf L i=r:=⟨_,rfl⟩;rw [hr]at C6 HT hir;have jz:=qqh hr;clear hr;have RK:=qqh C6;have R7:=qqh hbc;have hrn:=C6.le;have d0:=C6.blk.cell 0;have d1:=C6.blk.cell 1;have su:=vF (C6.drewN 1) hir hrn;have hk1:(i:Int)≤(r:Int):=(by omega);have hk2:(r:Int)≤(c:Int):=(by have:=C6.cap;omega);have Pe:(0:Int)≤(i:Int):=(by omega);clear C6 hbc iJ bR HC;generalize runesBytes (aL L i r)=T at *;go_upto_region 6 with fail;refine av (S:=(fun w'=>w'.cell? ⟨C,0,none⟩=some (.slice (some ⟨b,off,none⟩) n c)∧w'.cell? ⟨C,1,none⟩=some (.int .i64 r)∧(convert 33 9 (.slice (if c=i then some ⟨b,off,none⟩else some ⟨b,off+i,none⟩) (r - i) (c - i))).run Tryz.prog w'=.ok (.string T) w')) [4,10,12] (by kernel_rfl) ⟨d0,d1,su⟩ (fun aX=>?_);refine tq 0 54 ?_;(try simp only [zp,za,z0,zs]);refine tq 1 55 ?_;(try simp only [zp,za,z0,zs]);refine tq 2 56 ?_;(try simp only [zp,za,z0,zs]);refine tq 3 57 ?_;(try simp only [zp,za,z0,zs]);refine tu 4 58 ?_;(try simp only [zp,za,z0,zs]);refine tq 5 59 ?_;(try simp only [zp,za,z0,zs]);refine tq 6 60 ?_;(try simp only [zp,za,z0,zs]);refine tq 7 61 ?_;(try simp only [zp,za,z0,zs]);refine tq 8 62 ?_;(try simp only [zp,za,z0,zs]);refine tq 9 63 ?_;(try simp only [zp,za,z0,zs]);refine tu 10 64 ?_;(try simp only [zp,za,z0,zs]);refine tq 11 65 ?_;(try simp only [zp,za,z0,zs]);refine tu 12 66 ?_;(try simp only [zp,za,z0,zs]);refine tq 13 2 ?_;(try simp only [zp,za,z0,zs]);refine aI (by kernel_rfl) ?_ _;generalize (if c=i then some ({ block:=b,off:=off }:Addr)else some { block:=b,off:=off+i })=Z;go_simp;go_wp2_with fail;go_ret;rw [HT.out,jz.out];exact⟨rfl,RK.out.drewN 1,R7.out.trans (aZ.drewN wc C 1)⟩
theorem FG (w:World) (C:Nat) (A:Option Addr) (n c:Nat) (L:List Int) (i:Nat) (h:ay w C A n c L i) (h0:0<n) :
    Calls Tryz.prog 71 #[.pointer (some ⟨C,0,none⟩)] w (Kn Value.string w C A n c L (gv L i)):=by
 have HW:=qqh (qt w C A n c L i h h0);have c1:=h.blk.cell 1;have HN:=qqh (show gv L i=if dY (gJ L i)=true then .ok (gJ L i,bf L i)else .error (7,i) from rfl);obtain⟨R,hR⟩:∃ R,gv L i=R:=⟨_,rfl⟩;rw [hR];rw [hR]at HN;clear h hR;generalize gJ L i=T at *;generalize bf L i=r at *;have Cg:=qqh (fun(W:World)=>iW T W);cases hnm:dY T with
 | true=>
  rw [hnm]at HN Cg;go_enter Tryz.func71,Tryz.ntmps71;go_wp2_with fail;refine HW.out.mono ?_;rintro e w1 ⟨rfl,hc1,aT⟩;have iJ:=qqh hc1;have bR:=qqh aT;clear hc1 aT;go_wp2_with fail;refine(Cg.out _).mono ?_;rintro e w2 ⟨rfl,rfl⟩;go_wp2_with fail;go_ret;rw [HN.out];exact⟨rfl,iJ.out,bR.out⟩
 | false=>
  rw [hnm]at HN Cg;go_enter Tryz.func71,Tryz.ntmps71;go_wp2_with fail;refine HW.out.mono ?_;rintro e w1 ⟨rfl,hc1,aT⟩;have iJ:=qqh hc1;have bR:=qqh aT;clear hc1 aT;go_wp2_with fail;refine(Cg.out _).mono ?_;rintro e w2 ⟨rfl,rfl⟩;go_wp2_with fail;refine(bT 7 i _).mono ?_;rintro e w3 ⟨rfl,rfl⟩;go_wp2_with fail;rw [HN.out];exact⟨rfl,rfl,bR.out⟩
def KS (L:List Int) (i:Nat):Bool:=decide (pk L (aB L (bf L (i+1)))=61)
theorem sx (w:World) (C:Nat) (A:Option Addr) (n c:Nat) (L:List Int) (i:Nat) (h:ay w C A n c L i) (hi:i<n) :
    Calls Tryz.prog 70 #[.pointer (some ⟨C,0,none⟩)] w fun e w'=>e=.returned (.bool (KS L i))∧Below w.heap.size w w':=by
 have hs:=h.size;have c0:=h.blk.cell 0;have c1:=h.blk.cell 1;have hw1:IntKind.i64.wrap ((i:Int)+1)=(i:Int)+1:=wrap_small _ (by omega) (by omega)
 have HN:=qqh (show ay (w.alloc (.cells #[.slice A n c,.int .i64 ((i:Int)+1)] 96)) w.heap.size A n c L (i+1) from
   ⟨⟨_,by rw [show(((i+1:Nat)):Int)=(i:Int)+1 by omega];exact aj.new _ _ _⟩,(h.row.lift (X':=fun _=>True) (fun _ _=>trivial)).keep (aa.alloc _ (fun b _ hl=>Nat.ne_of_lt hl)),h.size,hi,h.cap⟩)
 have HB:=qqh (show Below w.heap.size w (w.alloc (.cells #[.slice A n c,.int .i64 ((i:Int)+1)] 96)) from(Below.refl _ _).alloc (Nat.le_refl _) _);have HV:=qqh (show KS L i=decide (pk L (aB L (bf L (i+1)))=61) from rfl);clear h;go_enter Tryz.func70,Tryz.ntmps70;go_wp2_with fail;refine(qt _ w.heap.size A n c L (i+1) HN.out (by omega)).mono ?_;rintro e w1 ⟨rfl,hc1,aT⟩;have iJ:=qqh hc1;have bR:=qqh (HB.out.trans (aT.to HB.out.size (Nat.le_refl _)));clear hc1 aT;go_wp2_with fail;refine(jj _ w.heap.size A n c L _ iJ.out).mono ?_;rintro e w2 ⟨rfl,hc2,aQ⟩;have lT:=qqh hc2;have bt:=qqh (bR.out.trans (aQ.to bR.out.size (Nat.le_refl _)));clear hc2 aQ;go_wp2_with fail;refine(cK _ w.heap.size A n c L _ lT.out).mono ?_;rintro e w3 ⟨rfl,kR,bJ⟩;have bN:=qqh (bt.out.trans (bJ.to bt.out.size (Nat.le_refl _)));clear kR bJ;go_wp2_with fail;go_ret;rw [HV.out];exact⟨bD (by first | rfl | (rw [Bool.eq_iff_iff];simp)),bN.out⟩
end Go.Proofs.YtkggjgeihhialaaGreatDoor
