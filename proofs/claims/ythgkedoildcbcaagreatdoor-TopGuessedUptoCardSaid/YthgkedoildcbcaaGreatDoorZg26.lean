/- GapAll -/
import Derived.Test.YthgkedoildcbcaaGreatDoorZg11
import Derived.Test.YthgkedoildcbcaaGreatDoorZg1
import Derived.Laws.CopyOwn
import Derived.Laws.MakeOwn
import Derived.Deep.QuietTactic
import Derived.BigQuiet
import Derived.BigRegion
import Derived.Deep.DeepCutAuto
import Derived.Deep.CutBlock
import Derived.RowKit
import Derived.Below
set_option maxHeartbeats 3200000
set_option maxRecDepth 100000
namespace Go.Proofs.YthgkedoildcbcaaGreatDoor
open Go.RowKit
structure Kp (lo:Nat) (w w':World):Prop where
  below:Below lo w w'
  other:∀ (k:Nat) (t:TypeId) (cs:Array Value),ai w k t cs→t ≠ 21 → t ≠ 202 → ai w' k t cs
theorem Kp.refl (lo:Nat) (w:World):Kp lo w w:=⟨Below.refl _ _,fun _ _ _ h _ _=>h⟩
theorem Kp.trans {lo:Nat} {w w1 w2:World} (h:Kp lo w w1) (h2:Kp lo w1 w2):Kp lo w w2:=⟨h.below.trans h2.below,fun k t cs hb h3 h4=>h2.other k t cs (h.other k t cs hb h3 h4) h3 h4⟩
theorem Kp.all {lo:Nat} {w w1:World} (h:Below w.heap.size w w1) (hlo:lo≤w.heap.size):Kp lo w w1:=⟨h.mono hlo,fun _ _ _ hb _ _=>ai.below hb h hb.lt⟩
theorem Kp.set {lo:Nat} {w:World} {g:Nat} {t:TypeId} {cs:Array Value} (h:ai w g t cs) (ht:t = 21 ∨ t = 202) (hg:lo≤g) (i:Nat) (u:Value):Kp lo w (w.setCell ⟨g,i,none⟩ u) :=
  ⟨(Below.refl _ _).setCell hg _,fun k t' cs' hb h3 h4=>by
    have hne:k≠g:=by
      rintro rfl
      unfold ai at h hb
      rw [h]at hb
      injection hb with hb
      injection hb with _ hb
      subst hb
      rcases ht with rfl | rfl
      · exact h3 rfl
      · exact h4 rfl
    exact(Below.heap_setCell _ _ _ _ hne).trans hb⟩
structure fk (w:World) (b L n:Nat) (D:List Int) (f t:Nat):Prop where
  buf:ai w b 202 #[.slice (some ⟨L,0,none⟩) n n,.int .i64 f,.int .i64 t]
  row:ai w L 21 (runeCells D).toArray
  len:D.length=n
  le:f≤t
  end_:t≤n
  small:n≤9000
def uR (lo:Nat) (w:World) (b:Nat) (A Z:List Int):Prop:=∃ (L n:Nat) (D:List Int) (f t:Nat),fk w b L n D f t∧lo≤b∧lo≤L∧D.take f=A∧D.drop t=Z
theorem kE:(202 : TypeId) ≠ 21:=by decide
theorem sB {w:World} {g g':Nat} {t t':TypeId} {cs cs':Array Value} (h:ai w g t cs) (h':ai w g' t' cs') (hne:t≠t'):g≠g':=by
 rintro rfl;unfold ai at h h';rw [h]at h';injection h' with h';injection h' with _ h';exact hne h'
theorem fk.ne {w:World} {b L n:Nat} {D:List Int} {f t:Nat} (h:fk w b L n D f t):b≠L:=sB h.buf h.row kE
theorem fk.below {w w':World} {b L n:Nat} {D:List Int} {f t:Nat} (h:fk w b L n D f t) (hb:Below w.heap.size w w'):fk w' b L n D f t :=
  ⟨ai.below h.buf hb h.buf.lt,ai.below h.row hb h.row.lt,h.len,h.le,h.end_,h.small⟩
theorem uR.below {lo:Nat} {w w':World} {b:Nat} {A Z:List Int} (h:uR lo w b A Z) (hb:Below w.heap.size w w'):uR lo w' b A Z:=by
 obtain⟨L,n,D,f,t,h1,h2⟩:=h;exact⟨L,n,D,f,t,h1.below hb,h2⟩
theorem fk.lens {w:World} {b L n:Nat} {D A Z:List Int} {f t:Nat} (h:fk w b L n D f t) (hA:D.take f=A) (hZ:D.drop t=Z):A.length=f∧Z.length+t=n:=by
 have h1:=h.len;have h2:=h.le;have h3:=h.end_;subst hA hZ;rw [List.length_take,List.length_drop];omega
theorem fk.cell {w:World} {b L n:Nat} {D:List Int} {f t:Nat} (h:fk w b L n D f t) {k:Nat} {x:Int} (hk:D[k]? = some x):w.cell? ⟨L,k,none⟩=some (.int .i32 x):=by
 rw [h.row.cell];simp [runeCells,hk]
theorem rJ {lo:Nat} {b:Nat} {A Z:List Int} {w:World} (h:uR lo w b A Z) :
    Calls Tryz.prog 100 #[.pointer (some ⟨b,0,none⟩)] w fun e w'=>e=.returned (.int .i64 A.length)∧w'=w:=by
 obtain⟨L,n,D,f,t,h1,_,_,hA,hZ⟩:=h;obtain⟨e1,_⟩:=h1.lens hA hZ;have c1:=h1.buf.cell 1;rw [e1];clear h1 hA hZ e1;go_enter Tryz.func100,Tryz.ntmps100;go_wp2_with fail;go_ret;exact⟨rfl,rfl⟩
theorem tZ {lo:Nat} {b:Nat} {A Z:List Int} {w:World} (h:uR lo w b A Z) :
    Calls Tryz.prog 101 #[.pointer (some ⟨b,0,none⟩)] w fun e w'=>e=.returned (.int .i64 (A.length+Z.length:Nat))∧∃ k,w'=w.drewN k:=by
 obtain⟨L,n,D,f,t,h1,_,_,hA,hZ⟩:=h;obtain⟨e1,e2⟩:=h1.lens hA hZ;have c0:=h1.buf.cell 0;have c1:=h1.buf.cell 1;have c2:=h1.buf.cell 2;have hle:=h1.le;have hend:=h1.end_;have wW:=h1.small;have hr:((A.length+Z.length:Nat):Int)=(n:Int) - ((t:Int) - (f:Int)):=(by omega);rw [hr];clear h1 hA hZ e1 e2 hr;go_enter Tryz.func101,Tryz.ntmps101;go_wp2_with fail;go_quiet (fail);go_wp2_with fail;go_ret;exact⟨rfl,_,rfl⟩
theorem zB {D A Z:List Int} {f t:Nat} (hA:D.take f=A) (hZ:D.drop t=Z) (hf:A.length=f) {k:Nat} {x:Int} (hx:(A++Z)[k]? = some x):D[if f≤k then k+(t - f)else k]? = some x∨t<f:=by
 subst hA hZ;by_cases ht:t<f;exact .inr ht;left;by_cases hk:f≤k
 ·rw [if_pos hk];rw [List.getElem?_append_right (by omega),hf,List.getElem?_drop]at hx;rwa [show k+(t - f)=t+(k - f) by omega]
 rw [if_neg hk];rw [List.getElem?_append_left (by omega),List.getElem?_take,if_pos (by omega)]at hx;exact hx
theorem B5 {lo:Nat} {b:Nat} {A Z:List Int} {w:World} (h:uR lo w b A Z) (k:Nat) (x:Int) (hx:(A++Z)[k]? = some x) :
    Calls Tryz.prog 137 #[.pointer (some ⟨b,0,none⟩),.int .i64 k] w fun e w'=>e=.returned (.int .i32 x)∧∃ k,w'=w.drewN k:=by
 obtain⟨L,n,D,f,t,h1,_,_,hA,hZ⟩:=h;obtain⟨e1,e2⟩:=h1.lens hA hZ;have c0:=h1.buf.cell 0;have c1:=h1.buf.cell 1;have c2:=h1.buf.cell 2;have hle:=h1.le;have hend:=h1.end_;have wW:=h1.small;have hD:=(zB hA hZ e1 hx).resolve_right (by omega);have hcell:=h1.cell hD;have Z8:=(List.getElem?_eq_some_iff.1 hD).1;rw [h1.len]at Z8;by_cases hk:f≤k
 ·rw [if_pos hk]at hcell Z8;have hidx:(k:Int)+((t:Int) - (f:Int))=((k+(t - f):Nat):Int):=(by omega);generalize k+(t - f)=j at *;have hd:decide (f≤k)=true:=decide_eq_true hk;clear h1 hA hZ e1 e2 hx hD;go_enter Tryz.func137,Tryz.ntmps137;go_wp2_with fail;go_quiet (fail);have k0:(w.drewN nq).cell? ⟨b,0,none⟩=some (.slice (some ⟨L,0,none⟩) n n):=c0;have k3:(w.drewN nq).cell? ⟨L,j,none⟩=some (.int .i32 x):=hcell;go_wp2_with fail;go_ret;exact⟨rfl,_,rfl⟩
 rw [if_neg hk]at hcell Z8;have hd:decide (f≤k)=false:=decide_eq_false hk;clear h1 hA hZ e1 e2 hx hD;go_enter Tryz.func137,Tryz.ntmps137;go_wp2_with fail;go_ret;exact⟨rfl,0,rfl⟩
theorem xH (D:List Int) (i:Nat) (x:Int):(runeCells (D.set i x)).toArray=(runeCells D).toArray.setIfInBounds i (.int .i32 x):=by
 simp [runeCells,List.map_set]
theorem ai.S4 {w:World} {b L n:Nat} {f t f' t':Int} (h:ai w b 202 #[.slice (some ⟨L,0,none⟩) n n,.int .i64 f,.int .i64 t]) :
    ai ((w.setCell ⟨b,1,none⟩ (.int .i64 f')).setCell ⟨b,2,none⟩ (.int .i64 t')) b 202 #[.slice (some ⟨L,0,none⟩) n n,.int .i64 f',.int .i64 t']:=(h.put 1 _).put 2 _
theorem ai.other {w:World} {g g':Nat} {t t':TypeId} {cs cs':Array Value} (h:ai w g t cs) (h':ai w g' t' cs') (hne:t≠t') (i:Nat) (u:Value):ai (w.setCell ⟨g',i,none⟩ u) g t cs :=
  (Below.heap_setCell _ _ _ _ (sB h h' hne)).trans h
theorem fk.gap {w:World} {lo b L n:Nat} {D:List Int} {f t:Nat} (h:fk w b L n D f t) (hb:lo≤b) {f' t':Nat} (hle:f'≤t') (hend:t'≤n) :
    fk ((w.setCell ⟨b,1,none⟩ (.int .i64 f')).setCell ⟨b,2,none⟩ (.int .i64 t')) b L n D f' t'∧Kp lo w ((w.setCell ⟨b,1,none⟩ (.int .i64 f')).setCell ⟨b,2,none⟩ (.int .i64 t')) :=
  ⟨⟨ai.S4 h.buf,(h.row.other h.buf (Ne.symm kE) 1 _).other (h.buf.put 1 (.int .i64 (f':Int))) (Ne.symm kE) 2 _,h.len,hle,hend,h.small⟩,
   (Kp.set h.buf (.inr rfl) hb 1 _).trans (Kp.set (h.buf.put 1 (.int .i64 (f':Int))) (.inr rfl) hb 2 _)⟩
theorem fk.place {w:World} {lo b L n:Nat} {D:List Int} {f t:Nat} (h:fk w b L n D f t) (hL:lo≤L) (i:Nat) (x:Int) :
    fk (w.setCell ⟨L,i,none⟩ (.int .i32 x)) b L n (D.set i x) f t∧Kp lo w (w.setCell ⟨L,i,none⟩ (.int .i32 x)):=by
 refine⟨⟨h.buf.other h.row kE i _,?_,by simp [h.len],h.le,h.end_,h.small⟩,Kp.set h.row (.inl rfl) hL i _⟩;rw [xH];exact h.row.put i _
theorem fk.drew {w:World} {b L n:Nat} {D:List Int} {f t:Nat} (h:fk w b L n D f t):fk w.drew b L n D f t:=⟨h.buf,h.row,h.len,h.le,h.end_,h.small⟩
theorem Kp.drew {lo:Nat} {w w':World} (h:Kp lo w w'):Kp lo w w'.drew:=⟨⟨h.below.os,h.below.tape,h.below.output,h.below.size,h.below.block⟩,h.other⟩
theorem Kp.drewN {lo:Nat} {w w':World} (h:Kp lo w w') (k:Nat):Kp lo w (w'.drewN k):=⟨below_drewN h.below k,h.other⟩
def AS (b:Nat) (w:World):Nat:=match w.cell? ⟨b,1,none⟩with | some (.int _ x)=>x.toNat | _=>0
theorem fk.from_ {w:World} {b L n:Nat} {D:List Int} {f t:Nat} (h:fk w b L n D f t):AS b w=f:=by
 unfold AS;rw [h.buf.cell];simp
def FL (lo:Nat) (w:World) (b:Nat) (T:List Int) (wr:World) (p:Nat→Prop):Prop :=
  ∃ (L n:Nat) (D:List Int) (f t:Nat),fk wr b L n D f t∧lo≤b∧lo≤L∧D.take f++D.drop t=T∧p f∧Kp lo w wr
theorem It {D T:List Int} {f t:Nat} {x:Int} (h:D.take (f+1)++D.drop (t+1)=T) (hf:f≤t) (ht:t<D.length) (hx:D[f]? = some x):(D.set t x).take f++(D.set t x).drop t=T:=by
 rw [← h,List.take_add_one,hx,List.take_set_of_le (by omega),List.drop_eq_getElem_cons (by simpa using ht),List.getElem_set_self,List.drop_set_of_lt (by omega)];simp
theorem Ep {D T:List Int} {f t:Nat} {x:Int} (h:D.take f++D.drop t=T) (hf:f≤t) (hx:D[t]? = some x):(D.set f x).take (f+1)++(D.set f x).drop (t+1)=T:=by
 have ht:=(List.getElem?_eq_some_iff.1 hx).1;have hxx:=(List.getElem?_eq_some_iff.1 hx).2;rw [← h,List.take_add_one,List.take_set_of_le (by omega),List.getElem?_set_self (by omega),List.drop_set_of_lt (by omega),List.drop_eq_getElem_cons ht,hxx];simp
theorem RD {lo:Nat} {w:World} {b L n:Nat} {D T:List Int} {f t:Nat} (h:fk w b L n D f t) (hb:lo≤b) (hL:lo≤L) (hT:D.take f++D.drop t=T):uR lo w b (T.take f) (T.drop f):=by
 have h1:=h.len;have h2:=h.le;have h3:=h.end_;have hl:(D.take f).length=f:=(by rw [List.length_take];omega);refine⟨L,n,D,f,t,h,hb,hL,?_,?_⟩
 ·rw [← hT,List.take_left' hl]
 rw [← hT,List.drop_left' hl]
theorem Db {lo:Nat} {b:Nat} {A Z:List Int} {w:World} (h:uR lo w b A Z) (k:Nat) (hk:k≤A.length+Z.length) :
    Calls Tryz.prog 123 #[.pointer (some ⟨b,0,none⟩),.int .i64 k] w fun e w'=>e=.returned (.tuple #[])∧uR lo w' b ((A++Z).take k) ((A++Z).drop k)∧Kp lo w w':=by
 obtain⟨L,n,D,f,t,h1,hb,hL,hA,hZ⟩:=h;have HS:=qqh (show FL lo w b (A++Z) w (fun _=>True) from⟨L,n,D,f,t,h1,hb,hL,by rw [hA,hZ],trivial,Kp.refl _ _⟩);have PL:(A++Z).length=A.length+Z.length:=List.length_append;generalize A++Z=T at *;clear h1 hA hZ hb hL;go_enter Tryz.func123,Tryz.ntmps123;go_wp2_with fail;go_loopw [] (fun wr=>FL lo w b T wr (fun _=>True)) (fun wr=>AS b wr);(case atStart=>exact HS.out);obtain⟨L,n,D,f,t,h1,hb,hL,hT,_,hkp⟩:=hrel;have hfr:=h1.from_;have hle:=h1.le;have hend:=h1.end_;have wW:=h1.small;have c0:=h1.buf.cell 0;have c1:=h1.buf.cell 1;have c2:=h1.buf.cell 2;have f1:=h1.buf.frozen 1;have f2:=h1.buf.frozen 2;have H1:=qqh h1;have HT:=qqh hT;have HK:=qqh hkp;have WV:=qqh hfr;clear h1 hT hkp hfr;by_cases hlt:k<f
 ·obtain⟨f',rfl⟩:∃ q,f=q+1:=⟨f - 1,by omega⟩;obtain⟨t',rfl⟩:∃ q,t=q+1:=⟨t - 1,by omega⟩;obtain⟨x,hx⟩:∃ x,D[f']? = some x:=⟨_,List.getElem?_eq_getElem (by rw [H1.out.len];omega)⟩;have hd:decide (k<f' + 1)=true:=decide_eq_true hlt;have HX:=qqh hx;clear hx;go_upto_region 3 with fail;have aR:=ai.S4 (f':=(f':Int)) (t':=(t':Int)) H1.out.buf;have iI:=(H1.out.row.other H1.out.buf (Ne.symm kE) 1 (.int .i64 (f':Int))).other (H1.out.buf.put 1 (.int .i64 (f':Int))) (Ne.symm kE) 2 (.int .i64 (t':Int));have HG:=qqh (H1.out.gap hb (f':=f') (t':=t') (by omega) (by omega));have pT:=qqh (HG.out.1.place hL t' x).1;have ox:=qqh (HG.out.2.trans (HG.out.1.place hL t' x).2);generalize Pt:(wr.setCell ⟨b,1,none⟩ (.int .i64 (f':Int))).setCell ⟨b,2,none⟩ (.int .i64 (t':Int))=W3 at *;have d0:=aR.cell 0;have d1:=aR.cell 1;have d2:=aR.cell 2;have e1:W3.cell? ⟨L,f',none⟩=some (.int .i32 x):=(by rw [iI.cell];simp [runeCells,HX.out]);obtain⟨y,hy⟩:∃ y,D[t']? = some y:=⟨_,List.getElem?_eq_getElem (by rw [H1.out.len];omega)⟩;have e2:W3.cell? ⟨L,t',none⟩=some (.int .i32 y):=(by rw [iI.cell];simp [runeCells,hy]);have e3:=iI.frozen t';have ae4:t' < n:=(by omega);have aeL:f' < n:=(by omega);clear aR iI hy c0 c1 c2 f1 f2 hd;go_region
  all_goals
    go_wp2_with fail
    refine⟨⟨L,n,_,f',t',pT.out.drew,hb,hL,It HT.out (by omega) (by rw [H1.out.len];omega) HX.out,trivial,(HK.out.trans ox.out).drew⟩,?_⟩
    rw [WV.out,pT.out.drew.from_]
    omega
 have hd:decide (k<f)=false:=decide_eq_false hlt;have jl:=qqh (show FL lo w b T wr (fun f=>f≤k) from⟨L,n,D,f,t,H1.out,hb,hL,HT.out,by omega,HK.out⟩);clear HS H1 HT HK WV hlt;go_wp2_with fail;clear hle hend wW c0 c1 c2 f1 f2 hd hb hL;go_loopw [] (fun wr=>FL lo w b T wr (fun f=>f≤k)) (fun wr=>k - AS b wr);(case atStart=>exact jl.out);obtain⟨L,n,D,f,t,h1,hb,hL,hT,hfk,hkp⟩:=hrel;have hfr:=h1.from_;have hle:=h1.le;have hend:=h1.end_;have wW:=h1.small;have c0:=h1.buf.cell 0;have c1:=h1.buf.cell 1;have c2:=h1.buf.cell 2;have f1:=h1.buf.frozen 1;have f2:=h1.buf.frozen 2;have hTn:T.length=f+(n - t):=(by rw [← hT,List.length_append,List.length_take,List.length_drop,h1.len];omega);have H1:=qqh h1;have HT:=qqh hT;have HK:=qqh hkp;have WV:=qqh hfr;clear h1 hT hkp hfr;by_cases hlt:f<k
 ·obtain⟨x,hx⟩:∃ x,D[t]? = some x:=⟨_,List.getElem?_eq_getElem (by rw [H1.out.len];omega)⟩;have hd:decide (f<k)=true:=decide_eq_true hlt;have HX:=qqh hx;clear hx;go_upto_region 5 with fail;have aR:=H1.out.buf;have iI:=H1.out.row;have e1:wr.cell? ⟨L,t,none⟩=some (.int .i32 x):=(by rw [iI.cell];simp [runeCells,HX.out]);obtain⟨y,hy⟩:∃ y,D[f]? = some y:=⟨_,List.getElem?_eq_getElem (by rw [H1.out.len];omega)⟩;have e2:wr.cell? ⟨L,f,none⟩=some (.int .i32 y):=(by rw [iI.cell];simp [runeCells,hy]);have e3:=iI.frozen f;have htn:t<n:=(by omega);have hfn:f<n:=(by omega);clear aR iI hy;go_region
  all_goals
    have HP:=qqh (H1.out.place hL f x)
    have hb4:=HP.out.1.drew.buf
    have HG:=qqh (HP.out.1.drew.gap hb (f':=f+1) (t':=t+1) (by omega) (by omega))
    have ox:=qqh (HK.out.trans (HP.out.2.drew.trans HG.out.2))
    have um:=qqh (Ep HT.out hle HX.out)
    clear HP
    generalize hW4:(wr.setCell ⟨L,f,none⟩ (.int .i32 x)).drew=W4 at *
    have g1:=hb4.cell 1
    have g2:=hb4.cell 2
    have k1:=hb4.frozen 1
    have k2:=hb4.frozen 2
    clear hb4 c0 c1 c2 f1 f2 e1 e2 e3
    go_wp2_with fail
    refine⟨⟨L,n,_,f+1,t+1,HG.out.1,hb,hL,um.out,by omega,ox.out⟩,?_⟩
    have e9:=HG.out.1.from_
    rw [WV.out]
    simp only [Int.natCast_add,Int.cast_ofNat_Int]at e9
    rw [e9]
    omega
 obtain rfl:f=k:=(by omega);have hd:decide (f<f)=false:=decide_eq_false (by omega);have HB:=qqh (RD H1.out hb hL HT.out);go_wp2_with fail;go_end0;exact⟨rfl,HB.out,HK.out⟩
theorem N2 {lo:Nat} {b:Nat} {A Z:List Int} {w:World} (h:uR lo w b A Z) (k:Nat) (hk:k≤Z.length) :
    Calls Tryz.prog 124 #[.pointer (some ⟨b,0,none⟩),.int .i64 k] w fun e w'=>e=.returned (.tuple #[])∧uR lo w' b A (Z.drop k)∧Kp lo w w':=by
 obtain⟨L,n,D,f,t,h1,hb,hL,hA,hZ⟩:=h;obtain⟨l1,l2⟩:=h1.lens hA hZ;have hle:=h1.le;have wW:=h1.small;have c2:=h1.buf.cell 2;have f2:=h1.buf.frozen 2;have HB:=qqh (show uR lo (w.setCell ⟨b,2,none⟩ (.int .i64 ((t:Int)+(k:Int)))) b A (Z.drop k)∧Kp lo w (w.setCell ⟨b,2,none⟩ (.int .i64 ((t:Int)+(k:Int)))) by
  have h2:=h1.buf.put 2 (.int .i64 ((t:Int)+(k:Int)));refine⟨⟨L,n,D,f,t+k,⟨?_,h1.row.other h1.buf (Ne.symm kE) 2 _,h1.len,by omega,by omega,h1.small⟩,hb,hL,hA,?_⟩,Kp.set h1.buf (.inr rfl) hb 2 _⟩
  ·simpa using h2
  rw [← hZ,List.drop_drop])
 clear h1 hA hZ;go_enter Tryz.func124,Tryz.ntmps124;go_wp2_with fail;go_end0;exact⟨rfl,HB.out⟩
def Ve (lo:Nat) (w:World) (b:Nat) (A Z:List Int) (k:Nat):Prop:=∃ (L n:Nat) (D:List Int) (f t:Nat),fk w b L n D f t∧lo≤b∧lo≤L∧D.take f=A∧D.drop t=Z∧f+k≤t
theorem dU (D E:List Int) (o:Nat):(splice (runeCells D) o (runeCells E))=runeCells (splice D o E):=by
 simp [runeCells,splice,List.map_take,List.map_drop]
theorem jg {D E:List Int} {o:Nat} (h:o+E.length≤D.length):(splice D o E).take o=D.take o∧(splice D o E).drop (o+E.length)=D.drop (o+E.length)∧(splice D o E).take (o+E.length)=D.take o++E:=by
 unfold splice;have hl:(D.take o).length=o:=(by rw [List.length_take];omega);refine⟨List.take_left' hl,?_,?_⟩
 ·rw [← List.append_assoc,List.drop_left' (by rw [List.length_append,hl])]
 rw [← List.append_assoc,List.take_left' (by rw [List.length_append,hl])]
theorem BH {w:World} {L:Nat} {D:List Int} (h:ai w L 21 (runeCells D).toArray):∀ j v,(runeCells D)[j]? = some v→w.cell? ⟨L,j,none⟩=some v:=by
 intro j v hv;rw [h.cell];simpa using hv
theorem vU {w:World} {L f:Nat} {D:List Int} (h:ai w L 21 (runeCells D).toArray):∀ j v,(runeCells (D.take f))[j]? = some v→w.cell? ⟨L,j,none⟩=some v:=by
 intro j v hv;apply BH h;rw [ez]at hv ⊢;rw [List.getElem?_take]at hv;split at hv;exact hv;cases hv
theorem wg {w:World} {L f:Nat} {D:List Int} (h:ai w L 21 (runeCells D).toArray):∀ j v,(runeCells (D.drop f))[j]? = some v→w.cell? ⟨L,f+j,none⟩=some v:=by
 intro j v hv;apply BH h;rw [ez]at hv ⊢;rwa [List.getElem?_drop]at hv
theorem Jc (n:Nat):madeCells (Value.int .i32 0).cells n=(runeCells (List.replicate n 0)).toArray:=by
 unfold madeCells;have h:∀ i:Nat,(Value.int .i32 0).cells[i % (Value.int .i32 0).cells.size]! = Value.int .i32 0:=by
  intro i;rw [show(Value.int .i32 0).cells.size=1 from rfl,Nat.mod_one];rfl
 apply Array.ext';simp only [h];simp [runeCells,List.map_const',Array.toList_range]
theorem nw (n:Nat) (hn:n≤1000000) (w:World):(Instr.makeSlice 26 (.int .i64 n) (.int .i64 n)).run Tryz.prog w=.ok (.slice (some ⟨w.heap.size,0,none⟩) n n) (w.alloc (.cells (runeCells (List.replicate n 0)).toArray 21)):=by
 obtain⟨i0,hi,R6,z1,z2⟩:=info_parts Tryz.info21;have:=run_make (P:=Tryz.prog) w 26 21 i0 (.int .i32 0) Tryz.underlying26 hi R6 .i64 .i64 n n (by omega) (Int.le_refl _) (by rw [z2];omega) (by omega);rw [z1,Int.toNat_natCast,Nat.mul_one,Jc]at this;exact this
theorem LI {lo:Nat} {b:Nat} {A Z:List Int} {w:World} (h:uR lo w b A Z) (k:Nat) (hk:k≤20) (hs:A.length+Z.length≤4000) :
    Calls Tryz.prog 139 #[.pointer (some ⟨b,0,none⟩),.int .i64 k] w fun e w'=>e=.returned (.tuple #[])∧Ve lo w' b A Z k∧Kp lo w w':=by
 obtain⟨L,n,D,f,t,h1,hb,hL,hA,hZ⟩:=h;obtain⟨l1,l2⟩:=h1.lens hA hZ;have hle:=h1.le;have hend:=h1.end_;have wW:=h1.small;have c0:=h1.buf.cell 0;have c1:=h1.buf.cell 1;have c2:=h1.buf.cell 2;have H1:=qqh h1;have HA:=qqh hA;have HZ:=qqh hZ;have II:=h1.buf.lt;have T8:=h1.row.lt;clear h1 hA hZ;by_cases Nb:f+k≤t
 ·have hd:decide ((k:Int)≤(t:Int) - (f:Int))=true:=decide_eq_true (by omega);go_enter Tryz.func139,Tryz.ntmps139;go_wp2_with fail;go_quiet (fail);go_wp2_with fail;(try simp only [Exit.inBlock,Exit.then]);refine bodyPost_ret (results_none rfl _ _ _) rfl ?_;exact⟨rfl,⟨L,n,D,f,t,⟨H1.out.buf,H1.out.row,H1.out.len,hle,hend,wW⟩,hb,hL,HA.out,HZ.out,Nb⟩,(Kp.refl _ _).drewN nq⟩
 have hd:decide ((k:Int)≤(t:Int) - (f:Int))=false:=decide_eq_false (by omega);obtain⟨N,hN⟩:∃ N:Nat,N=2*n+k:=⟨_,rfl⟩;obtain⟨T,hT⟩:∃ T:Nat,T=N - (n - t):=⟨_,rfl⟩;have hTi:(N:Int) - ((n:Int) - (t:Int))=(T:Int):=(by omega);have Z5:N≤2*n+k:=(by omega);have hN2:2*n+k≤N:=(by omega);have hT1:T+(n - t)≤N:=(by omega);have hT2:N≤T+(n - t):=(by omega);have hfN:f≤N:=(by omega);have hTN:T≤N:=(by omega);have hfn:f≤n:=(by omega);have hmk:∀ w:World,(Instr.makeSlice 26 (.int .i64 (2*(n:Int)+(k:Int))) (.int .i64 (2*(n:Int)+(k:Int)))).run Tryz.prog w=.ok (.slice (some ⟨w.heap.size,0,none⟩) N N) (w.alloc (.cells (runeCells (List.replicate N 0)).toArray 21)):=by
  intro w;have:=nw N (by omega) w;rwa [show(N:Int)=2*(n:Int)+(k:Int) by omega]at this
 have sJ:=qqh (show(runeCells (D.take f)).length=Nat.min f N by rw [runeCells_length,List.length_take,H1.out.len];show min f n=min f N;omega);have BW:=qqh (show 0+(runeCells (D.take f)).length≤(runeCells (List.replicate N 0)).length by rw [runeCells_length,runeCells_length,List.length_take,List.length_replicate];omega);have UY:n≤4020:=(by omega);clear hN hT;go_enter Tryz.func139,Tryz.ntmps139;go_wp2_with fail;go_quiet (fail);have k0:(w.drewN nq).cell? ⟨b,0,none⟩=some (.slice (some ⟨L,0,none⟩) n n):=c0;go_upto_region 2 with fail;clear k0 hmk hd c0 c1 c2;have dV:=(below_drewN (Below.refl w.heap.size w) nq).alloc (Nat.le_refl _) (.cells (runeCells (List.replicate N 0)).toArray 21);have jX:=H1.out.below dV;have hg:=ai.new (w.drewN nq) 21 (runeCells (List.replicate N 0)).toArray;have bI:=qqh dV;generalize Xs:(w.drewN nq).alloc (.cells (runeCells (List.replicate N 0)).toArray 21)=W1 at *;have hgg:(w.drewN nq).heap.size=w.heap.size:=rfl;rw [hgg]at hg;have d0:=jX.buf.cell 0;have d1:=jX.buf.cell 1;have iG:=qqh jX;have HG:=qqh hg;have HGL:=qqh hg.lt;have GF:=qqh (show ∀ j v,(runeCells (D.take f))[j]? = some v→W1.cell? ((⟨L,0,none⟩:Addr).add j)=some v from fun j v hj=>by rw [gT,Nat.zero_add];exact vU jX.row j v hj);clear dV jX hg hgg Xs
 go_region_law
   (first | (refine step_copy_splice rfl (.tmp 26) (.tmp 35) 26 26 rfl 21 Tryz.underlying26 (by kernel_rfl) _ _ _ _ _ _ rfl rfl w.heap.size 0 (runeCells (List.replicate N 0)) 21 HG.out (runeCells (D.take f)) sJ.out (fun _=>⟨rfl,_,rfl,GF.out⟩) BW.out (bf _) w.heap.size W1 (aC (Below.refl _ _)) (Nat.le_refl _) ?_
             intro w4 F0 hb4))
 all_goals
   have PF:=qqh (show fk w4 b L n D f t from⟨ai.below iG.out.buf hb4 II,ai.below iG.out.row hb4 T8,iG.out.len,hle,hend,wW⟩)
   have Mn:=qqh (show ai w4 w.heap.size 21 (runeCells (splice (List.replicate N 0) 0 (D.take f))).toArray by rw [← dU];exact F0.out)
   have dP:=qqh (bI.out.trans hb4)
   have d0:=PF.out.buf.cell 0
   have d2:=PF.out.buf.cell 2
   clear F0 hb4 GF sJ BW HG iG bI
   go_wp2_with fail
   go_quiet (fail)
   have K1:=qqh (show(runeCells (D.drop t)).length=Nat.min (n - t) (N - T) by rw [runeCells_length,List.length_drop,H1.out.len];show n - t=min (n - t) (N - T);omega)
   have Pr:=qqh (show T+(runeCells (D.drop t)).length≤(runeCells (splice (List.replicate N 0) 0 (D.take f))).length by
     rw [runeCells_length,runeCells_length,List.length_drop,length_splice _ _ _ (by rw [List.length_take,List.length_replicate];omega),List.length_replicate,H1.out.len];omega)
   have Po:=qqh (show ∀ j v,(runeCells (D.drop t))[j]? = some v→w4.cell? ((⟨L,t,none⟩:Addr).add j)=some v from fun j v hj=>by rw [gT];exact wg PF.out.row j v hj)
   have Py:=qqh (show 0<(runeCells (D.drop t)).length→T<N∧t<n by rw [runeCells_length,List.length_drop,H1.out.len];omega)
   go_upto_region 4 with fail
   go_region_law
     (first | (refine step_copy_splice rfl (.tmp 52) (.tmp 61) 26 26 rfl 21 Tryz.underlying26 (by kernel_rfl) _ _ _ _ _ _ rfl rfl w.heap.size T (runeCells (splice (List.replicate N 0) 0 (D.take f))) 21 Mn.out (runeCells (D.drop t)) K1.out (by
                 intro hp
                 have hq:=Py.out hp
                 refine⟨?_,⟨L,t,none⟩,?_,Po.out⟩
                 · first | rfl | rw [if_neg (by omega)] | omega
                 · first | rfl | rw [if_neg (by omega)] | omega) Pr.out (bf _) w.heap.size w4 (aC (below_drewN (Below.refl _ _) nq)) (Nat.le_refl _) ?_
               intro w5 hg5 cY))
   all_goals
     have Pz:=qqh (show fk w5 b L n D f t from⟨ai.below PF.out.buf cY II,ai.below PF.out.row cY T8,PF.out.len,hle,hend,wW⟩)
     have RT:=qqh (show ai w5 w.heap.size 21 (runeCells (splice (splice (List.replicate N 0) 0 (D.take f)) T (D.drop t))).toArray by rw [← dU];exact hg5.out)
     have dN:=qqh (dP.out.trans cY)
     have c0:=Pz.out.buf.cell 0
     have c2:=Pz.out.buf.cell 2
     have f0:=Pz.out.buf.frozen 0
     have f2:=Pz.out.buf.frozen 2
     have Un:lo≤w.heap.size:=Nat.le_trans hb (Nat.le_of_lt II)
     have xU:=qqh (show Ve lo ((w5.setCell ⟨b,0,none⟩ (.slice (some ⟨w.heap.size,0,none⟩) N N)).setCell ⟨b,2,none⟩ (.int .i64 T)) b A Z k∧Kp lo w ((w5.setCell ⟨b,0,none⟩ (.slice (some ⟨w.heap.size,0,none⟩) N N)).setCell ⟨b,2,none⟩ (.int .i64 T)) by
       have Ue:=jg (D:=List.replicate N (0:Int)) (E:=D.take f) (o:=0) (by rw [List.length_take,List.length_replicate];omega)
       have jB:(D.take f).length=f:=by rw [List.length_take,H1.out.len];omega
       have ia:(splice (List.replicate N (0:Int)) 0 (D.take f)).length=N:=by rw [length_splice _ _ _ (by rw [List.length_replicate];omega),List.length_replicate]
       have IE:(D.drop t).length=n - t:=by rw [List.length_drop,H1.out.len]
       have UO:=jg (D:=splice (List.replicate N (0:Int)) 0 (D.take f)) (E:=D.drop t) (o:=T) (by rw [ia];omega)
       simp only [Nat.zero_add,jB,List.take_zero,List.nil_append]at Ue
       have VP:(splice (splice (List.replicate N (0:Int)) 0 (D.take f)) T (D.drop t)).length=N:=by rw [length_splice _ _ _ (by rw [ia];omega),ia]
       have h0:=Pz.out.buf.put 0 (.slice (some ⟨w.heap.size,0,none⟩) N N)
       refine⟨⟨w.heap.size,N,_,f,T,⟨?_,?_,VP,by omega,hTN,by omega⟩,hb,Un,?_,?_,by omega⟩,?_⟩
       · have h2:=h0.put 2 (.int .i64 T)
         simpa using h2
       · exact(RT.out.other Pz.out.buf (Ne.symm kE) 0 _).other h0 (Ne.symm kE) 2 _
       · rw [← HA.out]
         have:=UO.1
         have e1:(splice (splice (List.replicate N (0:Int)) 0 (D.take f)) T (D.drop t)).take f=((splice (splice (List.replicate N (0:Int)) 0 (D.take f)) T (D.drop t)).take T).take f:=by rw [List.take_take,Nat.min_eq_left (by omega)]
         rw [e1,this,List.take_take,Nat.min_eq_left (by omega),Ue.2.2]
       · rw [← HZ.out]
         have hz:T+(D.drop t).length=N:=by rw [IE];omega
         have e1:=UO.2.2
         rw [hz,List.take_of_length_le (by rw [VP];exact Nat.le_refl _)]at e1
         rw [e1,List.drop_left' (by rw [List.length_take,ia];omega)]
       · exact(Kp.all dN.out Un).trans ((Kp.set Pz.out.buf (.inr rfl) hb 0 _).trans (Kp.set h0 (.inr rfl) hb 2 _)))
     clear hg5 cY Po K1 Pr Py PF Mn dP d0 d2
     go_wp2_with fail
     all_goals
       go_end0
       first
         | exact⟨rfl,xU.out⟩
         | (have hNT:N=T:=by omega
            have hF:=xU.out
            rw [hNT]at hF
            exact⟨rfl,hF⟩)
structure xJ (g:Nat) (w w':World):Prop where
  os:w'.os=w.os
  tape:w'.tape=w.tape
  output:w'.output=w.output
  size:w'.heap.size=w.heap.size
  block:∀ k,k≠g→w'.heap[k]? = w.heap[k]?
theorem xJ.refl (g:Nat) (w:World):xJ g w w:=⟨rfl,rfl,rfl,rfl,fun _ _=>rfl⟩
theorem xJ.row (g:Nat) (w:World) (cs:Array Value):xJ g w (w.setRow g cs):=⟨rfl,rfl,rfl,by simp,fun k h=>setRow_other w g k cs h⟩
theorem xJ.below {g B:Nat} {w w':World} (h:xJ g w w') (hB:B≤g):Below B w w':=⟨h.os,h.tape,h.output,Nat.le_of_eq h.size.symm,fun k hk=>h.block k (by omega)⟩
theorem ir {P:Program} {ops:Array Oper} {o:Oper} {a:Act} {w:World} {K:Act→World→Prop} {Q:Exit→Act→World→Prop} {E:Prop} (hgd:o.guard=none) (d s:Operand) (dT sT:TypeId)
    (ho:o.op=.call { callee:=.builtin .copy,args:=#[d,s],argTypes:=#[dT,sT] }) (elem:TypeId) (hu:P.underlying dT=some (.slice elem)) (hsz:(P.info? elem).map (·.size)=some 1)
    (dp sp:Option Addr) (dLen dCap sLen sCap:Nat) (hd:a.eval d=.slice dp dLen dCap) (hs:a.eval s=.slice sp sLen sCap)
    (g off:Nat) (cur:List Value) (t:TypeId) (hg:w.heap[g]? = some (.cells cur.toArray t (0,0))) (cs:List Value) (hn:cs.length=Nat.min sLen dLen)
    (hpos:0<cs.length→dp=some ⟨g,off,none⟩∧∃ ad,sp=some ad∧∀ j v,cs[j]? = some v→w.cell? (ad.add j)=some v)
    (hfit:off+cs.length≤cur.length) (h1:∀ v∈cs,v.oneCell'=true)
    (h:∀ w',Hid (w'.heap[g]? = some (.cells (splice cur off cs).toArray t (0,0)))→xJ g w w'→K (a.put o.dst (goInt cs.length)) w') :
    if Region.wanted o (yielded ops a.tmps)=true then Oper.wp P o a w K Q else E:=by
 have hw:Region.wanted o (yielded ops a.tmps)=true:=(by simp [Region.wanted,hgd]);rw [if_pos hw];by_cases h0:cs.length=0
 ·obtain rfl:cs = []:=List.eq_nil_of_length_eq_zero h0;have hrun:=run_copy_none (P:=P) w dT sT o.type elem dp sp dLen dCap sLen sCap hu hsz (by simpa using hn.symm);unfold Oper.wp;simp [execOp,ho,resolve,invoke,builtin,hd,hs,hrun,Result.andThen];exact h w (show _=_ by simpa [splice] using hg) (xJ.refl _ _)
 obtain⟨rfl,ad,rfl,hsrc⟩:=hpos (by omega);have hrun:=run_copy_row (P:=P) w dT sT o.type elem g off dLen dCap ad sLen sCap cur.toArray t cs hu hsz hg hn hsrc (by simpa using hfit) h1;unfold Oper.wp;simp [execOp,ho,resolve,invoke,builtin,hd,hs,hrun,Result.andThen];exact h _ (show _=_ by simpa [splice] using setRow_heap w g _ _ t _ hg) (xJ.row _ _ _)
theorem Kp.only {lo g:Nat} {w w':World} {t:TypeId} {cs:Array Value} (h:xJ g w w') (hb:ai w g t cs) (ht:t = 21 ∨ t = 202) (hg:lo≤g):Kp lo w w' :=
  ⟨h.below hg,fun k t' cs' hk h3 h4=>by
    have hne:k≠g:=by
      rintro rfl
      unfold ai at hb hk
      rw [hb]at hk
      injection hk with hk
      injection hk with _ hk
      subst hk
      rcases ht with rfl | rfl
      · exact h3 rfl
      · exact h4 rfl
    exact(h.block k hne).trans hk⟩
theorem NT {lo:Nat} {b:Nat} {A Z:List Int} {w:World} (h:uR lo w b A Z) (E:List Int) (A2:Option Addr) (m c2:Nat) (hE:cE w (fun x=>x<lo) 1 A2 m (runeCells E)) (hm:m≤20) (hs:A.length+Z.length≤4000) :
    Calls Tryz.prog 125 #[.pointer (some ⟨b,0,none⟩),.slice A2 m c2] w fun e w'=>e=.returned (.tuple #[])∧uR lo w' b (A++E) Z∧Kp lo w w':=by
 have MO:E.length=m:=(by have:=hE.1;rw [runeCells_length]at this;omega);have HR:=qqh (LI h m hm hs);have HE:=qqh hE;have ue:=qqh MO;have hlo:lo≤w.heap.size:=by
  obtain⟨L,n,D,f,t,h1,hb,_⟩:=h;have:=h1.buf.lt;omega
 clear h hE MO;go_enter Tryz.func125,Tryz.ntmps125;go_wp2_with fail;refine HR.out.mono ?_;rintro e w1 ⟨rfl,⟨L,n,D,f,t,h1,hb,hL,hA,hZ,hroom⟩,hkp⟩;have hle:=h1.le;have hend:=h1.end_;have wW:=h1.small;have H1:=qqh h1;have HA:=qqh hA;have HZ:=qqh hZ;have HK:=qqh hkp;have wV:=qqh (HE.out.keep (w':=w1) (X':=fun x=>x<lo) (fun x hx hl=>⟨hkp.below.block x hx,hx,Nat.lt_of_lt_of_le hl hkp.below.size⟩));have c0:=h1.buf.cell 0;have c1:=h1.buf.cell 1;have Mx:=h1.buf.cell 2;have sJ:=qqh (show(runeCells E).length=Nat.min m (n - f) by rw [runeCells_length,ue.out];show m=min m (n - f);omega);have BW:=qqh (show f+(runeCells E).length≤(runeCells D).length by rw [runeCells_length,runeCells_length,ue.out,h1.len];omega);have hfn:f≤n:=(by omega);have hwrap:IntKind.i64.wrap ((f:Int)+(m:Int))=(f:Int)+(m:Int):=(by rw [IntKind.wrap_i64];omega);have qq:=qqh (show(runeCells E).length=m by rw [runeCells_length,ue.out]);clear h1 hA hZ hkp HR;rcases Nat.eq_zero_or_pos m with h0 | h0
 ·have nT:=qqh (show ¬ 0<(runeCells E).length by rw [runeCells_length,ue.out,h0];exact Nat.lt_irrefl 0);clear h0;go_upto_region 1 with fail;refine az (S:=fun w'=>w'.cell? ⟨b,0,none⟩=some (.slice (some ⟨L,0,none⟩) n n)∧w'.cell? ⟨b,1,none⟩=some (.int .i64 f)) [3,7,11] (by kernel_rfl) ⟨c0,c1⟩ (fun bh=>?_);apply tp 0 8 rfl (by kernel_rfl) (fun _ _ _ h=>h) (by rfl)
  ·intro w _;go_simp;(try with_reducible rfl)
  (try simp only [zp,za,z0,zs]);apply tp 1 9 rfl (by kernel_rfl) (fun _ _ _ h=>h) (by rfl)
  ·intro w _;go_simp;(try with_reducible rfl)
  (try simp only [zp,za,z0,zs]);apply tp 2 10 rfl (by kernel_rfl) (fun _ _ _ h=>h) (by rfl)
  ·intro w _;go_simp;(try with_reducible rfl)
  (try simp only [zp,za,z0,zs]);apply tt 3 11 rfl (by kernel_rfl) (fun _ _ _ h=>h) (by rfl) (by assumption)
  ·intro w qU;(try dsimp only at qU);go_simp;(try with_reducible rfl)
  (try simp only [zp,za,z0,zs]);apply tp 4 12 rfl (by kernel_rfl) (fun _ _ _ h=>h) (by rfl)
  ·intro w _;go_simp;(try with_reducible rfl)
  (try simp only [zp,za,z0,zs]);apply tp 5 13 rfl (by kernel_rfl) (fun _ _ _ h=>h) (by rfl)
  ·intro w _;go_simp;(try with_reducible rfl)
  (try simp only [zp,za,z0,zs]);apply tp 6 14 rfl (by kernel_rfl) (fun _ _ _ h=>h) (by rfl)
  ·intro w _;go_simp;(try with_reducible rfl)
  (try simp only [zp,za,z0,zs]);apply tt 7 15 rfl (by kernel_rfl) (fun _ _ _ h=>h) (by rfl) (by assumption)
  ·intro w qU;(try dsimp only at qU);go_simp;(try with_reducible rfl)
  (try simp only [zp,za,z0,zs]);apply tp 8 16 rfl (by kernel_rfl) (fun _ _ _ h=>h) (by rfl)
  ·intro w _;go_simp;(try with_reducible rfl)
  (try simp only [zp,za,z0,zs]);apply tp 9 17 rfl (by kernel_rfl) (fun _ _ _ h=>h) (by rfl)
  ·intro w _;go_simp;(try with_reducible rfl)
  (try simp only [zp,za,z0,zs]);apply tp 10 18 rfl (by kernel_rfl) (fun _ _ _ h=>h) (by rfl)
  ·intro w _;go_simp;(try with_reducible rfl)
  (try simp only [zp,za,z0,zs]);apply tt 11 19 rfl (by kernel_rfl) (fun _ _ _ h=>h) (by rfl) (by assumption)
  ·intro w qU;(try dsimp only at qU);go_simp;(try with_reducible rfl)
  (try simp only [zp,za,z0,zs]);apply tp 12 20 rfl (by kernel_rfl) (fun _ _ _ h=>h) (by rfl)
  ·intro w _;go_simp;(try with_reducible rfl)
  (try simp only [zp,za,z0,zs]);apply tp 13 21 rfl (by kernel_rfl) (fun _ _ _ h=>h) (by rfl)
  ·intro w _;go_simp;(try with_reducible rfl)
  (try simp only [zp,za,z0,zs]);refine aF (i:=14) (o:=⟨some 22,_,_,_,_,_⟩) (by kernel_rfl) rfl (fun K hK=>?_);refine ir rfl (.tmp 20) (.tmp 21) 26 26 rfl 21 Tryz.underlying26 (by kernel_rfl) _ _ _ _ _ _ rfl rfl L f (runeCells D) 21 H1.out.row (runeCells E) sJ.out (fun hp=>absurd hp nT.out) BW.out (bf _) ?_;intro w4 F0 ri;rw [qq.out];have Mn:=qqh (show ai w4 L 21 (runeCells (splice D f E)).toArray by rw [← dU];exact F0.out);have dP:=qqh (show ai w4 b 202 #[.slice (some ⟨L,0,none⟩) n n,.int .i64 f,.int .i64 t] from(ri.block b H1.out.ne).trans H1.out.buf);have mX:=qqh ri;have Ad:=qqh (show w4.cell? ⟨b,0,none⟩=some (.slice (some ⟨L,0,none⟩) n n)∧w4.cell? ⟨b,1,none⟩=some (.int .i64 f) from⟨dP.out.cell 0,dP.out.cell 1⟩);clear F0 ri;(try dsimp only);refine hK.out _ _ ?_ (fun bh=>?_);exact Ad.out;clear hK K;(try simp only [zp,za,z0,zs]);apply tp 15 23 rfl (by kernel_rfl) (fun _ _ _ h=>h) (by rfl)
  ·intro w _;go_simp;(try with_reducible rfl)
  (try simp only [zp,za,z0,zs]);apply tp 16 24 rfl (by kernel_rfl) (fun _ _ _ h=>h) (by rfl)
  ·intro w _;go_simp;(try with_reducible rfl)
  (try simp only [zp,za,z0,zs]);apply tp 17 25 rfl (by kernel_rfl) (fun _ _ _ h=>h) (by rfl)
  ·intro w _;go_simp;(try with_reducible rfl)
  (try simp only [zp,za,z0,zs]);refine aA (i:=18) (by kernel_rfl) rfl (by kernel_rfl) (fun K hK=>?_);have d1:=dP.out.cell 1;have g1:=dP.out.frozen 1;go_simp;(try dsimp only);refine hK.out _ _ ?_;clear hK K;refine aJ (by kernel_rfl) ?_ _;go_simp;go_wp2_with fail
  all_goals
    go_end0
    refine⟨rfl,?_,?_⟩
    · have hsp:=jg (D:=D) (E:=E) (o:=f) (by rw [ue.out,H1.out.len];omega)
      rw [ue.out]at hsp
      have hput:=dP.out.put 1 (.int .i64 ((f:Int)+(m:Int)))
      refine⟨L,n,splice D f E,f+m,t,⟨?_,?_,?_,hroom,hend,wW⟩,hb,hL,?_,?_⟩
      · simpa using hput
      · exact(Mn.out.other dP.out (Ne.symm kE) 1 _)
      · rw [length_splice _ _ _ (by rw [ue.out,H1.out.len];omega),H1.out.len]
      · rw [hsp.2.2,HA.out]
      · have e1:(splice D f E).drop t=((splice D f E).drop (f+m)).drop (t - (f+m)):=by rw [List.drop_drop,show f+m+(t - (f+m))=t by omega]
        rw [e1,hsp.2.1,List.drop_drop,show f+m+(t - (f+m))=t by omega,HZ.out]
    · exact(HK.out.drew.trans ((Kp.only mX.out (show ai w1.drew L 21 _ from H1.out.row) (.inl rfl) hL))).trans (Kp.set dP.out (.inr rfl) hb 1 _)
 obtain⟨b2,off2,rfl,aR,YE,hc2⟩:=wV.out.2 h0;have GF:=qqh (show ∀ j v,(runeCells E)[j]? = some v→w1.cell? ((⟨b2,off2,none⟩:Addr).add j)=some v from fun j v hj=>by rw [gT];exact hc2 j v hj);have hnf:¬ n=f:=(by omega);clear hc2;go_upto_region 1 with fail;refine az (S:=fun w'=>w'.cell? ⟨b,0,none⟩=some (.slice (some ⟨L,0,none⟩) n n)∧w'.cell? ⟨b,1,none⟩=some (.int .i64 f)) [3,7,11] (by kernel_rfl) ⟨c0,c1⟩ (fun bh=>?_);apply tp 0 8 rfl (by kernel_rfl) (fun _ _ _ h=>h) (by rfl)
 ·intro w _;go_simp;(try with_reducible rfl)
 (try simp only [zp,za,z0,zs]);apply tp 1 9 rfl (by kernel_rfl) (fun _ _ _ h=>h) (by rfl)
 ·intro w _;go_simp;(try with_reducible rfl)
 (try simp only [zp,za,z0,zs]);apply tp 2 10 rfl (by kernel_rfl) (fun _ _ _ h=>h) (by rfl)
 ·intro w _;go_simp;(try with_reducible rfl)
 (try simp only [zp,za,z0,zs]);apply tt 3 11 rfl (by kernel_rfl) (fun _ _ _ h=>h) (by rfl) (by assumption)
 ·intro w qU;(try dsimp only at qU);go_simp;(try with_reducible rfl)
 (try simp only [zp,za,z0,zs]);apply tp 4 12 rfl (by kernel_rfl) (fun _ _ _ h=>h) (by rfl)
 ·intro w _;go_simp;(try with_reducible rfl)
 (try simp only [zp,za,z0,zs]);apply tp 5 13 rfl (by kernel_rfl) (fun _ _ _ h=>h) (by rfl)
 ·intro w _;go_simp;(try with_reducible rfl)
 (try simp only [zp,za,z0,zs]);apply tp 6 14 rfl (by kernel_rfl) (fun _ _ _ h=>h) (by rfl)
 ·intro w _;go_simp;(try with_reducible rfl)
 (try simp only [zp,za,z0,zs]);apply tt 7 15 rfl (by kernel_rfl) (fun _ _ _ h=>h) (by rfl) (by assumption)
 ·intro w qU;(try dsimp only at qU);go_simp;(try with_reducible rfl)
 (try simp only [zp,za,z0,zs]);apply tp 8 16 rfl (by kernel_rfl) (fun _ _ _ h=>h) (by rfl)
 ·intro w _;go_simp;(try with_reducible rfl)
 (try simp only [zp,za,z0,zs]);apply tp 9 17 rfl (by kernel_rfl) (fun _ _ _ h=>h) (by rfl)
 ·intro w _;go_simp;(try with_reducible rfl)
 (try simp only [zp,za,z0,zs]);apply tp 10 18 rfl (by kernel_rfl) (fun _ _ _ h=>h) (by rfl)
 ·intro w _;go_simp;(try with_reducible rfl)
 (try simp only [zp,za,z0,zs]);apply tt 11 19 rfl (by kernel_rfl) (fun _ _ _ h=>h) (by rfl) (by assumption)
 ·intro w qU;(try dsimp only at qU);go_simp;(try with_reducible rfl)
 (try simp only [zp,za,z0,zs]);apply tp 12 20 rfl (by kernel_rfl) (fun _ _ _ h=>h) (by rfl)
 ·intro w _;go_simp;(try with_reducible rfl)
 (try simp only [zp,za,z0,zs]);apply tp 13 21 rfl (by kernel_rfl) (fun _ _ _ h=>h) (by rfl)
 ·intro w _;go_simp;(try with_reducible rfl)
 (try simp only [zp,za,z0,zs]);refine aF (i:=14) (o:=⟨some 22,_,_,_,_,_⟩) (by kernel_rfl) rfl (fun K hK=>?_);refine ir rfl (.tmp 20) (.tmp 21) 26 26 rfl 21 Tryz.underlying26 (by kernel_rfl) _ _ _ _ _ _ rfl rfl L f (runeCells D) 21 H1.out.row (runeCells E) sJ.out (fun _=>⟨rfl,_,rfl,GF.out⟩) BW.out (bf _) ?_;intro w4 F0 ri;rw [qq.out];have Mn:=qqh (show ai w4 L 21 (runeCells (splice D f E)).toArray by rw [← dU];exact F0.out);have dP:=qqh (show ai w4 b 202 #[.slice (some ⟨L,0,none⟩) n n,.int .i64 f,.int .i64 t] from(ri.block b H1.out.ne).trans H1.out.buf);have mX:=qqh ri;have Ad:=qqh (show w4.cell? ⟨b,0,none⟩=some (.slice (some ⟨L,0,none⟩) n n)∧w4.cell? ⟨b,1,none⟩=some (.int .i64 f) from⟨dP.out.cell 0,dP.out.cell 1⟩);clear F0 ri;(try dsimp only);refine hK.out _ _ ?_ (fun bh=>?_);exact Ad.out;clear hK K;(try simp only [zp,za,z0,zs]);apply tp 15 23 rfl (by kernel_rfl) (fun _ _ _ h=>h) (by rfl)
 ·intro w _;go_simp;(try with_reducible rfl)
 (try simp only [zp,za,z0,zs]);apply tp 16 24 rfl (by kernel_rfl) (fun _ _ _ h=>h) (by rfl)
 ·intro w _;go_simp;(try with_reducible rfl)
 (try simp only [zp,za,z0,zs]);apply tp 17 25 rfl (by kernel_rfl) (fun _ _ _ h=>h) (by rfl)
 ·intro w _;go_simp;(try with_reducible rfl)
 (try simp only [zp,za,z0,zs]);refine aA (i:=18) (by kernel_rfl) rfl (by kernel_rfl) (fun K hK=>?_);have d1:=dP.out.cell 1;have g1:=dP.out.frozen 1;go_simp;(try dsimp only);refine hK.out _ _ ?_;clear hK K;refine aJ (by kernel_rfl) ?_ _;go_simp;go_wp2_with fail
 all_goals
   go_end0
   refine⟨rfl,?_,?_⟩
   · have hsp:=jg (D:=D) (E:=E) (o:=f) (by rw [ue.out,H1.out.len];omega)
     rw [ue.out]at hsp
     have hput:=dP.out.put 1 (.int .i64 ((f:Int)+(m:Int)))
     refine⟨L,n,splice D f E,f+m,t,⟨?_,?_,?_,hroom,hend,wW⟩,hb,hL,?_,?_⟩
     · simpa using hput
     · exact(Mn.out.other dP.out (Ne.symm kE) 1 _)
     · rw [length_splice _ _ _ (by rw [ue.out,H1.out.len];omega),H1.out.len]
     · rw [hsp.2.2,HA.out]
     · have e1:(splice D f E).drop t=((splice D f E).drop (f+m)).drop (t - (f+m)):=by rw [List.drop_drop,show f+m+(t - (f+m))=t by omega]
       rw [e1,hsp.2.1,List.drop_drop,show f+m+(t - (f+m))=t by omega,HZ.out]
   · exact(HK.out.drew.trans ((Kp.only mX.out (show ai w1.drew L 21 _ from H1.out.row) (.inl rfl) hL))).trans (Kp.set dP.out (.inr rfl) hb 1 _)
theorem Nl (w:World) (B sz:Nat) (A:Option Addr):Rd w B sz A 0 []:=⟨by simp,fun h=>absurd h (Nat.lt_irrefl 0)⟩
theorem IT {lo:Nat} {b:Nat} {A Z:List Int} {w:World} (h:uR lo w b A Z) :
    Calls Tryz.prog 103 #[.pointer (some ⟨b,0,none⟩)] w fun e w'=>(∃ v,e=.returned v∧w'.ownsRow w.heap.size 21 1 v (A++Z).length (runeCells (A++Z)))∧Below w.heap.size w w':=by
 obtain⟨i0,hi,R6,z1,z2⟩:=info_parts Tryz.info21;obtain⟨L,n,D,f,t,h1,hb,hL,hA,hZ⟩:=h;obtain⟨hlA,hlZ⟩:=h1.lens hA hZ;have hle:=h1.le;have hend:=h1.end_;have wW:=h1.small;have c0:=h1.buf.cell 0;have c1:=h1.buf.cell 1;have c2:=h1.buf.cell 2;have hfn:f≤n:=(by omega);have H1:=qqh h1;have HA:=qqh hA;have HZ:=qqh hZ;have iR:=qqh (show Rd w w.heap.size 1 (some ⟨L,0,none⟩) f (runeCells (D.take f)) from⟨by rw [runeCells_length,List.length_take,h1.len];omega,fun _=>⟨L,0,rfl,h1.row.lt,fun j u hu=>by rw [Nat.zero_add];exact vU h1.row j u hu⟩⟩);have iT:=qqh (show Rd w w.heap.size 1 (some ⟨L,t,none⟩) (n - t) (runeCells (D.drop t)) from⟨by rw [runeCells_length,List.length_drop,h1.len];omega,fun _=>⟨L,t,rfl,h1.row.lt,fun j u hu=>wg h1.row j u hu⟩⟩);clear h1 hA hZ;go_enter Tryz.func103,Tryz.ntmps103;go_wp2_with fail;by_cases hnt:n=t
 ·obtain rfl:=hnt;have hZ0:D.drop n = []:=List.drop_of_length_le (by rw [H1.out.len];exact Nat.le_refl _);have SZ:=qqh (HZ.out.symm.trans hZ0);clear hZ0;go_upto_region 1 with fail;refine az (S:=fun w'=>w'.cell? ⟨b,0,none⟩=some (.slice (some ⟨L,0,none⟩) n n)∧w'.cell? ⟨b,1,none⟩=some (.int .i64 f)∧w'.cell? ⟨b,2,none⟩=some (.int .i64 n)) [3,7,13,17] (by kernel_rfl) ⟨c0,c1,c2⟩ (fun bh=>?_);apply tp 0 3 rfl (by kernel_rfl) (fun _ _ _ h=>h) (by rfl)
  ·intro w _;go_simp;(try with_reducible rfl)
  (try simp only [zp,za,z0,zs]);apply tp 1 4 rfl (by kernel_rfl) (fun _ _ _ h=>h) (by rfl)
  ·intro w _;go_simp;(try with_reducible rfl)
  (try simp only [zp,za,z0,zs]);apply tp 2 5 rfl (by kernel_rfl) (fun _ _ _ h=>h) (by rfl)
  ·intro w _;go_simp;(try with_reducible rfl)
  (try simp only [zp,za,z0,zs]);apply tt 3 6 rfl (by kernel_rfl) (fun _ _ _ h=>h) (by rfl) (by assumption)
  ·intro w qU;(try dsimp only at qU);go_simp;(try with_reducible rfl)
  (try simp only [zp,za,z0,zs]);apply tp 4 7 rfl (by kernel_rfl) (fun _ _ _ h=>h) (by rfl)
  ·intro w _;go_simp;(try with_reducible rfl)
  (try simp only [zp,za,z0,zs]);apply tp 5 8 rfl (by kernel_rfl) (fun _ _ _ h=>h) (by rfl)
  ·intro w _;go_simp;(try with_reducible rfl)
  (try simp only [zp,za,z0,zs]);apply tp 6 9 rfl (by kernel_rfl) (fun _ _ _ h=>h) (by rfl)
  ·intro w _;go_simp;(try with_reducible rfl)
  (try simp only [zp,za,z0,zs]);apply tt 7 10 rfl (by kernel_rfl) (fun _ _ _ h=>h) (by rfl) (by assumption)
  ·intro w qU;(try dsimp only at qU);go_simp;(try with_reducible rfl)
  (try simp only [zp,za,z0,zs]);apply tp 8 11 rfl (by kernel_rfl) (fun _ _ _ h=>h) (by rfl)
  ·intro w _;go_simp;(try with_reducible rfl)
  (try simp only [zp,za,z0,zs]);apply tp 10 13 rfl (by kernel_rfl) (fun _ _ _ h=>h) (by rfl)
  ·intro w _;go_simp;(try with_reducible rfl)
  (try simp only [zp,za,z0,zs]);apply tp 11 14 rfl (by kernel_rfl) (fun _ _ _ h=>h) (by rfl)
  ·intro w _;go_simp;(try with_reducible rfl)
  (try simp only [zp,za,z0,zs]);apply tp 12 15 rfl (by kernel_rfl) (fun _ _ _ h=>h) (by rfl)
  ·intro w _;go_simp;(try with_reducible rfl)
  (try simp only [zp,za,z0,zs]);apply tt 13 16 rfl (by kernel_rfl) (fun _ _ _ h=>h) (by rfl) (by assumption)
  ·intro w qU;(try dsimp only at qU);go_simp;(try with_reducible rfl)
  (try simp only [zp,za,z0,zs]);apply tp 14 17 rfl (by kernel_rfl) (fun _ _ _ h=>h) (by rfl)
  ·intro w _;go_simp;(try with_reducible rfl)
  (try simp only [zp,za,z0,zs]);apply tp 15 18 rfl (by kernel_rfl) (fun _ _ _ h=>h) (by rfl)
  ·intro w _;go_simp;(try with_reducible rfl)
  (try simp only [zp,za,z0,zs]);apply tp 16 19 rfl (by kernel_rfl) (fun _ _ _ h=>h) (by rfl)
  ·intro w _;go_simp;(try with_reducible rfl)
  (try simp only [zp,za,z0,zs]);apply tt 17 20 rfl (by kernel_rfl) (fun _ _ _ h=>h) (by rfl) (by assumption)
  ·intro w qU;(try dsimp only at qU);go_simp;(try with_reducible rfl)
  (try simp only [zp,za,z0,zs]);apply tp 18 21 rfl (by kernel_rfl) (fun _ _ _ h=>h) (by rfl)
  ·intro w _;go_simp;(try with_reducible rfl)
  (try simp only [zp,za,z0,zs]);refine aF (i:=9) (o:=⟨some 12,_,_,_,_,_⟩) (by kernel_rfl) rfl (fun K hK=>?_);refine cA _ rfl (.const (.slice none 0 0)) (.tmp 11) 26 rfl w.heap.size 21 i0 _ 1 4 Tryz.underlying26 hi R6 z1 z2 rfl (by decide) _ _ _ rfl (World.ownsRow_nil w.drew w.heap.size 21 1) _ (some ⟨L,0,none⟩) f n (runeCells (D.take f)) rfl iR.out (bf _) (by simp only [maxLen];omega) (by omega) (Nat.le_refl _) ?_;intro v4 w4 an;have hb4:=an.below (Nat.le_refl _) (World.ownsRow_nil w.drew w.heap.size 21 1);have uX:Below w.heap.size w w4:=⟨hb4.os,hb4.tape,hb4.output,hb4.size,hb4.block⟩;have dP:=qqh uX;have ri:=an.own;rw [Nat.zero_add,List.nil_append]at ri;have mX:=qqh ri;have Ad:=qqh (show w4.cell? ⟨b,0,none⟩=some (.slice (some ⟨L,0,none⟩) n n)∧w4.cell? ⟨b,1,none⟩=some (.int .i64 f)∧w4.cell? ⟨b,2,none⟩=some (.int .i64 n) from⟨(ai.below H1.out.buf uX H1.out.buf.lt).cell 0,(ai.below H1.out.buf uX H1.out.buf.lt).cell 1,(ai.below H1.out.buf uX H1.out.buf.lt).cell 2⟩);clear an hb4 uX ri;(try dsimp only);refine hK.out _ _ ?_ (fun bh=>?_);exact Ad.out;clear hK K;(try simp only [zp,za,z0,zs]);refine aA (i:=19) (o:=⟨some 22,_,_,_,_,_⟩) (by kernel_rfl) rfl (by kernel_rfl) (fun K hK=>?_);refine cA _ rfl (.tmp 12) (.tmp 21) 26 rfl w.heap.size 21 i0 _ 1 4 Tryz.underlying26 hi R6 z1 z2 rfl (by decide) _ _ _ rfl mX.out _ _ _ _ [] rfl (Nl _ 0 _ _) (by simp) (by simp only [maxLen];omega) (by omega) dP.out.size ?_;intro v5 w5 an;have dN:=qqh (dP.out.trans (an.below dP.out.size mX.out));have tO:=qqh an.own;clear an;(try dsimp only);refine hK.out _ _ ?_;clear hK K;(try simp only [zp,za,z0,zs]);apply tp 20 2 rfl (by kernel_rfl) (fun _ _ _ h=>h) (by rfl)
  ·intro w _;go_simp;(try with_reducible rfl)
  (try simp only [zp,za,z0,zs]);refine aJ (by kernel_rfl) ?_ _;go_simp;go_wp2_with fail;go_ret;refine⟨⟨v5,rfl,?_⟩,dN.out⟩;have:=tO.out;rw [HA.out]at this;rw [SZ.out,List.append_nil];have hl:A.length=f:=hlA;rw [hl];simpa using this
 go_upto_region 1 with fail;refine az (S:=fun w'=>w'.cell? ⟨b,0,none⟩=some (.slice (some ⟨L,0,none⟩) n n)∧w'.cell? ⟨b,1,none⟩=some (.int .i64 f)∧w'.cell? ⟨b,2,none⟩=some (.int .i64 t)) [3,7,13,17] (by kernel_rfl) ⟨c0,c1,c2⟩ (fun bh=>?_);apply tp 0 3 rfl (by kernel_rfl) (fun _ _ _ h=>h) (by rfl)
 ·intro w _;go_simp;(try with_reducible rfl)
 (try simp only [zp,za,z0,zs]);apply tp 1 4 rfl (by kernel_rfl) (fun _ _ _ h=>h) (by rfl)
 ·intro w _;go_simp;(try with_reducible rfl)
 (try simp only [zp,za,z0,zs]);apply tp 2 5 rfl (by kernel_rfl) (fun _ _ _ h=>h) (by rfl)
 ·intro w _;go_simp;(try with_reducible rfl)
 (try simp only [zp,za,z0,zs]);apply tt 3 6 rfl (by kernel_rfl) (fun _ _ _ h=>h) (by rfl) (by assumption)
 ·intro w qU;(try dsimp only at qU);go_simp;(try with_reducible rfl)
 (try simp only [zp,za,z0,zs]);apply tp 4 7 rfl (by kernel_rfl) (fun _ _ _ h=>h) (by rfl)
 ·intro w _;go_simp;(try with_reducible rfl)
 (try simp only [zp,za,z0,zs]);apply tp 5 8 rfl (by kernel_rfl) (fun _ _ _ h=>h) (by rfl)
 ·intro w _;go_simp;(try with_reducible rfl)
 (try simp only [zp,za,z0,zs]);apply tp 6 9 rfl (by kernel_rfl) (fun _ _ _ h=>h) (by rfl)
 ·intro w _;go_simp;(try with_reducible rfl)
 (try simp only [zp,za,z0,zs]);apply tt 7 10 rfl (by kernel_rfl) (fun _ _ _ h=>h) (by rfl) (by assumption)
 ·intro w qU;(try dsimp only at qU);go_simp;(try with_reducible rfl)
 (try simp only [zp,za,z0,zs]);apply tp 8 11 rfl (by kernel_rfl) (fun _ _ _ h=>h) (by rfl)
 ·intro w _;go_simp;(try with_reducible rfl)
 (try simp only [zp,za,z0,zs]);apply tp 10 13 rfl (by kernel_rfl) (fun _ _ _ h=>h) (by rfl)
 ·intro w _;go_simp;(try with_reducible rfl)
 (try simp only [zp,za,z0,zs]);apply tp 11 14 rfl (by kernel_rfl) (fun _ _ _ h=>h) (by rfl)
 ·intro w _;go_simp;(try with_reducible rfl)
 (try simp only [zp,za,z0,zs]);apply tp 12 15 rfl (by kernel_rfl) (fun _ _ _ h=>h) (by rfl)
 ·intro w _;go_simp;(try with_reducible rfl)
 (try simp only [zp,za,z0,zs]);apply tt 13 16 rfl (by kernel_rfl) (fun _ _ _ h=>h) (by rfl) (by assumption)
 ·intro w qU;(try dsimp only at qU);go_simp;(try with_reducible rfl)
 (try simp only [zp,za,z0,zs]);apply tp 14 17 rfl (by kernel_rfl) (fun _ _ _ h=>h) (by rfl)
 ·intro w _;go_simp;(try with_reducible rfl)
 (try simp only [zp,za,z0,zs]);apply tp 15 18 rfl (by kernel_rfl) (fun _ _ _ h=>h) (by rfl)
 ·intro w _;go_simp;(try with_reducible rfl)
 (try simp only [zp,za,z0,zs]);apply tp 16 19 rfl (by kernel_rfl) (fun _ _ _ h=>h) (by rfl)
 ·intro w _;go_simp;(try with_reducible rfl)
 (try simp only [zp,za,z0,zs]);apply tt 17 20 rfl (by kernel_rfl) (fun _ _ _ h=>h) (by rfl) (by assumption)
 ·intro w qU;(try dsimp only at qU);go_simp;(try with_reducible rfl)
 (try simp only [zp,za,z0,zs]);apply tp 18 21 rfl (by kernel_rfl) (fun _ _ _ h=>h) (by rfl)
 ·intro w _;go_simp;(try with_reducible rfl)
 (try simp only [zp,za,z0,zs]);refine aF (i:=9) (o:=⟨some 12,_,_,_,_,_⟩) (by kernel_rfl) rfl (fun K hK=>?_);refine cA _ rfl (.const (.slice none 0 0)) (.tmp 11) 26 rfl w.heap.size 21 i0 _ 1 4 Tryz.underlying26 hi R6 z1 z2 rfl (by decide) _ _ _ rfl (World.ownsRow_nil w.drew w.heap.size 21 1) _ (some ⟨L,0,none⟩) f n (runeCells (D.take f)) rfl iR.out (bf _) (by simp only [maxLen];omega) (by omega) (Nat.le_refl _) ?_;intro v4 w4 an;have hb4:=an.below (Nat.le_refl _) (World.ownsRow_nil w.drew w.heap.size 21 1);have uX:Below w.heap.size w w4:=⟨hb4.os,hb4.tape,hb4.output,hb4.size,hb4.block⟩;have dP:=qqh uX;have ri:=an.own;rw [Nat.zero_add,List.nil_append]at ri;have mX:=qqh ri;have Ad:=qqh (show w4.cell? ⟨b,0,none⟩=some (.slice (some ⟨L,0,none⟩) n n)∧w4.cell? ⟨b,1,none⟩=some (.int .i64 f)∧w4.cell? ⟨b,2,none⟩=some (.int .i64 t) from⟨(ai.below H1.out.buf uX H1.out.buf.lt).cell 0,(ai.below H1.out.buf uX H1.out.buf.lt).cell 1,(ai.below H1.out.buf uX H1.out.buf.lt).cell 2⟩);clear an hb4 uX ri;(try dsimp only);refine hK.out _ _ ?_ (fun bh=>?_);exact Ad.out;clear hK K;(try simp only [zp,za,z0,zs]);refine aA (i:=19) (o:=⟨some 22,_,_,_,_,_⟩) (by kernel_rfl) rfl (by kernel_rfl) (fun K hK=>?_);refine cA _ rfl (.tmp 12) (.tmp 21) 26 rfl w.heap.size 21 i0 _ 1 4 Tryz.underlying26 hi R6 z1 z2 rfl (by decide) _ _ _ rfl mX.out _ (some ⟨L,t,none⟩) _ _ (runeCells (D.drop t)) rfl (Rd.below iT.out dP.out) (bf _) (by simp only [maxLen];omega) (by omega) dP.out.size ?_;intro v5 w5 an;have dN:=qqh (dP.out.trans (an.below dP.out.size mX.out));have tO:=qqh an.own;clear an;(try dsimp only);refine hK.out _ _ ?_;clear hK K;(try simp only [zp,za,z0,zs]);apply tp 20 2 rfl (by kernel_rfl) (fun _ _ _ h=>h) (by rfl)
 ·intro w _;go_simp;(try with_reducible rfl)
 (try simp only [zp,za,z0,zs]);refine aJ (by kernel_rfl) ?_ _;go_simp;go_wp2_with fail;go_ret;refine⟨⟨v5,rfl,?_⟩,dN.out⟩;have:=tO.out;rw [HA.out,HZ.out,← gB]at this;have hl:(A++Z).length=f+(n - t):=(by rw [List.length_append];omega);rw [hl];exact this
theorem MQ (E:List Int) (A2:Option Addr) (m c2:Nat) (w:World) (hE:Rd w w.heap.size 1 A2 m (runeCells E)) (hm:m≤4000) :
    Calls Tryz.prog 99 #[.slice A2 m c2] w fun e w'=>e=.returned (.pointer (some ⟨w.heap.size+1,0,none⟩))∧uR w.heap.size w' (w.heap.size+1) [] E∧Below w.heap.size w w':=by
 have MO:E.length=m:=(by have:=hE.1;rw [runeCells_length]at this;omega);obtain⟨N,hN⟩:∃ N:Nat,N=m+16:=⟨_,rfl⟩;have hNi:(m:Int)+16=(N:Int):=(by omega);have hmk:=fun w=>nw N (by omega) w;have h16:(N:Int) - (m:Int)=16:=(by omega);have Z5:N≤m+16:=(by omega);have hN2:m+16≤N:=(by omega);have ad3:16≤N:=(by omega);have afo:(16:Int)≤(N:Int):=(by omega);have ue:=qqh MO;have sJ:=qqh (show(runeCells E).length=Nat.min m (N - 16) by rw [runeCells_length,MO];show m=min m (N - 16);omega);have BW:=qqh (show 16+(runeCells E).length≤(runeCells (List.replicate N 0)).length by rw [runeCells_length,runeCells_length,MO,List.length_replicate];omega);have hsp:=jg (D:=List.replicate N (0:Int)) (E:=E) (o:=16) (by rw [MO,List.length_replicate];omega);have aO:=qqh (show(splice (List.replicate N (0:Int)) 16 E).length=N by rw [length_splice _ _ _ (by rw [MO,List.length_replicate];omega),List.length_replicate]);have Mr:=qqh (show(splice (List.replicate N (0:Int)) 16 E).drop 16=E by
  have e1:=hsp.2.2;rw [MO,List.take_of_length_le (by rw [aO.out];omega)]at e1;rw [e1,List.drop_left' (by rw [List.length_take,List.length_replicate];omega)])
 clear hsp hN MO;go_enter Tryz.func99,Tryz.ntmps99;go_upto_region 3 with fail;have dV:=((Below.refl w.heap.size w).alloc (Nat.le_refl _) (.cells (runeCells (List.replicate N 0)).toArray 21)).alloc (by simp) (.cells #[.slice (some ⟨w.heap.size,0,none⟩) N N,.int .i64 0,.int .i64 16] 202);have ie:=ai.new (w.alloc (.cells (runeCells (List.replicate N 0)).toArray 21)) 202 #[.slice (some ⟨w.heap.size,0,none⟩) N N,.int .i64 0,.int .i64 16];rw [show(w.alloc (.cells (runeCells (List.replicate N 0)).toArray 21)).heap.size=w.heap.size+1 by simp]at ie;have hg:=(ai.new w 21 (runeCells (List.replicate N 0)).toArray).alloc (.cells #[.slice (some ⟨w.heap.size,0,none⟩) N N,.int .i64 0,.int .i64 16] 202);generalize Pt:((w.alloc (.cells (runeCells (List.replicate N 0)).toArray 21)).alloc (.cells #[.slice (some ⟨w.heap.size,0,none⟩) N N,.int .i64 0,.int .i64 16] 202))=W3 at *;have c0:=ie.cell 0;have Mx:=ie.cell 2;have su:=qqh ie;have HG:=qqh hg;have tV:=qqh dV;have wV:=qqh (hE.below dV);clear ie hg dV hE Pt hmk;rcases Nat.eq_zero_or_pos m with h0 | h0
 ·have nT:=qqh (show ¬ 0<(runeCells E).length by rw [runeCells_length,ue.out,h0];exact Nat.lt_irrefl 0);clear h0;refine az (S:=fun w'=>w'.cell? ⟨w.heap.size+1,0,none⟩=some (.slice (some ⟨w.heap.size,0,none⟩) N N)∧w'.cell? ⟨w.heap.size+1,2,none⟩=some (.int .i64 16)) [3,7] (by kernel_rfl) ⟨c0,Mx⟩ (fun bh=>?_);refine tq 0 21 ?_;(try simp only [zp,za,z0,zs]);refine tq 1 22 ?_;(try simp only [zp,za,z0,zs]);refine tq 2 23 ?_;(try simp only [zp,za,z0,zs]);refine tu 3 24 ?_;(try simp only [zp,za,z0,zs]);refine tq 4 25 ?_;(try simp only [zp,za,z0,zs]);refine tq 5 26 ?_;(try simp only [zp,za,z0,zs]);refine tq 6 27 ?_;(try simp only [zp,za,z0,zs]);refine tu 7 28 ?_;(try simp only [zp,za,z0,zs]);refine tq 8 29 ?_;(try simp only [zp,za,z0,zs]);refine tq 9 30 ?_;(try simp only [zp,za,z0,zs]);refine aA (i:=10) (o:=⟨some 31,_,_,_,_,_⟩) (by kernel_rfl) rfl (by kernel_rfl) (fun K hK=>?_);refine ir rfl (.tmp 29) (.tmp 30) 26 26 rfl 21 Tryz.underlying26 (by kernel_rfl) _ _ _ _ _ _ rfl rfl w.heap.size 16 (runeCells (List.replicate N 0)) 21 HG.out (runeCells E) sJ.out (fun hp=>absurd hp nT.out) BW.out (bf _) ?_;intro w4 F0 ri;have Mn:=qqh (show ai w4 w.heap.size 21 (runeCells (splice (List.replicate N 0) 16 E)).toArray by rw [← dU];exact F0.out);have dP:=qqh (show ai w4 (w.heap.size+1) 202 #[.slice (some ⟨w.heap.size,0,none⟩) N N,.int .i64 0,.int .i64 16] from(ri.block _ (by omega)).trans su.out);have mX:=qqh (tV.out.trans ((aC (Below.refl w.heap.size W3)).trans (ri.below (Nat.le_refl _))));clear F0 ri;(try dsimp only);refine hK.out _ _ ?_;clear hK K;(try simp only [zp,za,z0,zs]);refine aJ (by kernel_rfl) ?_ _;go_simp;go_wp2_with fail
  all_goals
    go_ret
    refine⟨rfl,⟨w.heap.size,N,splice (List.replicate N 0) 16 E,0,16,⟨dP.out,Mn.out,aO.out,by omega,by omega,by omega⟩,by omega,Nat.le_refl _,rfl,Mr.out⟩,mX.out⟩
 obtain⟨b2,off2,rfl,aR,hc2⟩:=wV.out.2 h0;have GF:=qqh (show ∀ j v,(runeCells E)[j]? = some v→W3.cell? ((⟨b2,off2,none⟩:Addr).add j)=some v from fun j v hj=>by rw [gT];exact hc2 j v hj);have hnf:¬ N=16:=(by omega);clear hc2;refine az (S:=fun w'=>w'.cell? ⟨w.heap.size+1,0,none⟩=some (.slice (some ⟨w.heap.size,0,none⟩) N N)∧w'.cell? ⟨w.heap.size+1,2,none⟩=some (.int .i64 16)) [3,7] (by kernel_rfl) ⟨c0,Mx⟩ (fun bh=>?_);refine tq 0 21 ?_;(try simp only [zp,za,z0,zs]);refine tq 1 22 ?_;(try simp only [zp,za,z0,zs]);refine tq 2 23 ?_;(try simp only [zp,za,z0,zs]);refine tu 3 24 ?_;(try simp only [zp,za,z0,zs]);refine tq 4 25 ?_;(try simp only [zp,za,z0,zs]);refine tq 5 26 ?_;(try simp only [zp,za,z0,zs]);refine tq 6 27 ?_;(try simp only [zp,za,z0,zs]);refine tu 7 28 ?_;(try simp only [zp,za,z0,zs]);refine tq 8 29 ?_;(try simp only [zp,za,z0,zs]);refine tq 9 30 ?_;(try simp only [zp,za,z0,zs]);refine aA (i:=10) (o:=⟨some 31,_,_,_,_,_⟩) (by kernel_rfl) rfl (by kernel_rfl) (fun K hK=>?_);refine ir rfl (.tmp 29) (.tmp 30) 26 26 rfl 21 Tryz.underlying26 (by kernel_rfl) _ _ _ _ _ _ rfl rfl w.heap.size 16 (runeCells (List.replicate N 0)) 21 HG.out (runeCells E) sJ.out (fun _=>⟨rfl,_,rfl,GF.out⟩) BW.out (bf _) ?_;intro w4 F0 ri;have Mn:=qqh (show ai w4 w.heap.size 21 (runeCells (splice (List.replicate N 0) 16 E)).toArray by rw [← dU];exact F0.out);have dP:=qqh (show ai w4 (w.heap.size+1) 202 #[.slice (some ⟨w.heap.size,0,none⟩) N N,.int .i64 0,.int .i64 16] from(ri.block _ (by omega)).trans su.out);have mX:=qqh (tV.out.trans ((aC (Below.refl w.heap.size W3)).trans (ri.below (Nat.le_refl _))));clear F0 ri;(try dsimp only);refine hK.out _ _ ?_;clear hK K;(try simp only [zp,za,z0,zs])
 refine aJ (by kernel_rfl) ?_ _;go_simp;go_wp2_with fail
 all_goals
   go_ret
   refine⟨rfl,⟨w.heap.size,N,splice (List.replicate N 0) 16 E,0,16,⟨dP.out,Mn.out,aO.out,by omega,by omega,by omega⟩,by omega,Nat.le_refl _,rfl,Mr.out⟩,mX.out⟩
end Go.Proofs.YthgkedoildcbcaaGreatDoor
