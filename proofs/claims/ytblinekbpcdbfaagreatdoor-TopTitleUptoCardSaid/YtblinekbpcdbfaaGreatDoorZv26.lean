/- GapAll -/
import Derived.Test.YtblinekbpcdbfaaGreatDoorZv12
import Derived.Test.YtblinekbpcdbfaaGreatDoorZv2
import Derived.Laws.CopyOwn
import Derived.Laws.MakeOwn
import Derived.Deep.QuietTactic
import Derived.BigQuiet
import Derived.BigRegion
import Derived.Deep.DeepCutAuto
import Derived.Deep.CutBlock
import Derived.RowKit
import Derived.Below
set_option maxHeartbeats 3200000
set_option maxRecDepth 100000
namespace Go.Proofs.YtblinekbpcdbfaaGreatDoor
open Go.RowKit
structure Kp (lo:Nat) (w w':World):Prop where
  below:Below lo w w'
  other:∀ (k:Nat) (t:TypeId) (cs:Array Value),aj w k t cs→t ≠ 21 → t ≠ 221 → aj w' k t cs
theorem Kp.refl (lo:Nat) (w:World):Kp lo w w:=⟨qqb,fun _ _ _ h _ _=>h⟩
theorem Kp.trans {lo:Nat} {w w1 w2:World} (h:Kp lo w w1) (h2:Kp lo w1 w2):Kp lo w w2:=⟨h.below.trans h2.below,fun k t cs hb h3 h4=>h2.other k t cs (h.other k t cs hb h3 h4) h3 h4⟩
theorem Kp.all {lo:Nat} {w w1:World} (h:Below w.heap.size w w1) (hlo:lo≤w.heap.size):Kp lo w w1:=⟨h.mono hlo,fun _ _ _ hb _ _=>aj.below hb h hb.lt⟩
theorem Kp.set {lo:Nat} {w:World} {g:Nat} {t:TypeId} {cs:Array Value} (h:aj w g t cs) (ht:t = 21 ∨ t = 221) (hg:lo≤g) (i:Nat) (u:Value):Kp lo w (w.setCell ⟨g,i,none⟩ u) :=
  ⟨qqb.setCell hg _,fun k t' cs' hb h3 h4=>by
    have hne:k≠g:=by
      rintro rfl
      unfold aj at h hb
      rw [h]at hb
      injection hb with hb
      injection hb with _ hb
      subst hb
      rcases ht with rfl | rfl
      · exact h3 rfl
      · exact h4 rfl
    exact(Below.heap_setCell _ _ _ _ hne).trans hb⟩
structure fy (w:World) (b L n:Nat) (D:List Int) (f t:Nat):Prop where
  buf:aj w b 221 #[.slice (some ⟨L,0,none⟩) n n,.int .i64 f,.int .i64 t]
  row:aj w L 21 (runeCells D).toArray
  len:D.length=n
  le:f≤t
  end_:t≤n
  small:n≤9000
def xP (lo:Nat) (w:World) (b:Nat) (A Z:List Int):Prop:=∃ (L n:Nat) (D:List Int) (f t:Nat),fy w b L n D f t∧lo≤b∧lo≤L∧D.take f=A∧D.drop t=Z
theorem kB:(221 : TypeId) ≠ 21:=by decide
theorem tA {w:World} {g g':Nat} {t t':TypeId} {cs cs':Array Value} (h:aj w g t cs) (h':aj w g' t' cs') (hne:t≠t'):g≠g':=by
 rintro rfl;unfold aj at h h';rw [h]at h';injection h' with h';injection h' with _ h';exact hne h'
theorem fy.ne {w:World} {b L n:Nat} {D:List Int} {f t:Nat} (h:fy w b L n D f t):b≠L:=tA h.buf h.row kB
theorem fy.below {w w':World} {b L n:Nat} {D:List Int} {f t:Nat} (h:fy w b L n D f t) (hb:Below w.heap.size w w'):fy w' b L n D f t :=
  ⟨aj.below h.buf hb h.buf.lt,aj.below h.row hb h.row.lt,h.len,h.le,h.end_,h.small⟩
theorem xP.below {lo:Nat} {w w':World} {b:Nat} {A Z:List Int} (h:xP lo w b A Z) (hb:Below w.heap.size w w'):xP lo w' b A Z:=by
 obtain⟨L,n,D,f,t,h1,h2⟩:=h;exact⟨L,n,D,f,t,h1.below hb,h2⟩
theorem fy.lens {w:World} {b L n:Nat} {D A Z:List Int} {f t:Nat} (h:fy w b L n D f t) (hA:D.take f=A) (hZ:D.drop t=Z):A.length=f∧Z.length+t=n:=by
 have h1:=h.len;have h2:=h.le;have h3:=h.end_;subst hA hZ;rw [List.length_take,List.length_drop];omega
theorem fy.cell {w:World} {b L n:Nat} {D:List Int} {f t:Nat} (h:fy w b L n D f t) {k:Nat} {x:Int} (hk:D[k]? = some x):w.cell? ⟨L,k,none⟩=some (.int .i32 x):=by
 rw [h.row.cell];simp [runeCells,hk]
theorem sG {lo:Nat} {b:Nat} {A Z:List Int} {w:World} (h:xP lo w b A Z) :
    Calls Tryz.prog 131 #[.pointer (some ⟨b,0,none⟩)] w fun e w'=>e=.returned (.int .i64 A.length)∧w'=w:=by
 obtain⟨L,n,D,f,t,h1,_,_,hA,hZ⟩:=h;obtain⟨e1,_⟩:=h1.lens hA hZ;have c1:=h1.buf.cell 1;rw [e1];clear h1 hA hZ e1;go_enter Tryz.func131,Tryz.ntmps131;go_wp2_with fail;go_ret;exact⟨rfl,rfl⟩
theorem uP {lo:Nat} {b:Nat} {A Z:List Int} {w:World} (h:xP lo w b A Z) :
    Calls Tryz.prog 132 #[.pointer (some ⟨b,0,none⟩)] w fun e w'=>e=.returned (.int .i64 (A.length+Z.length:Nat))∧∃ k,w'=w.drewN k:=by
 obtain⟨L,n,D,f,t,h1,_,_,hA,hZ⟩:=h;obtain⟨e1,e2⟩:=h1.lens hA hZ;have c0:=h1.buf.cell 0;have c1:=h1.buf.cell 1;have c2:=h1.buf.cell 2;have hle:=h1.le;have hend:=h1.end_;have Hr:=h1.small;have hr:((A.length+Z.length:Nat):Int)=(n:Int) - ((t:Int) - (f:Int)):=(by omega);rw [hr];clear h1 hA hZ e1 e2 hr;go_enter Tryz.func132,Tryz.ntmps132;go_wp2_with fail;go_quiet (fail);go_wp2_with fail;go_ret;exact⟨rfl,_,rfl⟩
theorem AV {D A Z:List Int} {f t:Nat} (hA:D.take f=A) (hZ:D.drop t=Z) (hf:A.length=f) {k:Nat} {x:Int} (hx:(A++Z)[k]? = some x):D[if f≤k then k+(t - f)else k]? = some x∨t<f:=by
 subst hA hZ;by_cases ht:t<f;exact .inr ht;left;by_cases hk:f≤k
 ·rw [if_pos hk];rw [List.getElem?_append_right (by omega),hf,List.getElem?_drop]at hx;rwa [show k+(t - f)=t+(k - f) by omega]
 rw [if_neg hk];rw [List.getElem?_append_left (by omega),List.getElem?_take,if_pos (by omega)]at hx;exact hx
theorem B5 {lo:Nat} {b:Nat} {A Z:List Int} {w:World} (h:xP lo w b A Z) (k:Nat) (x:Int) (hx:(A++Z)[k]? = some x) :
    Calls Tryz.prog 164 #[.pointer (some ⟨b,0,none⟩),.int .i64 k] w fun e w'=>e=.returned (.int .i32 x)∧∃ k,w'=w.drewN k:=by
 obtain⟨L,n,D,f,t,h1,_,_,hA,hZ⟩:=h;obtain⟨e1,e2⟩:=h1.lens hA hZ;have c0:=h1.buf.cell 0;have c1:=h1.buf.cell 1;have c2:=h1.buf.cell 2;have hle:=h1.le;have hend:=h1.end_;have Hr:=h1.small;have hD:=(AV hA hZ e1 hx).resolve_right (by omega);have hcell:=h1.cell hD;have ZW:=(List.getElem?_eq_some_iff.1 hD).1;rw [h1.len]at ZW;by_cases hk:f≤k
 ·rw [if_pos hk]at hcell ZW;have hidx:(k:Int)+((t:Int) - (f:Int))=((k+(t - f):Nat):Int):=(by omega);generalize k+(t - f)=j at *;have hd:decide (f≤k)=true:=decide_eq_true hk;clear h1 hA hZ e1 e2 hx hD;go_enter Tryz.func164,Tryz.ntmps164;go_wp2_with fail;go_quiet (fail);have k0:(w.drewN nq).cell? ⟨b,0,none⟩=some (.slice (some ⟨L,0,none⟩) n n):=c0;have k3:(w.drewN nq).cell? ⟨L,j,none⟩=some (.int .i32 x):=hcell;go_wp2_with fail;go_ret;exact⟨rfl,_,rfl⟩
 rw [if_neg hk]at hcell ZW;have hd:decide (f≤k)=false:=decide_eq_false hk;clear h1 hA hZ e1 e2 hx hD;go_enter Tryz.func164,Tryz.ntmps164;go_wp2_with fail;go_ret;exact⟨rfl,0,rfl⟩
theorem yb (D:List Int) (i:Nat) (x:Int):(runeCells (D.set i x)).toArray=(runeCells D).toArray.setIfInBounds i (.int .i32 x):=by
 simp [runeCells,List.map_set]
theorem aj.UZ {w:World} {b L n:Nat} {f t f' t':Int} (h:aj w b 221 #[.slice (some ⟨L,0,none⟩) n n,.int .i64 f,.int .i64 t]) :
    aj ((w.setCell ⟨b,1,none⟩ (.int .i64 f')).setCell ⟨b,2,none⟩ (.int .i64 t')) b 221 #[.slice (some ⟨L,0,none⟩) n n,.int .i64 f',.int .i64 t']:=(h.put 1 _).put 2 _
theorem aj.other {w:World} {g g':Nat} {t t':TypeId} {cs cs':Array Value} (h:aj w g t cs) (h':aj w g' t' cs') (hne:t≠t') (i:Nat) (u:Value):aj (w.setCell ⟨g',i,none⟩ u) g t cs :=
  (Below.heap_setCell _ _ _ _ (tA h h' hne)).trans h
theorem fy.gap {w:World} {lo b L n:Nat} {D:List Int} {f t:Nat} (h:fy w b L n D f t) (hb:lo≤b) {f' t':Nat} (hle:f'≤t') (hend:t'≤n) :
    fy ((w.setCell ⟨b,1,none⟩ (.int .i64 f')).setCell ⟨b,2,none⟩ (.int .i64 t')) b L n D f' t'∧Kp lo w ((w.setCell ⟨b,1,none⟩ (.int .i64 f')).setCell ⟨b,2,none⟩ (.int .i64 t')) :=
  ⟨⟨aj.UZ h.buf,(h.row.other h.buf (Ne.symm kB) 1 _).other (h.buf.put 1 (.int .i64 (f':Int))) (Ne.symm kB) 2 _,h.len,hle,hend,h.small⟩,
   (Kp.set h.buf (.inr rfl) hb 1 _).trans (Kp.set (h.buf.put 1 (.int .i64 (f':Int))) (.inr rfl) hb 2 _)⟩
theorem fy.place {w:World} {lo b L n:Nat} {D:List Int} {f t:Nat} (h:fy w b L n D f t) (hL:lo≤L) (i:Nat) (x:Int) :
    fy (w.setCell ⟨L,i,none⟩ (.int .i32 x)) b L n (D.set i x) f t∧Kp lo w (w.setCell ⟨L,i,none⟩ (.int .i32 x)):=by
 refine⟨⟨h.buf.other h.row kB i _,?_,by simp [h.len],h.le,h.end_,h.small⟩,Kp.set h.row (.inl rfl) hL i _⟩;rw [yb];exact h.row.put i _
theorem fy.drew {w:World} {b L n:Nat} {D:List Int} {f t:Nat} (h:fy w b L n D f t):fy w.drew b L n D f t:=⟨h.buf,h.row,h.len,h.le,h.end_,h.small⟩
theorem Kp.drew {lo:Nat} {w w':World} (h:Kp lo w w'):Kp lo w w'.drew:=⟨⟨h.below.os,h.below.tape,h.below.output,h.below.size,h.below.block⟩,h.other⟩
theorem Kp.drewN {lo:Nat} {w w':World} (h:Kp lo w w') (k:Nat):Kp lo w (w'.drewN k):=⟨below_drewN h.below k,h.other⟩
def Az (b:Nat) (w:World):Nat:=match w.cell? ⟨b,1,none⟩with | some (.int _ x)=>x.toNat | _=>0
theorem fy.from_ {w:World} {b L n:Nat} {D:List Int} {f t:Nat} (h:fy w b L n D f t):Az b w=f:=by
 unfold Az;rw [h.buf.cell];simp
def Hu (lo:Nat) (w:World) (b:Nat) (T:List Int) (wr:World) (p:Nat→Prop):Prop :=
  ∃ (L n:Nat) (D:List Int) (f t:Nat),fy wr b L n D f t∧lo≤b∧lo≤L∧D.take f++D.drop t=T∧p f∧Kp lo w wr
theorem IK {D T:List Int} {f t:Nat} {x:Int} (h:D.take (f+1)++D.drop (t+1)=T) (hf:f≤t) (ht:t<D.length) (hx:D[f]? = some x):(D.set t x).take f++(D.set t x).drop t=T:=by
 rw [← h,List.take_add_one,hx,List.take_set_of_le (by omega),List.drop_eq_getElem_cons (by simpa using ht),List.getElem_set_self,List.drop_set_of_lt (by omega)];simp
theorem F8 {D T:List Int} {f t:Nat} {x:Int} (h:D.take f++D.drop t=T) (hf:f≤t) (hx:D[t]? = some x):(D.set f x).take (f+1)++(D.set f x).drop (t+1)=T:=by
 have ht:=(List.getElem?_eq_some_iff.1 hx).1;have hxx:=(List.getElem?_eq_some_iff.1 hx).2;rw [← h,List.take_add_one,List.take_set_of_le (by omega),List.getElem?_set_self (by omega),List.drop_set_of_lt (by omega),List.drop_eq_getElem_cons ht,hxx];simp
theorem S3 {lo:Nat} {w:World} {b L n:Nat} {D T:List Int} {f t:Nat} (h:fy w b L n D f t) (hb:lo≤b) (hL:lo≤L) (hT:D.take f++D.drop t=T):xP lo w b (T.take f) (T.drop f):=by
 have h1:=h.len;have h2:=h.le;have h3:=h.end_;have hl:(D.take f).length=f:=(by rw [List.length_take];omega);refine⟨L,n,D,f,t,h,hb,hL,?_,?_⟩
 ·rw [← hT,List.take_left' hl]
 rw [← hT,List.drop_left' hl]
theorem Ch {lo:Nat} {b:Nat} {A Z:List Int} {w:World} (h:xP lo w b A Z) (k:Nat) (hk:k≤A.length+Z.length) :
    Calls Tryz.prog 145 #[.pointer (some ⟨b,0,none⟩),.int .i64 k] w fun e w'=>e=.returned (.tuple #[])∧xP lo w' b ((A++Z).take k) ((A++Z).drop k)∧Kp lo w w':=by
 obtain⟨L,n,D,f,t,h1,hb,hL,hA,hZ⟩:=h;have HS:=qqh (show Hu lo w b (A++Z) w (fun _=>True) from⟨L,n,D,f,t,h1,hb,hL,by rw [hA,hZ],trivial,Kp.refl _ _⟩);have TG:(A++Z).length=A.length+Z.length:=List.length_append;generalize A++Z=T at *;clear h1 hA hZ hb hL;go_enter Tryz.func145,Tryz.ntmps145;go_wp2_with fail;go_loopw [] (fun wr=>Hu lo w b T wr (fun _=>True)) (fun wr=>Az b wr);(case atStart=>exact HS.out);obtain⟨L,n,D,f,t,h1,hb,hL,hT,_,hkp⟩:=hrel;have hfr:=h1.from_;have hle:=h1.le;have hend:=h1.end_;have Hr:=h1.small;have c0:=h1.buf.cell 0;have c1:=h1.buf.cell 1;have c2:=h1.buf.cell 2;have f1:=h1.buf.frozen 1;have f2:=h1.buf.frozen 2;have H1:=qqh h1;have HT:=qqh hT;have HK:=qqh hkp;have Y3:=qqh hfr;clear h1 hT hkp hfr;by_cases hlt:k<f
 ·obtain⟨f',rfl⟩:∃ q,f=q+1:=⟨f - 1,by omega⟩;obtain⟨t',rfl⟩:∃ q,t=q+1:=⟨t - 1,by omega⟩;obtain⟨x,hx⟩:∃ x,D[f']? = some x:=⟨_,List.getElem?_eq_getElem (by rw [H1.out.len];omega)⟩;have hd:decide (k<f' + 1)=true:=decide_eq_true hlt;have HX:=qqh hx;clear hx;go_upto_region 3 with fail;have aX:=aj.UZ (f':=(f':Int)) (t':=(t':Int)) H1.out.buf;have iW:=(H1.out.row.other H1.out.buf (Ne.symm kB) 1 (.int .i64 (f':Int))).other (H1.out.buf.put 1 (.int .i64 (f':Int))) (Ne.symm kB) 2 (.int .i64 (t':Int));have HG:=qqh (H1.out.gap hb (f':=f') (t':=t') (by omega) (by omega));have qi:=qqh (HG.out.1.place hL t' x).1;have oV:=qqh (HG.out.2.trans (HG.out.1.place hL t' x).2);generalize QG:(wr.setCell ⟨b,1,none⟩ (.int .i64 (f':Int))).setCell ⟨b,2,none⟩ (.int .i64 (t':Int))=W3 at *;have d0:=aX.cell 0;have d1:=aX.cell 1;have d2:=aX.cell 2;have e1:W3.cell? ⟨L,f',none⟩=some (.int .i32 x):=(by rw [iW.cell];simp [runeCells,HX.out]);obtain⟨y,hy⟩:∃ y,D[t']? = some y:=⟨_,List.getElem?_eq_getElem (by rw [H1.out.len];omega)⟩;have e2:W3.cell? ⟨L,t',none⟩=some (.int .i32 y):=(by rw [iW.cell];simp [runeCells,hy]);have e3:=iW.frozen t';have afT:t' < n:=(by omega);have ag8:f' < n:=(by omega);clear aX iW hy c0 c1 c2 f1 f2 hd;go_region
  all_goals
    go_wp2_with fail
    refine⟨⟨L,n,_,f',t',qi.out.drew,hb,hL,IK HT.out (by omega) (by rw [H1.out.len];omega) HX.out,trivial,(HK.out.trans oV.out).drew⟩,?_⟩
    rw [Y3.out,qi.out.drew.from_]
    omega
 have hd:decide (k<f)=false:=decide_eq_false hlt;have jS:=qqh (show Hu lo w b T wr (fun f=>f≤k) from⟨L,n,D,f,t,H1.out,hb,hL,HT.out,by omega,HK.out⟩);clear HS H1 HT HK Y3 hlt;go_wp2_with fail;clear hle hend Hr c0 c1 c2 f1 f2 hd hb hL;go_loopw [] (fun wr=>Hu lo w b T wr (fun f=>f≤k)) (fun wr=>k - Az b wr);(case atStart=>exact jS.out);obtain⟨L,n,D,f,t,h1,hb,hL,hT,hfk,hkp⟩:=hrel;have hfr:=h1.from_;have hle:=h1.le;have hend:=h1.end_;have Hr:=h1.small;have c0:=h1.buf.cell 0;have c1:=h1.buf.cell 1;have c2:=h1.buf.cell 2;have f1:=h1.buf.frozen 1;have f2:=h1.buf.frozen 2;have hTn:T.length=f+(n - t):=(by rw [← hT,List.length_append,List.length_take,List.length_drop,h1.len];omega);have H1:=qqh h1;have HT:=qqh hT;have HK:=qqh hkp;have Y3:=qqh hfr;clear h1 hT hkp hfr;by_cases hlt:f<k
 ·obtain⟨x,hx⟩:∃ x,D[t]? = some x:=⟨_,List.getElem?_eq_getElem (by rw [H1.out.len];omega)⟩;have hd:decide (f<k)=true:=decide_eq_true hlt;have HX:=qqh hx;clear hx;go_upto_region 5 with fail;have aX:=H1.out.buf;have iW:=H1.out.row;have e1:wr.cell? ⟨L,t,none⟩=some (.int .i32 x):=(by rw [iW.cell];simp [runeCells,HX.out]);obtain⟨y,hy⟩:∃ y,D[f]? = some y:=⟨_,List.getElem?_eq_getElem (by rw [H1.out.len];omega)⟩;have e2:wr.cell? ⟨L,f,none⟩=some (.int .i32 y):=(by rw [iW.cell];simp [runeCells,hy]);have e3:=iW.frozen f;have htn:t<n:=(by omega);have hfn:f<n:=(by omega);clear aX iW hy;go_region
  all_goals
    have HP:=qqh (H1.out.place hL f x)
    have hb4:=HP.out.1.drew.buf
    have HG:=qqh (HP.out.1.drew.gap hb (f':=f+1) (t':=t+1) (by omega) (by omega))
    have oV:=qqh (HK.out.trans (HP.out.2.drew.trans HG.out.2))
    have zj:=qqh (F8 HT.out hle HX.out)
    clear HP
    generalize SW:(wr.setCell ⟨L,f,none⟩ (.int .i32 x)).drew=W4 at *
    have g1:=hb4.cell 1
    have g2:=hb4.cell 2
    have k1:=hb4.frozen 1
    have k2:=hb4.frozen 2
    clear hb4 c0 c1 c2 f1 f2 e1 e2 e3
    go_wp2_with fail
    refine⟨⟨L,n,_,f+1,t+1,HG.out.1,hb,hL,zj.out,by omega,oV.out⟩,?_⟩
    have e9:=HG.out.1.from_
    rw [Y3.out]
    simp only [Int.natCast_add,Int.cast_ofNat_Int]at e9
    rw [e9]
    omega
 obtain rfl:f=k:=(by omega);have hd:decide (f<f)=false:=decide_eq_false (by omega);have HB:=qqh (S3 H1.out hb hL HT.out);go_wp2_with fail;go_end0;exact⟨rfl,HB.out,HK.out⟩
theorem O0 {lo:Nat} {b:Nat} {A Z:List Int} {w:World} (h:xP lo w b A Z) (k:Nat) (hk:k≤Z.length) :
    Calls Tryz.prog 146 #[.pointer (some ⟨b,0,none⟩),.int .i64 k] w fun e w'=>e=.returned (.tuple #[])∧xP lo w' b A (Z.drop k)∧Kp lo w w':=by
 obtain⟨L,n,D,f,t,h1,hb,hL,hA,hZ⟩:=h;obtain⟨l1,l2⟩:=h1.lens hA hZ;have hle:=h1.le;have Hr:=h1.small;have c2:=h1.buf.cell 2;have f2:=h1.buf.frozen 2;have HB:=qqh (show xP lo (w.setCell ⟨b,2,none⟩ (.int .i64 ((t:Int)+(k:Int)))) b A (Z.drop k)∧Kp lo w (w.setCell ⟨b,2,none⟩ (.int .i64 ((t:Int)+(k:Int)))) by
  have h2:=h1.buf.put 2 (.int .i64 ((t:Int)+(k:Int)));refine⟨⟨L,n,D,f,t+k,⟨?_,h1.row.other h1.buf (Ne.symm kB) 2 _,h1.len,by omega,by omega,h1.small⟩,hb,hL,hA,?_⟩,Kp.set h1.buf (.inr rfl) hb 2 _⟩
  ·simpa using h2
  rw [← hZ,List.drop_drop])
 clear h1 hA hZ;go_enter Tryz.func146,Tryz.ntmps146;go_wp2_with fail;go_end0;exact⟨rfl,HB.out⟩
def VP (lo:Nat) (w:World) (b:Nat) (A Z:List Int) (k:Nat):Prop:=∃ (L n:Nat) (D:List Int) (f t:Nat),fy w b L n D f t∧lo≤b∧lo≤L∧D.take f=A∧D.drop t=Z∧f+k≤t
theorem dX (D E:List Int) (o:Nat):(splice (runeCells D) o (runeCells E))=runeCells (splice D o E):=by
 simp [runeCells,splice,List.map_take,List.map_drop]
theorem jy {D E:List Int} {o:Nat} (h:o+E.length≤D.length):(splice D o E).take o=D.take o∧(splice D o E).drop (o+E.length)=D.drop (o+E.length)∧(splice D o E).take (o+E.length)=D.take o++E:=by
 unfold splice;have hl:(D.take o).length=o:=(by rw [List.length_take];omega);refine⟨List.take_left' hl,?_,?_⟩
 ·rw [← List.append_assoc,List.drop_left' (by rw [List.length_append,hl])]
 rw [← List.append_assoc,List.take_left' (by rw [List.length_append,hl])]
theorem Eb {w:World} {L:Nat} {D:List Int} (h:aj w L 21 (runeCells D).toArray):∀ j v,(runeCells D)[j]? = some v→w.cell? ⟨L,j,none⟩=some v:=by
 intro j v hv;rw [h.cell];simpa using hv
theorem xq {w:World} {L f:Nat} {D:List Int} (h:aj w L 21 (runeCells D).toArray):∀ j v,(runeCells (D.take f))[j]? = some v→w.cell? ⟨L,j,none⟩=some v:=by
 intro j v hv;apply Eb h;rw [dU]at hv ⊢;rw [List.getElem?_take]at hv;split at hv;exact hv;cases hv
theorem xE {w:World} {L f:Nat} {D:List Int} (h:aj w L 21 (runeCells D).toArray):∀ j v,(runeCells (D.drop f))[j]? = some v→w.cell? ⟨L,f+j,none⟩=some v:=by
 intro j v hv;apply Eb h;rw [dU]at hv ⊢;rwa [List.getElem?_drop]at hv
theorem Is (n:Nat):madeCells (Value.int .i32 0).cells n=(runeCells (List.replicate n 0)).toArray:=by
 unfold madeCells;have h:∀ i:Nat,(Value.int .i32 0).cells[i % (Value.int .i32 0).cells.size]! = Value.int .i32 0:=by
  intro i;rw [show(Value.int .i32 0).cells.size=1 from rfl,Nat.mod_one];rfl
 apply Array.ext';simp only [h];simp [runeCells,List.map_const',Array.toList_range]
theorem nU (n:Nat) (hn:n≤1000000) (w:World):(Instr.makeSlice 24 (.int .i64 n) (.int .i64 n)).run Tryz.prog w=.ok (.slice (some ⟨w.heap.size,0,none⟩) n n) (w.alloc (.cells (runeCells (List.replicate n 0)).toArray 21)):=by
 obtain⟨i0,hi,TX,z1,z2⟩:=info_parts Tryz.info21;have:=run_make (P:=Tryz.prog) w 24 21 i0 (.int .i32 0) Tryz.underlying24 hi TX .i64 .i64 n n (by omega) (Int.le_refl _) (by rw [z2];omega) (by omega);rw [z1,Int.toNat_natCast,Nat.mul_one,Is]at this;exact this
theorem L9 {lo:Nat} {b:Nat} {A Z:List Int} {w:World} (h:xP lo w b A Z) (k:Nat) (hk:k≤20) (hs:A.length+Z.length≤4000) :
    Calls Tryz.prog 167 #[.pointer (some ⟨b,0,none⟩),.int .i64 k] w fun e w'=>e=.returned (.tuple #[])∧VP lo w' b A Z k∧Kp lo w w':=by
 obtain⟨L,n,D,f,t,h1,hb,hL,hA,hZ⟩:=h;obtain⟨l1,l2⟩:=h1.lens hA hZ;have hle:=h1.le;have hend:=h1.end_;have Hr:=h1.small;have c0:=h1.buf.cell 0;have c1:=h1.buf.cell 1;have c2:=h1.buf.cell 2;have H1:=qqh h1;have HA:=qqh hA;have HZ:=qqh hZ;have J2:=h1.buf.lt;have U5:=h1.row.lt;clear h1 hA hZ;by_cases O6:f+k≤t
 ·have hd:decide ((k:Int)≤(t:Int) - (f:Int))=true:=decide_eq_true (by omega);go_enter Tryz.func167,Tryz.ntmps167;go_wp2_with fail;go_quiet (fail);go_wp2_with fail;(try simp only [Exit.inBlock,Exit.then]);refine bodyPost_ret (results_none rfl _ _ _) rfl ?_;exact⟨rfl,⟨L,n,D,f,t,⟨H1.out.buf,H1.out.row,H1.out.len,hle,hend,Hr⟩,hb,hL,HA.out,HZ.out,O6⟩,(Kp.refl _ _).drewN nq⟩
 have hd:decide ((k:Int)≤(t:Int) - (f:Int))=false:=decide_eq_false (by omega);obtain⟨N,hN⟩:∃ N:Nat,N=2*n+k:=⟨_,rfl⟩;obtain⟨T,hT⟩:∃ T:Nat,T=N - (n - t):=⟨_,rfl⟩;have Uf:(N:Int) - ((n:Int) - (t:Int))=(T:Int):=(by omega);have hN1:N≤2*n+k:=(by omega);have Uw:2*n+k≤N:=(by omega);have hT1:T+(n - t)≤N:=(by omega);have hT2:N≤T+(n - t):=(by omega);have hfN:f≤N:=(by omega);have hTN:T≤N:=(by omega);have hfn:f≤n:=(by omega);have hmk:∀ w:World,(Instr.makeSlice 24 (.int .i64 (2*(n:Int)+(k:Int))) (.int .i64 (2*(n:Int)+(k:Int)))).run Tryz.prog w=.ok (.slice (some ⟨w.heap.size,0,none⟩) N N) (w.alloc (.cells (runeCells (List.replicate N 0)).toArray 21)):=by
  intro w;have:=nU N (by omega) w;rwa [show(N:Int)=2*(n:Int)+(k:Int) by omega]at this
 have tc:=qqh (show(runeCells (D.take f)).length=Nat.min f N by rw [runeCells_length,List.length_take,H1.out.len];show min f n=min f N;omega);have Dt:=qqh (show 0+(runeCells (D.take f)).length≤(runeCells (List.replicate N 0)).length by rw [runeCells_length,runeCells_length,List.length_take,List.length_replicate];omega);have acj:n≤4020:=(by omega);clear hN hT;go_enter Tryz.func167,Tryz.ntmps167;go_wp2_with fail;go_quiet (fail);have k0:(w.drewN nq).cell? ⟨b,0,none⟩=some (.slice (some ⟨L,0,none⟩) n n):=c0;go_upto_region 2 with fail;clear k0 hmk hd c0 c1 c2;have fq:=(below_drewN (Below.refl w.heap.size w) nq).alloc qql (.cells (runeCells (List.replicate N 0)).toArray 21);have ko:=H1.out.below fq;have hg:=aj.new (w.drewN nq) 21 (runeCells (List.replicate N 0)).toArray;have bJ:=qqh fq;generalize U1:(w.drewN nq).alloc (.cells (runeCells (List.replicate N 0)).toArray 21)=W1 at *;have hgg:(w.drewN nq).heap.size=w.heap.size:=rfl;rw [hgg]at hg;have d0:=ko.buf.cell 0;have d1:=ko.buf.cell 1;have nx:=qqh ko;have HG:=qqh hg;have HGL:=qqh hg.lt;have Jt:=qqh (show ∀ j v,(runeCells (D.take f))[j]? = some v→W1.cell? ((⟨L,0,none⟩:Addr).add j)=some v from fun j v hj=>by rw [gz,Nat.zero_add];exact xq ko.row j v hj);clear fq ko hg hgg U1
 go_region_law
   (first | (refine step_copy_splice rfl (.tmp 26) (.tmp 35) 24 24 rfl 21 Tryz.underlying24 (by kernel_rfl) _ _ _ _ _ _ rfl rfl w.heap.size 0 (runeCells (List.replicate N 0)) 21 HG.out (runeCells (D.take f)) tc.out (fun _=>⟨rfl,_,rfl,Jt.out⟩) Dt.out (bh _) w.heap.size W1 (aE qqb) qql ?_
             intro w4 Hg hb4))
 all_goals
   have RZ:=qqh (show fy w4 b L n D f t from⟨aj.below nx.out.buf hb4 J2,aj.below nx.out.row hb4 U5,nx.out.len,hle,hend,Hr⟩)
   have yO:=qqh (show aj w4 w.heap.size 21 (runeCells (splice (List.replicate N 0) 0 (D.take f))).toArray by rw [← dX];exact Hg.out)
   have dS:=qqh (bJ.out.trans hb4)
   have d0:=RZ.out.buf.cell 0
   have d2:=RZ.out.buf.cell 2
   clear Hg hb4 Jt tc Dt HG nx bJ
   go_wp2_with fail
   go_quiet (fail)
   have NW:=qqh (show(runeCells (D.drop t)).length=Nat.min (n - t) (N - T) by rw [runeCells_length,List.length_drop,H1.out.len];show n - t=min (n - t) (N - T);omega)
   have QE:=qqh (show T+(runeCells (D.drop t)).length≤(runeCells (splice (List.replicate N 0) 0 (D.take f))).length by
     rw [runeCells_length,runeCells_length,List.length_drop,length_splice _ _ _ (by rw [List.length_take,List.length_replicate];omega),List.length_replicate,H1.out.len];omega)
   have QH:=qqh (show ∀ j v,(runeCells (D.drop t))[j]? = some v→w4.cell? ((⟨L,t,none⟩:Addr).add j)=some v from fun j v hj=>by rw [gz];exact xE RZ.out.row j v hj)
   have Rq:=qqh (show 0<(runeCells (D.drop t)).length→T<N∧t<n by rw [runeCells_length,List.length_drop,H1.out.len];omega)
   go_upto_region 4 with fail
   go_region_law
     (first | (refine step_copy_splice rfl (.tmp 52) (.tmp 61) 24 24 rfl 21 Tryz.underlying24 (by kernel_rfl) _ _ _ _ _ _ rfl rfl w.heap.size T (runeCells (splice (List.replicate N 0) 0 (D.take f))) 21 yO.out (runeCells (D.drop t)) NW.out (by
                 intro hp
                 have hq:=Rq.out hp
                 refine⟨?_,⟨L,t,none⟩,?_,QH.out⟩
                 · first | rfl | rw [if_neg (by omega)] | omega
                 · first | rfl | rw [if_neg (by omega)] | omega) QE.out (bh _) w.heap.size w4 (aE (below_drewN qqb nq)) qql ?_
               intro w5 Hf dN))
   all_goals
     have RO:=qqh (show fy w5 b L n D f t from⟨aj.below RZ.out.buf dN J2,aj.below RZ.out.row dN U5,RZ.out.len,hle,hend,Hr⟩)
     have T1:=qqh (show aj w5 w.heap.size 21 (runeCells (splice (splice (List.replicate N 0) 0 (D.take f)) T (D.drop t))).toArray by rw [← dX];exact Hf.out)
     have dG:=qqh (dS.out.trans dN)
     have c0:=RO.out.buf.cell 0
     have c2:=RO.out.buf.cell 2
     have f0:=RO.out.buf.frozen 0
     have f2:=RO.out.buf.frozen 2
     have Ws:lo≤w.heap.size:=Nat.le_trans hb (Nat.le_of_lt J2)
     have uE:=qqh (show VP lo ((w5.setCell ⟨b,0,none⟩ (.slice (some ⟨w.heap.size,0,none⟩) N N)).setCell ⟨b,2,none⟩ (.int .i64 T)) b A Z k∧Kp lo w ((w5.setCell ⟨b,0,none⟩ (.slice (some ⟨w.heap.size,0,none⟩) N N)).setCell ⟨b,2,none⟩ (.int .i64 T)) by
       have XE:=jy (D:=List.replicate N (0:Int)) (E:=D.take f) (o:=0) (by rw [List.length_take,List.length_replicate];omega)
       have mJ:(D.take f).length=f:=by rw [List.length_take,H1.out.len];omega
       have jc:(splice (List.replicate N (0:Int)) 0 (D.take f)).length=N:=by rw [length_splice _ _ _ (by rw [List.length_replicate];omega),List.length_replicate]
       have Tt:(D.drop t).length=n - t:=by rw [List.length_drop,H1.out.len]
       have Ve:=jy (D:=splice (List.replicate N (0:Int)) 0 (D.take f)) (E:=D.drop t) (o:=T) (by rw [jc];omega)
       simp only [Nat.zero_add,mJ,List.take_zero,List.nil_append]at XE
       have YJ:(splice (splice (List.replicate N (0:Int)) 0 (D.take f)) T (D.drop t)).length=N:=by rw [length_splice _ _ _ (by rw [jc];omega),jc]
       have h0:=RO.out.buf.put 0 (.slice (some ⟨w.heap.size,0,none⟩) N N)
       refine⟨⟨w.heap.size,N,_,f,T,⟨?_,?_,YJ,by omega,hTN,by omega⟩,hb,Ws,?_,?_,by omega⟩,?_⟩
       · have h2:=h0.put 2 (.int .i64 T)
         simpa using h2
       · exact(T1.out.other RO.out.buf (Ne.symm kB) 0 _).other h0 (Ne.symm kB) 2 _
       · rw [← HA.out]
         have:=Ve.1
         have e1:(splice (splice (List.replicate N (0:Int)) 0 (D.take f)) T (D.drop t)).take f=((splice (splice (List.replicate N (0:Int)) 0 (D.take f)) T (D.drop t)).take T).take f:=by rw [List.take_take,Nat.min_eq_left (by omega)]
         rw [e1,this,List.take_take,Nat.min_eq_left (by omega),XE.2.2]
       · rw [← HZ.out]
         have hz:T+(D.drop t).length=N:=by rw [Tt];omega
         have e1:=Ve.2.2
         rw [hz,List.take_of_length_le (by rw [YJ];exact qql)]at e1
         rw [e1,List.drop_left' (by rw [List.length_take,jc];omega)]
       · exact(Kp.all dG.out Ws).trans ((Kp.set RO.out.buf (.inr rfl) hb 0 _).trans (Kp.set h0 (.inr rfl) hb 2 _)))
     clear Hf dN QH NW QE Rq RZ yO dS d0 d2
     go_wp2_with fail
     all_goals
       go_end0
       first
         | exact⟨rfl,uE.out⟩
         | (have hNT:N=T:=by omega
            have hF:=uE.out
            rw [hNT]at hF
            exact⟨rfl,hF⟩)
structure yZ (g:Nat) (w w':World):Prop where
  os:w'.os=w.os
  tape:w'.tape=w.tape
  output:w'.output=w.output
  size:w'.heap.size=w.heap.size
  block:∀ k,k≠g→w'.heap[k]? = w.heap[k]?
theorem yZ.refl (g:Nat) (w:World):yZ g w w:=⟨rfl,rfl,rfl,rfl,fun _ _=>rfl⟩
theorem yZ.row (g:Nat) (w:World) (cs:Array Value):yZ g w (w.setRow g cs):=⟨rfl,rfl,rfl,by simp,fun k h=>setRow_other w g k cs h⟩
theorem yZ.below {g B:Nat} {w w':World} (h:yZ g w w') (hB:B≤g):Below B w w':=⟨h.os,h.tape,h.output,Nat.le_of_eq h.size.symm,fun k hk=>h.block k (by omega)⟩
theorem iL {P:Program} {ops:Array Oper} {o:Oper} {a:Act} {w:World} {K:Act→World→Prop} {Q:Exit→Act→World→Prop} {E:Prop} (hgd:o.guard=none) (d s:Operand) (dT sT:TypeId)
    (ho:o.op=.call { callee:=.builtin .copy,args:=#[d,s],argTypes:=#[dT,sT] }) (elem:TypeId) (hu:P.underlying dT=some (.slice elem)) (hsz:(P.info? elem).map (·.size)=some 1)
    (dp sp:Option Addr) (dLen dCap sLen sCap:Nat) (hd:a.eval d=.slice dp dLen dCap) (hs:a.eval s=.slice sp sLen sCap)
    (g off:Nat) (cur:List Value) (t:TypeId) (hg:w.heap[g]? = some (.cells cur.toArray t (0,0))) (cs:List Value) (hn:cs.length=Nat.min sLen dLen)
    (hpos:0<cs.length→dp=some ⟨g,off,none⟩∧∃ ad,sp=some ad∧∀ j v,cs[j]? = some v→w.cell? (ad.add j)=some v)
    (hfit:off+cs.length≤cur.length) (h1:∀ v∈cs,v.oneCell'=true)
    (h:∀ w',Hid (w'.heap[g]? = some (.cells (splice cur off cs).toArray t (0,0)))→yZ g w w'→K (a.put o.dst (goInt cs.length)) w') :
    if Region.wanted o (yielded ops a.tmps)=true then Oper.wp P o a w K Q else E:=by
 have hw:Region.wanted o (yielded ops a.tmps)=true:=(by simp [Region.wanted,hgd]);rw [if_pos hw];by_cases h0:cs.length=0
 ·obtain rfl:cs = []:=List.eq_nil_of_length_eq_zero h0;have hrun:=run_copy_none (P:=P) w dT sT o.type elem dp sp dLen dCap sLen sCap hu hsz (by simpa using hn.symm);unfold Oper.wp;simp [execOp,ho,resolve,invoke,builtin,hd,hs,hrun,Result.andThen];exact h w (show _=_ by simpa [splice] using hg) (yZ.refl _ _)
 obtain⟨rfl,ad,rfl,hsrc⟩:=hpos (by omega);have hrun:=run_copy_row (P:=P) w dT sT o.type elem g off dLen dCap ad sLen sCap cur.toArray t cs hu hsz hg hn hsrc (by simpa using hfit) h1;unfold Oper.wp;simp [execOp,ho,resolve,invoke,builtin,hd,hs,hrun,Result.andThen];exact h _ (show _=_ by simpa [splice] using setRow_heap w g _ _ t _ hg) (yZ.row _ _ _)
theorem Kp.only {lo g:Nat} {w w':World} {t:TypeId} {cs:Array Value} (h:yZ g w w') (hb:aj w g t cs) (ht:t = 21 ∨ t = 221) (hg:lo≤g):Kp lo w w' :=
  ⟨h.below hg,fun k t' cs' hk h3 h4=>by
    have hne:k≠g:=by
      rintro rfl
      unfold aj at hb hk
      rw [hb]at hk
      injection hk with hk
      injection hk with _ hk
      subst hk
      rcases ht with rfl | rfl
      · exact h3 rfl
      · exact h4 rfl
    exact(h.block k hne).trans hk⟩
theorem PO {lo:Nat} {b:Nat} {A Z:List Int} {w:World} (h:xP lo w b A Z) (E:List Int) (A2:Option Addr) (m c2:Nat) (hE:cV w (fun x=>x<lo) 1 A2 m (runeCells E)) (hm:m≤20) (hs:A.length+Z.length≤4000) :
    Calls Tryz.prog 147 #[.pointer (some ⟨b,0,none⟩),.slice A2 m c2] w fun e w'=>e=.returned (.tuple #[])∧xP lo w' b (A++E) Z∧Kp lo w w':=by
 have Ou:E.length=m:=(by have:=hE.1;rw [runeCells_length]at this;omega);have HR:=qqh (L9 h m hm hs);have HE:=qqh hE;have uH:=qqh Ou;have hlo:lo≤w.heap.size:=by
  obtain⟨L,n,D,f,t,h1,hb,_⟩:=h;have:=h1.buf.lt;omega
 clear h hE Ou;go_enter Tryz.func147,Tryz.ntmps147;go_wp2_with fail;refine HR.out.mono ?_;rintro e w1 ⟨rfl,⟨L,n,D,f,t,h1,hb,hL,hA,hZ,hroom⟩,hkp⟩;have hle:=h1.le;have hend:=h1.end_;have Hr:=h1.small;have H1:=qqh h1;have HA:=qqh hA;have HZ:=qqh hZ;have HK:=qqh hkp;have xW:=qqh (HE.out.keep (w':=w1) (X':=fun x=>x<lo) (fun x hx hl=>⟨hkp.below.block x hx,hx,Nat.lt_of_lt_of_le hl hkp.below.size⟩));have c0:=h1.buf.cell 0;have c1:=h1.buf.cell 1;have Re:=h1.buf.cell 2;have tc:=qqh (show(runeCells E).length=Nat.min m (n - f) by rw [runeCells_length,uH.out];show m=min m (n - f);omega);have Dt:=qqh (show f+(runeCells E).length≤(runeCells D).length by rw [runeCells_length,runeCells_length,uH.out,h1.len];omega);have hfn:f≤n:=(by omega);have hwrap:IntKind.i64.wrap ((f:Int)+(m:Int))=(f:Int)+(m:Int):=(by rw [IntKind.wrap_i64];omega);have xX:=qqh (show(runeCells E).length=m by rw [runeCells_length,uH.out]);clear h1 hA hZ hkp HR;rcases Nat.eq_zero_or_pos m with h0 | h0
 ·have mC:=qqh (show ¬ 0<(runeCells E).length by rw [runeCells_length,uH.out,h0];exact Nat.lt_irrefl 0);clear h0;go_upto_region 1 with fail;refine ay (S:=fun w'=>w'.cell? ⟨b,0,none⟩=some (.slice (some ⟨L,0,none⟩) n n)∧w'.cell? ⟨b,1,none⟩=some (.int .i64 f)) [3,7,11] (by kernel_rfl) ⟨c0,c1⟩ (fun aU=>?_);apply tp 0 8 rfl (by kernel_rfl) (fun _ _ _ h=>h) (by rfl)
  ·intro w _;go_simp;(try with_reducible rfl)
  (try simp only [zp,za,z0,zs]);apply tp 1 9 rfl (by kernel_rfl) (fun _ _ _ h=>h) (by rfl)
  ·intro w _;go_simp;(try with_reducible rfl)
  (try simp only [zp,za,z0,zs]);apply tp 2 10 rfl (by kernel_rfl) (fun _ _ _ h=>h) (by rfl)
  ·intro w _;go_simp;(try with_reducible rfl)
  (try simp only [zp,za,z0,zs]);apply tt 3 11 rfl (by kernel_rfl) (fun _ _ _ h=>h) (by rfl) (by assumption)
  ·intro w rM;(try dsimp only at rM);go_simp;(try with_reducible rfl)
  (try simp only [zp,za,z0,zs]);apply tp 4 12 rfl (by kernel_rfl) (fun _ _ _ h=>h) (by rfl)
  ·intro w _;go_simp;(try with_reducible rfl)
  (try simp only [zp,za,z0,zs]);apply tp 5 13 rfl (by kernel_rfl) (fun _ _ _ h=>h) (by rfl)
  ·intro w _;go_simp;(try with_reducible rfl)
  (try simp only [zp,za,z0,zs]);apply tp 6 14 rfl (by kernel_rfl) (fun _ _ _ h=>h) (by rfl)
  ·intro w _;go_simp;(try with_reducible rfl)
  (try simp only [zp,za,z0,zs]);apply tt 7 15 rfl (by kernel_rfl) (fun _ _ _ h=>h) (by rfl) (by assumption)
  ·intro w rM;(try dsimp only at rM);go_simp;(try with_reducible rfl)
  (try simp only [zp,za,z0,zs]);apply tp 8 16 rfl (by kernel_rfl) (fun _ _ _ h=>h) (by rfl)
  ·intro w _;go_simp;(try with_reducible rfl)
  (try simp only [zp,za,z0,zs]);apply tp 9 17 rfl (by kernel_rfl) (fun _ _ _ h=>h) (by rfl)
  ·intro w _;go_simp;(try with_reducible rfl)
  (try simp only [zp,za,z0,zs]);apply tp 10 18 rfl (by kernel_rfl) (fun _ _ _ h=>h) (by rfl)
  ·intro w _;go_simp;(try with_reducible rfl)
  (try simp only [zp,za,z0,zs]);apply tt 11 19 rfl (by kernel_rfl) (fun _ _ _ h=>h) (by rfl) (by assumption)
  ·intro w rM;(try dsimp only at rM);go_simp;(try with_reducible rfl)
  (try simp only [zp,za,z0,zs]);apply tp 12 20 rfl (by kernel_rfl) (fun _ _ _ h=>h) (by rfl)
  ·intro w _;go_simp;(try with_reducible rfl)
  (try simp only [zp,za,z0,zs]);apply tp 13 21 rfl (by kernel_rfl) (fun _ _ _ h=>h) (by rfl)
  ·intro w _;go_simp;(try with_reducible rfl)
  (try simp only [zp,za,z0,zs]);refine aD (i:=14) (o:=⟨some 22,_,_,_,_,_⟩) (by kernel_rfl) rfl (fun K hK=>?_);refine iL rfl (.tmp 20) (.tmp 21) 24 24 rfl 21 Tryz.underlying24 (by kernel_rfl) _ _ _ _ _ _ rfl rfl L f (runeCells D) 21 H1.out.row (runeCells E) tc.out (fun hp=>absurd hp mC.out) Dt.out (bh _) ?_;intro w4 Hg sW;rw [xX.out];have yO:=qqh (show aj w4 L 21 (runeCells (splice D f E)).toArray by rw [← dX];exact Hg.out);have dS:=qqh (show aj w4 b 221 #[.slice (some ⟨L,0,none⟩) n n,.int .i64 f,.int .i64 t] from(sW.block b H1.out.ne).trans H1.out.buf);have oU:=qqh sW;have wW:=qqh (show w4.cell? ⟨b,0,none⟩=some (.slice (some ⟨L,0,none⟩) n n)∧w4.cell? ⟨b,1,none⟩=some (.int .i64 f) from⟨dS.out.cell 0,dS.out.cell 1⟩);clear Hg sW;(try dsimp only);refine hK.out _ _ ?_ (fun aU=>?_);exact wW.out;clear hK K;(try simp only [zp,za,z0,zs]);apply tp 15 23 rfl (by kernel_rfl) (fun _ _ _ h=>h) (by rfl)
  ·intro w _;go_simp;(try with_reducible rfl)
  (try simp only [zp,za,z0,zs]);apply tp 16 24 rfl (by kernel_rfl) (fun _ _ _ h=>h) (by rfl)
  ·intro w _;go_simp;(try with_reducible rfl)
  (try simp only [zp,za,z0,zs]);apply tp 17 25 rfl (by kernel_rfl) (fun _ _ _ h=>h) (by rfl)
  ·intro w _;go_simp;(try with_reducible rfl)
  (try simp only [zp,za,z0,zs]);refine aC (i:=18) (by kernel_rfl) rfl (by kernel_rfl) (fun K hK=>?_);have d1:=dS.out.cell 1;have g1:=dS.out.frozen 1;go_simp;(try dsimp only);refine hK.out _ _ ?_;clear hK K;refine aK (by kernel_rfl) ?_ _;go_simp;go_wp2_with fail
  all_goals
    go_end0
    refine⟨rfl,?_,?_⟩
    · have hsp:=jy (D:=D) (E:=E) (o:=f) (by rw [uH.out,H1.out.len];omega)
      rw [uH.out]at hsp
      have hput:=dS.out.put 1 (.int .i64 ((f:Int)+(m:Int)))
      refine⟨L,n,splice D f E,f+m,t,⟨?_,?_,?_,hroom,hend,Hr⟩,hb,hL,?_,?_⟩
      · simpa using hput
      · exact(yO.out.other dS.out (Ne.symm kB) 1 _)
      · rw [length_splice _ _ _ (by rw [uH.out,H1.out.len];omega),H1.out.len]
      · rw [hsp.2.2,HA.out]
      · have e1:(splice D f E).drop t=((splice D f E).drop (f+m)).drop (t - (f+m)):=by rw [List.drop_drop,show f+m+(t - (f+m))=t by omega]
        rw [e1,hsp.2.1,List.drop_drop,show f+m+(t - (f+m))=t by omega,HZ.out]
    · exact(HK.out.drew.trans ((Kp.only oU.out (show aj w1.drew L 21 _ from H1.out.row) (.inl rfl) hL))).trans (Kp.set dS.out (.inr rfl) hb 1 _)
 obtain⟨b2,off2,rfl,aX,agu,hc2⟩:=xW.out.2 h0;have Jt:=qqh (show ∀ j v,(runeCells E)[j]? = some v→w1.cell? ((⟨b2,off2,none⟩:Addr).add j)=some v from fun j v hj=>by rw [gz];exact hc2 j v hj);have hnf:¬ n=f:=(by omega);clear hc2;go_upto_region 1 with fail;refine ay (S:=fun w'=>w'.cell? ⟨b,0,none⟩=some (.slice (some ⟨L,0,none⟩) n n)∧w'.cell? ⟨b,1,none⟩=some (.int .i64 f)) [3,7,11] (by kernel_rfl) ⟨c0,c1⟩ (fun aU=>?_);apply tp 0 8 rfl (by kernel_rfl) (fun _ _ _ h=>h) (by rfl)
 ·intro w _;go_simp;(try with_reducible rfl)
 (try simp only [zp,za,z0,zs]);apply tp 1 9 rfl (by kernel_rfl) (fun _ _ _ h=>h) (by rfl)
 ·intro w _;go_simp;(try with_reducible rfl)
 (try simp only [zp,za,z0,zs]);apply tp 2 10 rfl (by kernel_rfl) (fun _ _ _ h=>h) (by rfl)
 ·intro w _;go_simp;(try with_reducible rfl)
 (try simp only [zp,za,z0,zs]);apply tt 3 11 rfl (by kernel_rfl) (fun _ _ _ h=>h) (by rfl) (by assumption)
 ·intro w rM;(try dsimp only at rM);go_simp;(try with_reducible rfl)
 (try simp only [zp,za,z0,zs]);apply tp 4 12 rfl (by kernel_rfl) (fun _ _ _ h=>h) (by rfl)
 ·intro w _;go_simp;(try with_reducible rfl)
 (try simp only [zp,za,z0,zs]);apply tp 5 13 rfl (by kernel_rfl) (fun _ _ _ h=>h) (by rfl)
 ·intro w _;go_simp;(try with_reducible rfl)
 (try simp only [zp,za,z0,zs]);apply tp 6 14 rfl (by kernel_rfl) (fun _ _ _ h=>h) (by rfl)
 ·intro w _;go_simp;(try with_reducible rfl)
 (try simp only [zp,za,z0,zs]);apply tt 7 15 rfl (by kernel_rfl) (fun _ _ _ h=>h) (by rfl) (by assumption)
 ·intro w rM;(try dsimp only at rM);go_simp;(try with_reducible rfl)
 (try simp only [zp,za,z0,zs]);apply tp 8 16 rfl (by kernel_rfl) (fun _ _ _ h=>h) (by rfl)
 ·intro w _;go_simp;(try with_reducible rfl)
 (try simp only [zp,za,z0,zs]);apply tp 9 17 rfl (by kernel_rfl) (fun _ _ _ h=>h) (by rfl)
 ·intro w _;go_simp;(try with_reducible rfl)
 (try simp only [zp,za,z0,zs]);apply tp 10 18 rfl (by kernel_rfl) (fun _ _ _ h=>h) (by rfl)
 ·intro w _;go_simp;(try with_reducible rfl)
 (try simp only [zp,za,z0,zs]);apply tt 11 19 rfl (by kernel_rfl) (fun _ _ _ h=>h) (by rfl) (by assumption)
 ·intro w rM;(try dsimp only at rM);go_simp;(try with_reducible rfl)
 (try simp only [zp,za,z0,zs]);apply tp 12 20 rfl (by kernel_rfl) (fun _ _ _ h=>h) (by rfl)
 ·intro w _;go_simp;(try with_reducible rfl)
 (try simp only [zp,za,z0,zs]);apply tp 13 21 rfl (by kernel_rfl) (fun _ _ _ h=>h) (by rfl)
 ·intro w _;go_simp;(try with_reducible rfl)
 (try simp only [zp,za,z0,zs]);refine aD (i:=14) (o:=⟨some 22,_,_,_,_,_⟩) (by kernel_rfl) rfl (fun K hK=>?_);refine iL rfl (.tmp 20) (.tmp 21) 24 24 rfl 21 Tryz.underlying24 (by kernel_rfl) _ _ _ _ _ _ rfl rfl L f (runeCells D) 21 H1.out.row (runeCells E) tc.out (fun _=>⟨rfl,_,rfl,Jt.out⟩) Dt.out (bh _) ?_;intro w4 Hg sW;rw [xX.out];have yO:=qqh (show aj w4 L 21 (runeCells (splice D f E)).toArray by rw [← dX];exact Hg.out);have dS:=qqh (show aj w4 b 221 #[.slice (some ⟨L,0,none⟩) n n,.int .i64 f,.int .i64 t] from(sW.block b H1.out.ne).trans H1.out.buf);have oU:=qqh sW;have wW:=qqh (show w4.cell? ⟨b,0,none⟩=some (.slice (some ⟨L,0,none⟩) n n)∧w4.cell? ⟨b,1,none⟩=some (.int .i64 f) from⟨dS.out.cell 0,dS.out.cell 1⟩);clear Hg sW;(try dsimp only);refine hK.out _ _ ?_ (fun aU=>?_);exact wW.out;clear hK K;(try simp only [zp,za,z0,zs]);apply tp 15 23 rfl (by kernel_rfl) (fun _ _ _ h=>h) (by rfl)
 ·intro w _;go_simp;(try with_reducible rfl)
 (try simp only [zp,za,z0,zs]);apply tp 16 24 rfl (by kernel_rfl) (fun _ _ _ h=>h) (by rfl)
 ·intro w _;go_simp;(try with_reducible rfl)
 (try simp only [zp,za,z0,zs]);apply tp 17 25 rfl (by kernel_rfl) (fun _ _ _ h=>h) (by rfl)
 ·intro w _;go_simp;(try with_reducible rfl)
 (try simp only [zp,za,z0,zs]);refine aC (i:=18) (by kernel_rfl) rfl (by kernel_rfl) (fun K hK=>?_);have d1:=dS.out.cell 1;have g1:=dS.out.frozen 1;go_simp;(try dsimp only);refine hK.out _ _ ?_;clear hK K;refine aK (by kernel_rfl) ?_ _;go_simp;go_wp2_with fail
 all_goals
   go_end0
   refine⟨rfl,?_,?_⟩
   · have hsp:=jy (D:=D) (E:=E) (o:=f) (by rw [uH.out,H1.out.len];omega)
     rw [uH.out]at hsp
     have hput:=dS.out.put 1 (.int .i64 ((f:Int)+(m:Int)))
     refine⟨L,n,splice D f E,f+m,t,⟨?_,?_,?_,hroom,hend,Hr⟩,hb,hL,?_,?_⟩
     · simpa using hput
     · exact(yO.out.other dS.out (Ne.symm kB) 1 _)
     · rw [length_splice _ _ _ (by rw [uH.out,H1.out.len];omega),H1.out.len]
     · rw [hsp.2.2,HA.out]
     · have e1:(splice D f E).drop t=((splice D f E).drop (f+m)).drop (t - (f+m)):=by rw [List.drop_drop,show f+m+(t - (f+m))=t by omega]
       rw [e1,hsp.2.1,List.drop_drop,show f+m+(t - (f+m))=t by omega,HZ.out]
   · exact(HK.out.drew.trans ((Kp.only oU.out (show aj w1.drew L 21 _ from H1.out.row) (.inl rfl) hL))).trans (Kp.set dS.out (.inr rfl) hb 1 _)
theorem OW (w:World) (B sz:Nat) (A:Option Addr):Rd w B sz A 0 []:=⟨by simp,fun h=>absurd h (Nat.lt_irrefl 0)⟩
theorem Kn {lo:Nat} {b:Nat} {A Z:List Int} {w:World} (h:xP lo w b A Z) :
    Calls Tryz.prog 134 #[.pointer (some ⟨b,0,none⟩)] w fun e w'=>(∃ v,e=.returned v∧w'.ownsRow w.heap.size 21 1 v (A++Z).length (runeCells (A++Z)))∧Below w.heap.size w w':=by
 obtain⟨i0,hi,TX,z1,z2⟩:=info_parts Tryz.info21;obtain⟨L,n,D,f,t,h1,hb,hL,hA,hZ⟩:=h;obtain⟨hlA,hlZ⟩:=h1.lens hA hZ;have hle:=h1.le;have hend:=h1.end_;have Hr:=h1.small;have c0:=h1.buf.cell 0;have c1:=h1.buf.cell 1;have c2:=h1.buf.cell 2;have hfn:f≤n:=(by omega);have H1:=qqh h1;have HA:=qqh hA;have HZ:=qqh hZ;have iE:=qqh (show Rd w w.heap.size 1 (some ⟨L,0,none⟩) f (runeCells (D.take f)) from⟨by rw [runeCells_length,List.length_take,h1.len];omega,fun _=>⟨L,0,rfl,h1.row.lt,fun j u hu=>by rw [Nat.zero_add];exact xq h1.row j u hu⟩⟩);have dP:=qqh (show Rd w w.heap.size 1 (some ⟨L,t,none⟩) (n - t) (runeCells (D.drop t)) from⟨by rw [runeCells_length,List.length_drop,h1.len];omega,fun _=>⟨L,t,rfl,h1.row.lt,fun j u hu=>xE h1.row j u hu⟩⟩);clear h1 hA hZ;go_enter Tryz.func134,Tryz.ntmps134;go_wp2_with fail;by_cases hnt:n=t
 ·obtain rfl:=hnt;have hZ0:D.drop n = []:=List.drop_of_length_le (by rw [H1.out.len];exact qql);have XI:=qqh (HZ.out.symm.trans hZ0);clear hZ0;go_upto_region 1 with fail;refine ay (S:=fun w'=>w'.cell? ⟨b,0,none⟩=some (.slice (some ⟨L,0,none⟩) n n)∧w'.cell? ⟨b,1,none⟩=some (.int .i64 f)∧w'.cell? ⟨b,2,none⟩=some (.int .i64 n)) [3,7,13,17] (by kernel_rfl) ⟨c0,c1,c2⟩ (fun aU=>?_);apply tp 0 3 rfl (by kernel_rfl) (fun _ _ _ h=>h) (by rfl)
  ·intro w _;go_simp;(try with_reducible rfl)
  (try simp only [zp,za,z0,zs]);apply tp 1 4 rfl (by kernel_rfl) (fun _ _ _ h=>h) (by rfl)
  ·intro w _;go_simp;(try with_reducible rfl)
  (try simp only [zp,za,z0,zs]);apply tp 2 5 rfl (by kernel_rfl) (fun _ _ _ h=>h) (by rfl)
  ·intro w _;go_simp;(try with_reducible rfl)
  (try simp only [zp,za,z0,zs]);apply tt 3 6 rfl (by kernel_rfl) (fun _ _ _ h=>h) (by rfl) (by assumption)
  ·intro w rM;(try dsimp only at rM);go_simp;(try with_reducible rfl)
  (try simp only [zp,za,z0,zs]);apply tp 4 7 rfl (by kernel_rfl) (fun _ _ _ h=>h) (by rfl)
  ·intro w _;go_simp;(try with_reducible rfl)
  (try simp only [zp,za,z0,zs]);apply tp 5 8 rfl (by kernel_rfl) (fun _ _ _ h=>h) (by rfl)
  ·intro w _;go_simp;(try with_reducible rfl)
  (try simp only [zp,za,z0,zs]);apply tp 6 9 rfl (by kernel_rfl) (fun _ _ _ h=>h) (by rfl)
  ·intro w _;go_simp;(try with_reducible rfl)
  (try simp only [zp,za,z0,zs]);apply tt 7 10 rfl (by kernel_rfl) (fun _ _ _ h=>h) (by rfl) (by assumption)
  ·intro w rM;(try dsimp only at rM);go_simp;(try with_reducible rfl)
  (try simp only [zp,za,z0,zs]);apply tp 8 11 rfl (by kernel_rfl) (fun _ _ _ h=>h) (by rfl)
  ·intro w _;go_simp;(try with_reducible rfl)
  (try simp only [zp,za,z0,zs]);apply tp 10 13 rfl (by kernel_rfl) (fun _ _ _ h=>h) (by rfl)
  ·intro w _;go_simp;(try with_reducible rfl)
  (try simp only [zp,za,z0,zs]);apply tp 11 14 rfl (by kernel_rfl) (fun _ _ _ h=>h) (by rfl)
  ·intro w _;go_simp;(try with_reducible rfl)
  (try simp only [zp,za,z0,zs]);apply tp 12 15 rfl (by kernel_rfl) (fun _ _ _ h=>h) (by rfl)
  ·intro w _;go_simp;(try with_reducible rfl)
  (try simp only [zp,za,z0,zs]);apply tt 13 16 rfl (by kernel_rfl) (fun _ _ _ h=>h) (by rfl) (by assumption)
  ·intro w rM;(try dsimp only at rM);go_simp;(try with_reducible rfl)
  (try simp only [zp,za,z0,zs]);apply tp 14 17 rfl (by kernel_rfl) (fun _ _ _ h=>h) (by rfl)
  ·intro w _;go_simp;(try with_reducible rfl)
  (try simp only [zp,za,z0,zs]);apply tp 15 18 rfl (by kernel_rfl) (fun _ _ _ h=>h) (by rfl)
  ·intro w _;go_simp;(try with_reducible rfl)
  (try simp only [zp,za,z0,zs]);apply tp 16 19 rfl (by kernel_rfl) (fun _ _ _ h=>h) (by rfl)
  ·intro w _;go_simp;(try with_reducible rfl)
  (try simp only [zp,za,z0,zs]);apply tt 17 20 rfl (by kernel_rfl) (fun _ _ _ h=>h) (by rfl) (by assumption)
  ·intro w rM;(try dsimp only at rM);go_simp;(try with_reducible rfl)
  (try simp only [zp,za,z0,zs]);apply tp 18 21 rfl (by kernel_rfl) (fun _ _ _ h=>h) (by rfl)
  ·intro w _;go_simp;(try with_reducible rfl)
  (try simp only [zp,za,z0,zs]);refine aD (i:=9) (o:=⟨some 12,_,_,_,_,_⟩) (by kernel_rfl) rfl (fun K hK=>?_);refine bD _ rfl (.const (.slice none 0 0)) (.tmp 11) 24 rfl w.heap.size 21 i0 _ 1 4 Tryz.underlying24 hi TX z1 z2 rfl (by decide) _ _ _ rfl (World.ownsRow_nil w.drew w.heap.size 21 1) _ (some ⟨L,0,none⟩) f n (runeCells (D.take f)) rfl iE.out (bh _) (by simp only [maxLen];omega) (by omega) qql ?_;intro v4 w4 ak;have hb4:=ak.below qql (World.ownsRow_nil w.drew w.heap.size 21 1);have vI:Below w.heap.size w w4:=⟨hb4.os,hb4.tape,hb4.output,hb4.size,hb4.block⟩;have dS:=qqh vI;have sW:=ak.own;rw [Nat.zero_add,List.nil_append]at sW;have oU:=qqh sW;have wW:=qqh (show w4.cell? ⟨b,0,none⟩=some (.slice (some ⟨L,0,none⟩) n n)∧w4.cell? ⟨b,1,none⟩=some (.int .i64 f)∧w4.cell? ⟨b,2,none⟩=some (.int .i64 n) from⟨(aj.below H1.out.buf vI H1.out.buf.lt).cell 0,(aj.below H1.out.buf vI H1.out.buf.lt).cell 1,(aj.below H1.out.buf vI H1.out.buf.lt).cell 2⟩);clear ak hb4 vI sW;(try dsimp only);refine hK.out _ _ ?_ (fun aU=>?_);exact wW.out;clear hK K;(try simp only [zp,za,z0,zs]);refine aC (i:=19) (o:=⟨some 22,_,_,_,_,_⟩) (by kernel_rfl) rfl (by kernel_rfl) (fun K hK=>?_);refine bD _ rfl (.tmp 12) (.tmp 21) 24 rfl w.heap.size 21 i0 _ 1 4 Tryz.underlying24 hi TX z1 z2 rfl (by decide) _ _ _ rfl oU.out _ _ _ _ [] rfl (OW _ 0 _ _) (by simp) (by simp only [maxLen];omega) (by omega) dS.out.size ?_;intro v5 w5 ak;have dG:=qqh (dS.out.trans (ak.below dS.out.size oU.out));have oH:=qqh ak.own;clear ak;(try dsimp only);refine hK.out _ _ ?_;clear hK K;(try simp only [zp,za,z0,zs]);apply tp 20 2 rfl (by kernel_rfl) (fun _ _ _ h=>h) (by rfl)
  ·intro w _;go_simp;(try with_reducible rfl)
  (try simp only [zp,za,z0,zs]);refine aK (by kernel_rfl) ?_ _;go_simp;go_wp2_with fail;go_ret;refine⟨⟨v5,rfl,?_⟩,dG.out⟩;have:=oH.out;rw [HA.out]at this;rw [XI.out,List.append_nil];have hl:A.length=f:=hlA;rw [hl];simpa using this
 go_upto_region 1 with fail;refine ay (S:=fun w'=>w'.cell? ⟨b,0,none⟩=some (.slice (some ⟨L,0,none⟩) n n)∧w'.cell? ⟨b,1,none⟩=some (.int .i64 f)∧w'.cell? ⟨b,2,none⟩=some (.int .i64 t)) [3,7,13,17] (by kernel_rfl) ⟨c0,c1,c2⟩ (fun aU=>?_);apply tp 0 3 rfl (by kernel_rfl) (fun _ _ _ h=>h) (by rfl)
 ·intro w _;go_simp;(try with_reducible rfl)
 (try simp only [zp,za,z0,zs]);apply tp 1 4 rfl (by kernel_rfl) (fun _ _ _ h=>h) (by rfl)
 ·intro w _;go_simp;(try with_reducible rfl)
 (try simp only [zp,za,z0,zs]);apply tp 2 5 rfl (by kernel_rfl) (fun _ _ _ h=>h) (by rfl)
 ·intro w _;go_simp;(try with_reducible rfl)
 (try simp only [zp,za,z0,zs]);apply tt 3 6 rfl (by kernel_rfl) (fun _ _ _ h=>h) (by rfl) (by assumption)
 ·intro w rM;(try dsimp only at rM);go_simp;(try with_reducible rfl)
 (try simp only [zp,za,z0,zs]);apply tp 4 7 rfl (by kernel_rfl) (fun _ _ _ h=>h) (by rfl)
 ·intro w _;go_simp;(try with_reducible rfl)
 (try simp only [zp,za,z0,zs]);apply tp 5 8 rfl (by kernel_rfl) (fun _ _ _ h=>h) (by rfl)
 ·intro w _;go_simp;(try with_reducible rfl)
 (try simp only [zp,za,z0,zs]);apply tp 6 9 rfl (by kernel_rfl) (fun _ _ _ h=>h) (by rfl)
 ·intro w _;go_simp;(try with_reducible rfl)
 (try simp only [zp,za,z0,zs]);apply tt 7 10 rfl (by kernel_rfl) (fun _ _ _ h=>h) (by rfl) (by assumption)
 ·intro w rM;(try dsimp only at rM);go_simp;(try with_reducible rfl)
 (try simp only [zp,za,z0,zs]);apply tp 8 11 rfl (by kernel_rfl) (fun _ _ _ h=>h) (by rfl)
 ·intro w _;go_simp;(try with_reducible rfl)
 (try simp only [zp,za,z0,zs]);apply tp 10 13 rfl (by kernel_rfl) (fun _ _ _ h=>h) (by rfl)
 ·intro w _;go_simp;(try with_reducible rfl)
 (try simp only [zp,za,z0,zs]);apply tp 11 14 rfl (by kernel_rfl) (fun _ _ _ h=>h) (by rfl)
 ·intro w _;go_simp;(try with_reducible rfl)
 (try simp only [zp,za,z0,zs]);apply tp 12 15 rfl (by kernel_rfl) (fun _ _ _ h=>h) (by rfl)
 ·intro w _;go_simp;(try with_reducible rfl)
 (try simp only [zp,za,z0,zs]);apply tt 13 16 rfl (by kernel_rfl) (fun _ _ _ h=>h) (by rfl) (by assumption)
 ·intro w rM;(try dsimp only at rM);go_simp;(try with_reducible rfl)
 (try simp only [zp,za,z0,zs]);apply tp 14 17 rfl (by kernel_rfl) (fun _ _ _ h=>h) (by rfl)
 ·intro w _;go_simp;(try with_reducible rfl)
 (try simp only [zp,za,z0,zs]);apply tp 15 18 rfl (by kernel_rfl) (fun _ _ _ h=>h) (by rfl)
 ·intro w _;go_simp;(try with_reducible rfl)
 (try simp only [zp,za,z0,zs]);apply tp 16 19 rfl (by kernel_rfl) (fun _ _ _ h=>h) (by rfl)
 ·intro w _;go_simp;(try with_reducible rfl)
 (try simp only [zp,za,z0,zs]);apply tt 17 20 rfl (by kernel_rfl) (fun _ _ _ h=>h) (by rfl) (by assumption)
 ·intro w rM;(try dsimp only at rM);go_simp;(try with_reducible rfl)
 (try simp only [zp,za,z0,zs]);apply tp 18 21 rfl (by kernel_rfl) (fun _ _ _ h=>h) (by rfl)
 ·intro w _;go_simp;(try with_reducible rfl)
 (try simp only [zp,za,z0,zs]);refine aD (i:=9) (o:=⟨some 12,_,_,_,_,_⟩) (by kernel_rfl) rfl (fun K hK=>?_);refine bD _ rfl (.const (.slice none 0 0)) (.tmp 11) 24 rfl w.heap.size 21 i0 _ 1 4 Tryz.underlying24 hi TX z1 z2 rfl (by decide) _ _ _ rfl (World.ownsRow_nil w.drew w.heap.size 21 1) _ (some ⟨L,0,none⟩) f n (runeCells (D.take f)) rfl iE.out (bh _) (by simp only [maxLen];omega) (by omega) qql ?_;intro v4 w4 ak;have hb4:=ak.below qql (World.ownsRow_nil w.drew w.heap.size 21 1);have vI:Below w.heap.size w w4:=⟨hb4.os,hb4.tape,hb4.output,hb4.size,hb4.block⟩;have dS:=qqh vI;have sW:=ak.own;rw [Nat.zero_add,List.nil_append]at sW;have oU:=qqh sW;have wW:=qqh (show w4.cell? ⟨b,0,none⟩=some (.slice (some ⟨L,0,none⟩) n n)∧w4.cell? ⟨b,1,none⟩=some (.int .i64 f)∧w4.cell? ⟨b,2,none⟩=some (.int .i64 t) from⟨(aj.below H1.out.buf vI H1.out.buf.lt).cell 0,(aj.below H1.out.buf vI H1.out.buf.lt).cell 1,(aj.below H1.out.buf vI H1.out.buf.lt).cell 2⟩);clear ak hb4 vI sW;(try dsimp only);refine hK.out _ _ ?_ (fun aU=>?_);exact wW.out;clear hK K;(try simp only [zp,za,z0,zs]);refine aC (i:=19) (o:=⟨some 22,_,_,_,_,_⟩) (by kernel_rfl) rfl (by kernel_rfl) (fun K hK=>?_);refine bD _ rfl (.tmp 12) (.tmp 21) 24 rfl w.heap.size 21 i0 _ 1 4 Tryz.underlying24 hi TX z1 z2 rfl (by decide) _ _ _ rfl oU.out _ (some ⟨L,t,none⟩) _ _ (runeCells (D.drop t)) rfl (Rd.below dP.out dS.out) (bh _) (by simp only [maxLen];omega) (by omega) dS.out.size ?_;intro v5 w5 ak;have dG:=qqh (dS.out.trans (ak.below dS.out.size oU.out));have oH:=qqh ak.own;clear ak;(try dsimp only);refine hK.out _ _ ?_;clear hK K;(try simp only [zp,za,z0,zs]);apply tp 20 2 rfl (by kernel_rfl) (fun _ _ _ h=>h) (by rfl)
 ·intro w _;go_simp;(try with_reducible rfl)
 (try simp only [zp,za,z0,zs]);refine aK (by kernel_rfl) ?_ _;go_simp;go_wp2_with fail;go_ret;refine⟨⟨v5,rfl,?_⟩,dG.out⟩;have:=oH.out;rw [HA.out,HZ.out,← jb]at this;have hl:(A++Z).length=f+(n - t):=(by rw [List.length_append];omega);rw [hl];exact this
theorem Pq (E:List Int) (A2:Option Addr) (m c2:Nat) (w:World) (hE:Rd w w.heap.size 1 A2 m (runeCells E)) (hm:m≤4000) :
    Calls Tryz.prog 129 #[.slice A2 m c2] w fun e w'=>e=.returned (.pointer (some ⟨w.heap.size+1,0,none⟩))∧xP w.heap.size w' (w.heap.size+1) [] E∧Below w.heap.size w w':=by
 have Ou:E.length=m:=(by have:=hE.1;rw [runeCells_length]at this;omega);obtain⟨N,hN⟩:∃ N:Nat,N=m+16:=⟨_,rfl⟩;have hNi:(m:Int)+16=(N:Int):=(by omega);have hmk:=fun w=>nU N (by omega) w;have h16:(N:Int) - (m:Int)=16:=(by omega);have hN1:N≤m+16:=(by omega);have Uw:m+16≤N:=(by omega);have agF:16≤N:=(by omega);have afB:(16:Int)≤(N:Int):=(by omega);have uH:=qqh Ou;have tc:=qqh (show(runeCells E).length=Nat.min m (N - 16) by rw [runeCells_length,Ou];show m=min m (N - 16);omega);have Dt:=qqh (show 16+(runeCells E).length≤(runeCells (List.replicate N 0)).length by rw [runeCells_length,runeCells_length,Ou,List.length_replicate];omega);have hsp:=jy (D:=List.replicate N (0:Int)) (E:=E) (o:=16) (by rw [Ou,List.length_replicate];omega);have aW:=qqh (show(splice (List.replicate N (0:Int)) 16 E).length=N by rw [length_splice _ _ _ (by rw [Ou,List.length_replicate];omega),List.length_replicate]);have KG:=qqh (show(splice (List.replicate N (0:Int)) 16 E).drop 16=E by
  have e1:=hsp.2.2;rw [Ou,List.take_of_length_le (by rw [aW.out];omega)]at e1;rw [e1,List.drop_left' (by rw [List.length_take,List.length_replicate];omega)])
 clear hsp hN Ou;go_enter Tryz.func129,Tryz.ntmps129;go_upto_region 3 with fail;have fq:=((Below.refl w.heap.size w).alloc qql (.cells (runeCells (List.replicate N 0)).toArray 21)).alloc (by simp) (.cells #[.slice (some ⟨w.heap.size,0,none⟩) N N,.int .i64 0,.int .i64 16] 221);have iD:=aj.new (w.alloc (.cells (runeCells (List.replicate N 0)).toArray 21)) 221 #[.slice (some ⟨w.heap.size,0,none⟩) N N,.int .i64 0,.int .i64 16];rw [show(w.alloc (.cells (runeCells (List.replicate N 0)).toArray 21)).heap.size=w.heap.size+1 by simp]at iD;have hg:=(aj.new w 21 (runeCells (List.replicate N 0)).toArray).alloc (.cells #[.slice (some ⟨w.heap.size,0,none⟩) N N,.int .i64 0,.int .i64 16] 221);generalize QG:((w.alloc (.cells (runeCells (List.replicate N 0)).toArray 21)).alloc (.cells #[.slice (some ⟨w.heap.size,0,none⟩) N N,.int .i64 0,.int .i64 16] 221))=W3 at *;have c0:=iD.cell 0;have Re:=iD.cell 2;have xY:=qqh iD;have HG:=qqh hg;have qY:=qqh fq;have xW:=qqh (hE.below fq);clear iD hg fq hE QG hmk;rcases Nat.eq_zero_or_pos m with h0 | h0
 ·have mC:=qqh (show ¬ 0<(runeCells E).length by rw [runeCells_length,uH.out,h0];exact Nat.lt_irrefl 0);clear h0;refine ay (S:=fun w'=>w'.cell? ⟨w.heap.size+1,0,none⟩=some (.slice (some ⟨w.heap.size,0,none⟩) N N)∧w'.cell? ⟨w.heap.size+1,2,none⟩=some (.int .i64 16)) [3,7] (by kernel_rfl) ⟨c0,Re⟩ (fun aU=>?_);refine tq 0 21 ?_;(try simp only [zp,za,z0,zs]);refine tq 1 22 ?_;(try simp only [zp,za,z0,zs]);refine tq 2 23 ?_;(try simp only [zp,za,z0,zs]);refine tu 3 24 ?_;(try simp only [zp,za,z0,zs]);refine tq 4 25 ?_;(try simp only [zp,za,z0,zs]);refine tq 5 26 ?_;(try simp only [zp,za,z0,zs]);refine tq 6 27 ?_;(try simp only [zp,za,z0,zs]);refine tu 7 28 ?_;(try simp only [zp,za,z0,zs]);refine tq 8 29 ?_;(try simp only [zp,za,z0,zs]);refine tq 9 30 ?_;(try simp only [zp,za,z0,zs]);refine aC (i:=10) (o:=⟨some 31,_,_,_,_,_⟩) (by kernel_rfl) rfl (by kernel_rfl) (fun K hK=>?_);refine iL rfl (.tmp 29) (.tmp 30) 24 24 rfl 21 Tryz.underlying24 (by kernel_rfl) _ _ _ _ _ _ rfl rfl w.heap.size 16 (runeCells (List.replicate N 0)) 21 HG.out (runeCells E) tc.out (fun hp=>absurd hp mC.out) Dt.out (bh _) ?_;intro w4 Hg sW;have yO:=qqh (show aj w4 w.heap.size 21 (runeCells (splice (List.replicate N 0) 16 E)).toArray by rw [← dX];exact Hg.out);have dS:=qqh (show aj w4 (w.heap.size+1) 221 #[.slice (some ⟨w.heap.size,0,none⟩) N N,.int .i64 0,.int .i64 16] from(sW.block _ (by omega)).trans xY.out);have oU:=qqh (qY.out.trans ((aE (Below.refl w.heap.size W3)).trans (sW.below qql)));clear Hg sW;(try dsimp only);refine hK.out _ _ ?_;clear hK K;(try simp only [zp,za,z0,zs]);refine aK (by kernel_rfl) ?_ _;go_simp;go_wp2_with fail
  all_goals
    go_ret
    refine⟨rfl,⟨w.heap.size,N,splice (List.replicate N 0) 16 E,0,16,⟨dS.out,yO.out,aW.out,by omega,by omega,by omega⟩,by omega,qql,rfl,KG.out⟩,oU.out⟩
 obtain⟨b2,off2,rfl,aX,hc2⟩:=xW.out.2 h0;have Jt:=qqh (show ∀ j v,(runeCells E)[j]? = some v→W3.cell? ((⟨b2,off2,none⟩:Addr).add j)=some v from fun j v hj=>by rw [gz];exact hc2 j v hj);have hnf:¬ N=16:=(by omega);clear hc2;refine ay (S:=fun w'=>w'.cell? ⟨w.heap.size+1,0,none⟩=some (.slice (some ⟨w.heap.size,0,none⟩) N N)∧w'.cell? ⟨w.heap.size+1,2,none⟩=some (.int .i64 16)) [3,7] (by kernel_rfl) ⟨c0,Re⟩ (fun aU=>?_);refine tq 0 21 ?_;(try simp only [zp,za,z0,zs]);refine tq 1 22 ?_;(try simp only [zp,za,z0,zs]);refine tq 2 23 ?_;(try simp only [zp,za,z0,zs]);refine tu 3 24 ?_;(try simp only [zp,za,z0,zs]);refine tq 4 25 ?_;(try simp only [zp,za,z0,zs]);refine tq 5 26 ?_;(try simp only [zp,za,z0,zs]);refine tq 6 27 ?_;(try simp only [zp,za,z0,zs]);refine tu 7 28 ?_;(try simp only [zp,za,z0,zs]);refine tq 8 29 ?_;(try simp only [zp,za,z0,zs]);refine tq 9 30 ?_;(try simp only [zp,za,z0,zs]);refine aC (i:=10) (o:=⟨some 31,_,_,_,_,_⟩) (by kernel_rfl) rfl (by kernel_rfl) (fun K hK=>?_);refine iL rfl (.tmp 29) (.tmp 30) 24 24 rfl 21 Tryz.underlying24 (by kernel_rfl) _ _ _ _ _ _ rfl rfl w.heap.size 16 (runeCells (List.replicate N 0)) 21 HG.out (runeCells E) tc.out (fun _=>⟨rfl,_,rfl,Jt.out⟩) Dt.out (bh _) ?_;intro w4 Hg sW;have yO:=qqh (show aj w4 w.heap.size 21 (runeCells (splice (List.replicate N 0) 16 E)).toArray by rw [← dX];exact Hg.out);have dS:=qqh (show aj w4 (w.heap.size+1) 221 #[.slice (some ⟨w.heap.size,0,none⟩) N N,.int .i64 0,.int .i64 16] from(sW.block _ (by omega)).trans xY.out);have oU:=qqh (qY.out.trans ((aE (Below.refl w.heap.size W3)).trans (sW.below qql)));clear Hg sW;(try dsimp only);refine hK.out _ _ ?_;clear hK K;(try simp only [zp,za,z0,zs])
 refine aK (by kernel_rfl) ?_ _;go_simp;go_wp2_with fail
 all_goals
   go_ret
   refine⟨rfl,⟨w.heap.size,N,splice (List.replicate N 0) 16 E,0,16,⟨dS.out,yO.out,aW.out,by omega,by omega,by omega⟩,by omega,qql,rfl,KG.out⟩,oU.out⟩
end Go.Proofs.YtblinekbpcdbfaaGreatDoor
