/- StReach + StBegin -/
import Derived.Test.YtkggjgeihhialaaGreatDoorZs35
import Derived.Test.YtkggjgeihhialaaGreatDoorZs36
set_option maxHeartbeats 3200000
set_option maxRecDepth 100000
namespace Go.Proofs.YtkggjgeihhialaaGreatDoor
open Go.RowKit
def VI (w:World) (l:List ax) (n:Nat) (x y i:Value) (wr:World):Prop:=∃ q a b:Nat,q≤n∧i=.int .i64 (q:Int)∧x=.int .i64 (a:Int)∧y=.int .i64 (b:Int)∧a≤20∧b≤40∧(∀ r∈l.take q,r.source.length+r.after.length≤b)∧Below w.heap.size w wr
theorem xg (X:Nat→Prop) (l:List ax) (A:Option Addr) (n c:Nat) (w:World) (hn:n≤maxLen) (hR:∀ r∈l,cX r) (hl:bh (aO w X) w X 7 A n l) :
    Calls Tryz.prog 30 #[.slice A n c] w fun e w'=>(∃ a b:Nat,e=.returned (.tuple #[.int .i64 (a:Int),.int .i64 (b:Int)])∧b≤40∧∀ r∈l,r.source.length+r.after.length≤b)∧Below w.heap.size w w':=by
 have aS:=qqh (show l.length=n from hl.len);have HL:=qqh hl;have HR:=qqh hR;clear hl hR;simp only [maxLen]at hn;go_enter Tryz.func30,Tryz.ntmps30;go_wp2_with fail;go_loopw [2,3,8] (VI w l n) (fun _ _ i _=>n - (intOf i).toNat);(case atStart=>exact⟨0,0,0,Nat.zero_le _,rfl,rfl,rfl,Nat.zero_le _,Nat.zero_le _,by simp,Below.refl _ _⟩);obtain⟨q,a,b,hq,rfl,rfl,rfl,ha,PG,hall,hb⟩:=hrel;have oZ:=qqh hall;have HB:=qqh hb;clear hall;by_cases hlt:q<n
 ·obtain⟨r,hr⟩:∃ r,l[q]? = some r:=⟨_,List.getElem?_eq_getElem (by rw [aS.out];exact hlt)⟩;have tQ:=HR.out r (List.mem_of_getElem? hr);obtain⟨rb,ro,A1,A2,A3,A4,n1,c1,n2,c2,n3,c3,n4,c4,rfl,_,dL,⟨d0,d1,d2,d3,d4,d5,d6⟩,s1',s2',s3',_,_⟩:=lV (HL.out.keep (aa.any hb) (fun _ _=>aO.keep (aa.any hb))) hr;have kB:n1≤20:=(by rw [← s1'.list.len];exact(tQ.sets r.before (by simp [dA])).1);have jd:n2≤20:=(by rw [← s2'.list.len];exact(tQ.sets r.source (by simp [dA])).1);have Fl:n3≤20:=(by rw [← s3'.list.len];exact(tQ.sets r.after (by simp [dA])).1);have Ki:=qqh (show r.source.length+r.after.length=n2+n3 by rw [s2'.list.len,s3'.list.len]);have T8:=qqh (show l.take (q+1)=l.take q++[r] by rw [List.take_add_one,hr];rfl);have Qh:(0:Int)≤(q:Int):=(by omega);have hq1:(q:Int)<(n:Int):=(by omega);have hd:decide ((q:Int)<(n:Int))=true:=decide_eq_true hq1;have HG:=qqh (aj.new wr 89 #[.bool r.start,.bool r.fin,.slice A1 n1 c1,.slice A2 n2 c2,.slice A3 n3 c3,.slice A4 n4 c4,.int .i64 r.af]);have bR:=qqh (hb.alloc hb.size (.cells #[.bool r.start,.bool r.fin,.slice A1 n1 c1,.slice A2 n2 c2,.slice A3 n3 c3,.slice A4 n4 c4,.int .i64 r.af] 89));clear hr tQ s1' s2' s3' hb;go_upto_region 4 with fail;generalize wr.alloc (.cells #[.bool r.start,.bool r.fin,.slice A1 n1 c1,.slice A2 n2 c2,.slice A3 n3 c3,.slice A4 n4 c4,.int .i64 r.af] 89)=W1 at *;clear d0 d1 d2 d3 d4 d5 d6;have g2:W1.cell? ⟨wr.heap.size,2,none⟩=some (.slice A1 n1 c1):=HG.out.cell 2;have g3:W1.cell? ⟨wr.heap.size,3,none⟩=some (.slice A2 n2 c2):=HG.out.cell 3;have g4:W1.cell? ⟨wr.heap.size,4,none⟩=some (.slice A3 n3 c3):=HG.out.cell 4
  have v1:IntKind.i64.wrap ((n2:Int)+(n3:Int))=(n2:Int)+(n3:Int):=IntWalk.i64_in _ (by omega);refine av (S:=(fun w'=>w'.cell? ⟨wr.heap.size,2,none⟩=some (.slice A1 n1 c1)∧w'.cell? ⟨wr.heap.size,3,none⟩=some (.slice A2 n2 c2)∧w'.cell? ⟨wr.heap.size,4,none⟩=some (.slice A3 n3 c3))) [2,7,10] (by kernel_rfl) ⟨g2,g3,g4⟩ (fun aX=>?_);apply tp 0 12 rfl (by kernel_rfl) (fun _ _ _ h=>h) (by rfl)
  ·intro wq _;go_simp;(try with_reducible rfl)
  (try simp only [zp,za,z0,zs]);apply tp 1 13 rfl (by kernel_rfl) (fun _ _ _ h=>h) (by rfl)
  ·intro wq _;go_simp;(try with_reducible rfl)
  (try simp only [zp,za,z0,zs]);apply tt 2 14 rfl (by kernel_rfl) (fun _ _ _ h=>h) (by rfl) (by assumption)
  ·intro wq fl;(try dsimp only at fl);go_simp;(try with_reducible rfl)
  (try simp only [zp,za,z0,zs]);apply tp 3 15 rfl (by kernel_rfl) (fun _ _ _ h=>h) (by rfl)
  ·intro wq _;go_simp;(try with_reducible rfl)
  (try simp only [zp,za,z0,zs]);apply tp 4 16 rfl (by kernel_rfl) (fun _ _ _ h=>h) (by rfl)
  ·intro wq _;go_simp;(try with_reducible rfl)
  (try simp only [zp,za,z0,zs]);apply tp 5 17 rfl (by kernel_rfl) (fun _ _ _ h=>h) (by rfl)
  ·intro wq _;go_simp;(try with_reducible rfl)
  (try simp only [zp,za,z0,zs]);apply tp 6 18 rfl (by kernel_rfl) (fun _ _ _ h=>h) (by rfl)
  ·intro wq _;go_simp;(try with_reducible rfl)
  (try simp only [zp,za,z0,zs]);apply tt 7 19 rfl (by kernel_rfl) (fun _ _ _ h=>h) (by rfl) (by assumption)
  ·intro wq fl;(try dsimp only at fl);go_simp;(try with_reducible rfl)
  (try simp only [zp,za,z0,zs]);apply tp 8 20 rfl (by kernel_rfl) (fun _ _ _ h=>h) (by rfl)
  ·intro wq _;go_simp;(try with_reducible rfl)
  (try simp only [zp,za,z0,zs]);apply tp 9 21 rfl (by kernel_rfl) (fun _ _ _ h=>h) (by rfl)
  ·intro wq _;go_simp;(try with_reducible rfl)
  (try simp only [zp,za,z0,zs]);apply tt 10 22 rfl (by kernel_rfl) (fun _ _ _ h=>h) (by rfl) (by assumption)
  ·intro wq fl;(try dsimp only at fl);go_simp;(try with_reducible rfl)
  (try simp only [zp,za,z0,zs]);apply tp 11 23 rfl (by kernel_rfl) (fun _ _ _ h=>h) (by rfl)
  ·intro wq _;go_simp;(try with_reducible rfl)
  (try simp only [zp,za,z0,zs]);apply tp 12 24 rfl (by kernel_rfl) (fun _ _ _ h=>h) (by rfl)
  ·intro wq _;go_simp;(try with_reducible rfl)
  (try simp only [zp,za,z0,zs]);apply tp 13 25 rfl (by kernel_rfl) (fun _ _ _ h=>h) (by rfl)
  ·intro wq _;go_simp;(try with_reducible rfl)
  (try simp only [zp,za,z0,zs]);apply tp 14 2 rfl (by kernel_rfl) (fun _ _ _ h=>h) (by rfl)
  ·intro wq _;go_simp;(try with_reducible rfl)
  (try simp only [zp,za,z0,zs]);apply tp 15 3 rfl (by kernel_rfl) (fun _ _ _ h=>h) (by rfl)
  ·intro wq _;go_simp;(try with_reducible rfl)
  (try simp only [zp,za,z0,zs]);refine aI (by kernel_rfl) ?_ _;go_simp;have bt:=qqh (az bR.out);go_wp2_with fail;refine⟨⟨q+1,max a n1,max b (n2+n3),by omega,by go_num,by simp;omega,by simp;omega,by omega,by omega,fun x hx=>?_,bt.out⟩,by simp [intOf];omega⟩;rw [T8.out]at hx;rcases List.mem_append.1 hx with hx | hx
  ·have:=oZ.out x hx;omega
  rw [List.mem_singleton.1 hx,Ki.out];omega
 obtain rfl:q=n:=(by omega);go_wp2_with fail;go_ret2;exact⟨⟨a,b,rfl,PG,fun r hr=>oZ.out r (by rw [List.take_of_length_le (Nat.le_of_eq aS.out)];exact hr)⟩,HB.out⟩
theorem aj.ye {w:World} {g b i:Nat} {t:TypeId} {cs:Array Value} (h:aj w g t cs) (hne:g≠b) (u:Value):aj (w.setCell ⟨b,i,none⟩ u) g t cs :=
  (Below.heap_setCell _ _ _ _ hne).trans h
def Rb (l:List ax) (Ar:Option Addr) (nr cr lo:Nat) (e:Ending) (w':World):Prop :=
  ∃ M ahead:Nat,e=.returned (.tuple #[.pointer (some ⟨M,0,none⟩),.agg #[.int .i64 0,.int .i64 0]])∧lo≤M∧iU w' M (M+1) Ar nr cr [] none 0 0 0 0 0 0 ahead∧ahead≤40∧∀ r∈l,r.source.length+r.after.length≤ahead
theorem Jy (X:Nat→Prop) (l:List ax) (Ar:Option Addr) (nr cr k:Nat) (w:World) (xq:nr≤maxLen) (Fz:(cP l).1=0) (hk:k≤200) (hl:bh (aO w X) w X 7 Ar nr l) :
    Calls Tryz.prog 21 #[.slice Ar nr cr,.int .i64 (k:Int)] w fun e w'=>Rb l Ar nr cr w.heap.size e w'∧Below w.heap.size w w':=by
 have HL:=qqh (fun(W:World) (hb:Below w.heap.size w W)=>show bh (aO W X) W X 7 Ar nr l from hl.keep (aa.any hb) (fun _ _=>aO.keep (aa.any hb)));have HR:=qqh (ru (l:=l) Fz);obtain⟨r1,r2,hr⟩:∃ r1 r2,cP l=(r1,r2):=⟨_,_,rfl⟩;obtain rfl:r1=0:=(by rw [hr]at Fz;exact Fz);have wK:=qqh (aj.new w 38 #[.int .i64 0,.int .i64 0]);have hb0:=(Below.refl w.heap.size w).alloc (Nat.le_refl _) (.cells #[.int .i64 0,.int .i64 0] 38);have dV:=qqh hb0;have HW:=qqh (lz X l Ar nr cr _ xq (HL.out _ hb0));rw [hr]at HW;dsimp only at HW;have hkk:decide (200<(k:Int))=false:=decide_eq_false (by omega);clear hl Fz hr hb0;go_enter Tryz.func21,Tryz.ntmps21;go_wp2_with fail;refine HW.out.mono ?_;rintro e w1 ⟨rfl,aT⟩;have sv:=qqh ((aj.below wK.out aT wK.out.lt).alloc (.cells #[.int .i64 0,.int .i64 r2] 38));have aQ:=dV.out.trans (aT.mono dV.out.size);have bt:=qqh (aQ.alloc aQ.size (.cells #[.int .i64 0,.int .i64 r2] 38));have HF:=qqh (aj.new w1 38 #[.int .i64 0,.int .i64 r2]);clear aT aQ HW wK dV;go_upto_region 2 with fail;generalize w1.alloc (.cells #[.int .i64 0,.int .i64 r2] 38)=W2 at *;have f0:W2.cell? ⟨w1.heap.size,0,none⟩=some (.int .i64 0):=HF.out.cell 0;have Mh:=qqh (xg X l Ar nr cr W2 xq HR.out (HL.out W2 bt.out));go_wp2_with fail;refine Mh.out.mono ?_;rintro e w3 ⟨⟨a,b,rfl,PG,hall⟩,bJ⟩;have hb4:=bt.out.trans (bJ.mono bt.out.size);have hx3:=aj.below sv.out bJ sv.out.lt;have hba:=(Below.refl w3.heap.size w3).alloc (Nat.le_refl _) (.cells #[.slice Ar nr cr,.slice none 0 0,.int .i64 0,.int .i64 0,.int .i64 0,.int .i64 0,.int .i64 (b:Int)] 116)
 have N9:=hx3.alloc (.cells #[.slice Ar nr cr,.slice none 0 0,.int .i64 0,.int .i64 0,.int .i64 0,.int .i64 0,.int .i64 (b:Int)] 116);have De:=aj.new w3 116 #[.slice Ar nr cr,.slice none 0 0,.int .i64 0,.int .i64 0,.int .i64 0,.int .i64 0,.int .i64 (b:Int)];have Vj:=qqh hb4.size;have Se:=qqh hx3.lt;have cZ:=qqh (hb4.trans (hba.mono hb4.size));have Fh:=qqh De;have oZ:=qqh hall;have x0:=N9.cell 0;have x1:=N9.cell 1;have p0:=N9.frozen 0;have p1:=N9.frozen 1;clear bJ hb4 hx3 hba N9 De hall f0 HF Mh sv bt;go_wp2_with fail;have pE:=((cZ.out.setCell (p:=⟨w.heap.size,0,none⟩) (Nat.le_refl _) (.int .i64 0)).setCell (p:=⟨w.heap.size,1,none⟩) (Nat.le_refl _) (.int .i64 0));have hpf:=(Fh.out.ye (i:=0) (b:=w.heap.size) (Nat.ne_of_gt Se.out) (.int .i64 0)).ye (i:=1) (b:=w.heap.size) (Nat.ne_of_gt Se.out) (.int .i64 0);exact bodyPost_ret (v:=.tuple #[.pointer (some ⟨w3.heap.size,0,none⟩),.agg #[.int .i64 0,.int .i64 0]]) (by simp [results,Tryz.results21,go_sem,x0,x1]) rfl ⟨⟨w3.heap.size,b,rfl,Vj.out,⟨hpf,⟨rfl,fun h=>absurd h (Nat.lt_irrefl 0)⟩,Nat.le_refl _,Nat.lt_succ_self _⟩,PG,oZ.out⟩,pE⟩
end Go.Proofs.YtkggjgeihhialaaGreatDoor
