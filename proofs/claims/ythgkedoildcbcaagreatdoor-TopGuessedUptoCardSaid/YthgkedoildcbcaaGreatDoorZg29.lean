/- MachAll + RunP + RefMatch -/
import Derived.Test.YthgkedoildcbcaaGreatDoorZg27
import Derived.Test.YthgkedoildcbcaaGreatDoorZg26
import Derived.Test.YthgkedoildcbcaaGreatDoorZg17
import Derived.Test.YthgkedoildcbcaaGreatDoorZg16
import Derived.BigRegion
set_option maxHeartbeats 6400000
set_option maxRecDepth 100000
namespace Go.Proofs.YthgkedoildcbcaaGreatDoor
open Go.RowKit
theorem qv {t:TypeId} {name:String} {path:List FieldStep} {f:FuncId} (h:(Tryz.prog.info? t).map (fun i=>(i.methods.find? (·.name == name)).map fun m=>(m.path.toList,m.func))=some (some (path,some (f,true)))) :
    ∃ i,Tryz.prog.info? t=some i∧∃ m,i.methods.find? (·.name == name)=some m∧m.path.toList=path∧m.func=some (f,true):=by
 obtain⟨i,hi,h2⟩:=Option.map_eq_some_iff.1 h;obtain⟨m,hm,h3⟩:=Option.map_eq_some_iff.1 h2;simp only [Prod.mk.injEq]at h3;exact⟨i,hi,m,hm,h3.1,h3.2⟩
theorem Mb (M:Nat) (w:World) (v:Value) (h:w.cell? ⟨M,0,none⟩=some v):(method 392 177 (.pointer (some ⟨M,0,none⟩)) "Len").run Tryz.prog w=.ok (101,v) w:=by
 obtain⟨i,hi,m,hm,hp,hf⟩:=qv (t:=177) (name:="Len") (path:=[⟨181,0,true⟩]) (f:=101) (by kernel_rfl);unfold method;simp [go_sem,typeInfo,hi,hm,hp,hf,follow,receiverAt,Place.get,loadVar,h]
theorem H9 (M:Nat) (w:World) (v:Value) (h:w.cell? ⟨M,0,none⟩=some v):(method 392 177 (.pointer (some ⟨M,0,none⟩)) "Rune").run Tryz.prog w=.ok (137,v) w:=by
 obtain⟨i,hi,m,hm,hp,hf⟩:=qv (t:=177) (name:="Rune") (path:=[⟨181,0,true⟩]) (f:=137) (by kernel_rfl);unfold method;simp [go_sem,typeInfo,hi,hm,hp,hf,follow,receiverAt,Place.get,loadVar,h]
theorem DQ:∀ args w,(callFunc 101 args).run Tryz.prog w=.ok (.enter 101 args) w:=enters_of Tryz.func101 (by kernel_rfl) rfl
theorem C9:∀ args w,(callFunc 137 args).run Tryz.prog w=.ok (.enter 137 args) w:=enters_of Tryz.func137 (by kernel_rfl) rfl
def UW (lo M b:Nat) (A Z:List Int) (w:World):Prop:=w.cell? ⟨M,0,none⟩=some (.pointer (some ⟨b,0,none⟩))∧M<w.heap.size∧uR lo w b A Z
theorem Ir (lo M b:Nat) (A Z:List Int):FH 177 (.pointer (some ⟨M,0,none⟩)) (.pointer (some ⟨b,0,none⟩)) 101 137 (A++Z) (UW lo M b A Z) where
  enterL:=DQ
  enterR:=C9
  ml:=fun w h=>Mb M w _ h.1
  mr:=fun w h=>H9 M w _ h.1
  len:=fun w h=>by
    have:=tZ h.2.2
    rwa [← List.length_append]at this
  rune:=fun w k x h hx=>B5 h.2.2 k x hx
  keep:=fun w w' h hb=>⟨(hb.cell (p:=⟨M,0,none⟩) h.2.1).trans h.1,Nat.lt_of_lt_of_le h.2.1 hb.size,h.2.2.below hb⟩
def hereAt (l:List ax) (T:List Int) (q:Nat) (k:Int):Bool:=match l[k.toNat]? with | some r=>eX r T q | none=>false
def dH (l:List ax) (T:List Int) (q:Nat):List Int→Int
  | []=>-1
  | k::ks=>if hereAt l T q k=true then k else dH l T q ks
def upTo (n:Nat):List Int:=(List.range n).map fun i:Nat=>(i:Int)
def ep (l:List ax) (T:List Int) (q:Nat):Int:=dH l T q (upTo l.length)
theorem vT (l:List ax) (T:List Int) (q:Nat) (m:Nat→Bool):∀ (ks:List Nat),(∀ k∈ks,m k=false→hereAt l T q (k:Int)=false)→dH l T q ((ks.filter m).map fun i:Nat=>(i:Int))=dH l T q (ks.map fun i:Nat=>(i:Int)):=by
 intro ks;induction ks with
 | nil=>intro _;rfl
 | cons k ks ih=>
  intro h;have h2:=ih (fun x hx=>h x (by simp [hx]));cases hm:m k
  ·rw [List.filter_cons_of_neg (by simp [hm]),h2,List.map_cons,dH,if_neg (by rw [h k (by simp) hm];decide)]
  rw [List.filter_cons_of_pos hm,List.map_cons,List.map_cons,dH,dH,h2]
theorem EE {r:ax} {T:List Int} {q:Nat} {x:Int} (hs:r.source ≠ []) (hx:T[q]? = some x) (h:bt (bM r) x=false):eX r T q=false:=by
 have h1:lW T q r.source=false:=by
  cases hr:r.source with
  | nil=>exact absurd hr hs
  | cons s l=>
   unfold lW;split;rfl;have:bM r=s:=(by unfold bM;rw [hr];rfl);rw [this]at h;rw [Int.toNat_natCast,cW hx,lZ,h,Bool.false_and]
 unfold eX;rw [h1];simp
theorem Cu {l:List ax} {T:List Int} {q:Nat} {x:Int} (hs:∀ r∈l,r.source ≠ []) (hx:T[q]? = some x):dH l T q (cH l x)=ep l T q:=by
 unfold cH dm ep upTo;refine vT l T q _ _ (fun k hk hm=>?_);unfold hereAt;rw [Int.toNat_natCast];cases hl:l[k]? with
 | none=>rfl
 | some r=>
  unfold tM at hm;rw [hl]at hm;exact EE (hs r (List.mem_of_getElem? hl)) hx hm
theorem xY (l:List ax) (T:List Int) (q:Nat):∀ ks:List Int,(∀ k∈ks,0≤k)→dH l T q ks = -1∨∃ (k:Nat) (r:ax),dH l T q ks=(k:Int)∧l[k]? = some r∧eX r T q=true:=by
 intro ks;induction ks with
 | nil=>intro _;exact .inl rfl
 | cons k ks ih=>
  intro h;rw [dH];by_cases hk:hereAt l T q k=true
  ·rw [if_pos hk];right;unfold hereAt at hk;cases hl:l[k.toNat]? with
   | none=>rw [hl]at hk;cases hk
   | some r=>
    rw [hl]at hk;exact⟨k.toNat,r,by have:=h k (by simp);omega,hl,hk⟩
  rw [if_neg hk];exact ih (fun x hx=>h x (by simp [hx]))
theorem qu (l:List ax) (T:List Int) (q:Nat):ep l T q = -1∨∃ (k:Nat) (r:ax),ep l T q=(k:Int)∧l[k]? = some r∧eX r T q=true :=
  xY l T q _ (fun k hk=>by
    unfold upTo at hk
    obtain⟨i,_,rfl⟩:=List.mem_map.1 hk
    omega)
theorem xR (gm gr M blk off n c i:Nat) (r y:Int) (w:World) (hi:i<n) (hm:w.cell? ⟨gm,0,none⟩=some (.pointer (some ⟨M,0,none⟩))) (ha:w.cell? ⟨M,2,none⟩=some (.slice (some ⟨blk,off,none⟩) n c)) (hr:w.cell? ⟨gr,0,none⟩=some (.int .i32 r)) (hc:w.cell? ⟨blk,off+i*3+1,none⟩=some (.int .i32 y)) :
    Calls Tryz.prog 138 (#[.int .i64 i] ++ #[.pointer (some ⟨gm,0,none⟩),.pointer (some ⟨gr,0,none⟩)]) w fun e w'=>e=.returned (.bool (decide (r≤y)))∧Below w.heap.size w w':=by
 have hiz:(i:Int)<(n:Int):=(by omega);go_enter Tryz.func138,Tryz.ntmps138;go_wp2_with fail;go_quiet (fail);go_wp2_with fail;go_ret;exact⟨rfl,below_drewN (Below.refl _ _) _⟩
theorem AE:∀ args w,(callFunc 138 args).run Tryz.prog w=.ok (.enter 138 args) w:=enters_of Tryz.func138 (by kernel_rfl) rfl
def lA (b:Nat) (Ar:Option Addr) (nr cr:Nat) (Ah:Option Addr) (nh ch:Nat) (dw s p:Int):Array Value:=#[.pointer (some ⟨b,0,none⟩),.slice Ar nr cr,.slice Ah nh ch,.int .i64 dw,.slice none 0 0,.int .i64 s,.int .i64 p]
structure dc (lo:Nat) (w:World) (M b:Nat) (A Z:List Int) (l:List ax) (hs:List bG) (Ar:Option Addr) (nr cr:Nat) (Ah:Option Addr) (nh ch:Nat) (dw s p:Int):Prop where
  ge:lo≤M
  blk:ai w M 181 (lA b Ar nr cr Ah nh ch dw s p)
  buf:uR lo w b A Z
  rules:bH (aW w (fun x=>x<lo)) w (fun x=>x<lo) 7 Ar nr l
  heads:bH (gK w (fun x=>x<lo)) w (fun x=>x<lo) 3 Ah nh hs
theorem dc.below {lo:Nat} {w w':World} {M b:Nat} {A Z:List Int} {l:List ax} {hs:List bG} {Ar:Option Addr} {nr cr:Nat} {Ah:Option Addr} {nh ch:Nat} {dw s p:Int} (h:dc lo w M b A Z l hs Ar nr cr Ah nh ch dw s p) (hb:Below w.heap.size w w'):dc lo w' M b A Z l hs Ar nr cr Ah nh ch dw s p :=
  ⟨h.ge,ai.below h.blk hb h.blk.lt,h.buf.below hb,h.rules.keep (aa.any hb) (fun _ _=>aW.keep (aa.any hb)),h.heads.keep (aa.any hb) (fun _ _=>gK.keep (aa.any hb))⟩
theorem rz {lo:Nat} {w:World} {M b:Nat} {A Z:List Int} {l:List ax} {hs:List bG} {Ar:Option Addr} {nr cr:Nat} {Ah:Option Addr} {nh ch:Nat} {dw s p:Int} (h:dc lo w M b A Z l hs Ar nr cr Ah nh ch dw s p)
    (x:Int) (hx:(A++Z)[A.length]? = some x) (hx0:0≤x∧x≤1114111) (hT:(A++Z).length≤100000) (MI:nh≤400) (oS:fT l hs 1114112) (hR:∀ r∈l,ey r) (hlen:l.length≤200) :
    Calls Tryz.prog 122 #[.pointer (some ⟨M,0,none⟩)] w fun e w'=>e=.returned (.int .i64 (ep l (A++Z) A.length))∧Below w.heap.size w w':=by
 have dV:=(Below.refl w.heap.size w).alloc (Nat.le_refl _) (.cells #[.pointer (some ⟨M,0,none⟩)] 177);have H:=qqh h;have HX:=qqh hx;have Vb:=qqh oS;have jd:=qqh hR;have VY:=qqh (show hs.length=nh from h.heads.len);have Sj:=qqh (show l.length=nr from h.rules.len);have EM:=qqh (h.below dV);have HG:=qqh (ai.new w 177 #[.pointer (some ⟨M,0,none⟩)]);have dF:=qqh dV;clear h hx oS hR dV;go_enter Tryz.func122,Tryz.ntmps122;go_wp2_with fail;generalize Xs:w.alloc (.cells #[.pointer (some ⟨M,0,none⟩)] 177)=W1 at *;have g0:=HG.out.cell 0;have c0:=EM.out.blk.cell 0;have On:=HG.out.lt;have hml:=EM.out.blk.lt;have th:=qqh (fun(W:World) (hb:Below W1.heap.size W1 W)=>rJ (EM.out.buf.below hb));have jC:=qqh (fun(W:World) (hb:Below W1.heap.size W1 W)=>B5 (EM.out.buf.below hb) A.length x HX.out);clear Xs;have HC:=qqh (fun(W:World) (hb:Below W1.heap.size W1 W)=>show W.cell? ⟨w.heap.size,0,none⟩=some (.pointer (some ⟨M,0,none⟩))∧W.cell? ⟨M,0,none⟩=some (.pointer (some ⟨b,0,none⟩)) from⟨(hb.cell (p:=⟨w.heap.size,0,none⟩) On).trans g0,(hb.cell (p:=⟨M,0,none⟩) hml).trans c0⟩);go_upto_region 1 with fail;go_cut [3] (fun s3 wx=>∃ G,s3=.pointer (some ⟨G,0,none⟩)∧ai wx G 21 #[.int .i32 x]∧Below W1.heap.size W1 wx);case first=>
  refine az (S:=fun w'=>w'.cell? ⟨w.heap.size,0,none⟩=some (.pointer (some ⟨M,0,none⟩))∧w'.cell? ⟨M,0,none⟩=some (.pointer (some ⟨b,0,none⟩))) [0,3,4,7] (by kernel_rfl) ⟨g0,c0⟩ (fun bh=>?_);refine tu 0 7 ?_;(try simp only [zp,za,z0,zs]);refine tq 1 8 ?_;(try simp only [zp,za,z0,zs]);refine tq 2 9 ?_;(try simp only [zp,za,z0,zs]);refine tu 3 10 ?_;(try simp only [zp,za,z0,zs]);refine tu 4 11 ?_;(try simp only [zp,za,z0,zs]);refine tq 5 12 ?_;(try simp only [zp,za,z0,zs]);refine tq 6 13 ?_;(try simp only [zp,za,z0,zs]);refine tu 7 14 ?_;(try simp only [zp,za,z0,zs]);refine fy (i:=8) (j:=10) (o:=⟨some 15,_,_,_,_,_⟩) (o2:=⟨some 3,_,_,_,_,_⟩) (by kernel_rfl) rfl rfl (fun K hK=>?_) (fun K hK=>?_)
  ·go_simp;go_at_call 100;refine(th.out _ (aC (Below.refl W1.heap.size W1))).mono ?_;rintro e w2 ⟨rfl,rfl⟩;(try dsimp only);refine hK.out _ _ ?_ (fun bh=>?_);exact HC.out _ (aC (Below.refl W1.heap.size W1));clear hK K;(try simp only [zp,za,z0,zs]);refine fy (i:=9) (j:=10) (o:=⟨some 16,_,_,_,_,_⟩) (o2:=⟨some 3,_,_,_,_,_⟩) (by kernel_rfl) rfl rfl (fun K hK=>?_) (fun K hK=>?_)
   ·go_simp;go_at_call 137;refine(jC.out _ (aC (Below.refl W1.heap.size W1))).mono ?_;rintro e w2 ⟨rfl,k2,xP⟩;have bw:=qqh (show Below W1.heap.size W1 w2 by rw [xP];exact below_drewN (aC (Below.refl W1.heap.size W1)) k2);clear xP;(try dsimp only);refine hK.out _ _ ?_ (fun bh=>?_);exact HC.out _ bw.out;clear hK K;(try simp only [zp,za,z0,zs]);refine aF (i:=10) (o:=⟨some 3,_,_,_,_,_⟩) (by kernel_rfl) rfl (fun K hK=>?_);go_simp;(try dsimp only);refine hK.out _ _ ?_ (fun bh=>?_);exact HC.out _ (bw.out.alloc bw.out.size _);clear hK K;(try simp only [zp,za,z0,zs]);refine aA (i:=11) (by kernel_rfl) rfl (by kernel_rfl) (fun K hK=>?_);go_simp;(try dsimp only);refine hK.out _ _ ?_;clear hK K;refine aJ (by kernel_rfl) ?_ _;go_simp;go_wp2_with fail;go_meet;exact⟨w2.heap.size,rfl,ai.new _ _ _,bw.out.alloc bw.out.size _⟩
   go_simp;(try dsimp only);refine hK.out _ _ ?_ (fun bh=>?_);exact HC.out _ (aC ((Below.refl W1.heap.size W1).alloc (Nat.le_refl _) (.cells #[.int .i32 0] 21)));clear hK K;(try simp only [Act.put,List.setIfInBounds_toArray,List.set_cons_zero,List.set_cons_succ]);refine aF (i:=9) (o:=⟨some 16,_,_,_,_,_⟩) (by kernel_rfl) rfl (fun K hK=>?_);go_simp;go_at_call 137;refine(jC.out _ (aC ((Below.refl W1.heap.size W1).alloc (Nat.le_refl _) (.cells #[.int .i32 0] 21)))).mono ?_;rintro e w2 ⟨rfl,k2,xP⟩;have bw:=qqh (show Below W1.heap.size W1 w2 by rw [xP];exact below_drewN (aC ((Below.refl W1.heap.size W1).alloc (Nat.le_refl _) (.cells #[.int .i32 0] 21))) k2);have Qz:=qqh (show ai w2 W1.heap.size 21 #[.int .i32 0] by rw [xP];exact ai.new W1 21 #[.int .i32 0]);clear xP;(try dsimp only);refine hK.out _ _ ?_ (fun bh=>?_);exact HC.out _ bw.out;clear hK K;(try simp only [zp,za,z0,zs]);refine aA (i:=11) (by kernel_rfl) rfl (by kernel_rfl) (fun K hK=>?_);have z0:=Qz.out.cell 0;have z1:=Qz.out.frozen 0;go_simp;(try dsimp only);refine hK.out _ _ ?_;clear hK K;refine aJ (by kernel_rfl) ?_ _;go_simp;go_wp2_with fail;go_meet;exact⟨W1.heap.size,rfl,Qz.out.put 0 _,bw.out.setCell (Nat.le_refl _) _⟩
  go_simp;(try dsimp only);refine hK.out _ _ ?_ (fun bh=>?_);exact HC.out _ (aC ((Below.refl W1.heap.size W1).alloc (Nat.le_refl _) (.cells #[.int .i32 0] 21)));clear hK K;(try simp only [Act.put,List.setIfInBounds_toArray,List.set_cons_zero,List.set_cons_succ]);refine aF (i:=8) (o:=⟨some 15,_,_,_,_,_⟩) (by kernel_rfl) rfl (fun K hK=>?_);go_simp;go_at_call 100;refine(th.out _ (aC ((Below.refl W1.heap.size W1).alloc (Nat.le_refl _) (.cells #[.int .i32 0] 21)))).mono ?_;rintro e w2 ⟨rfl,rfl⟩;(try dsimp only);refine hK.out _ _ ?_ (fun bh=>?_);exact HC.out _ (aC ((Below.refl W1.heap.size W1).alloc (Nat.le_refl _) (.cells #[.int .i32 0] 21)));clear hK K;(try simp only [zp,za,z0,zs]);refine aF (i:=9) (o:=⟨some 16,_,_,_,_,_⟩) (by kernel_rfl) rfl (fun K hK=>?_);go_simp;go_at_call 137;refine(jC.out _ (aC ((Below.refl W1.heap.size W1).alloc (Nat.le_refl _) (.cells #[.int .i32 0] 21)))).mono ?_;rintro e w2 ⟨rfl,k2,xP⟩;have bw:=qqh (show Below W1.heap.size W1 w2 by rw [xP];exact below_drewN (aC ((Below.refl W1.heap.size W1).alloc (Nat.le_refl _) (.cells #[.int .i32 0] 21))) k2);have Qz:=qqh (show ai w2 W1.heap.size 21 #[.int .i32 0] by rw [xP];exact ai.new W1 21 #[.int .i32 0]);clear xP;(try dsimp only);refine hK.out _ _ ?_ (fun bh=>?_);exact HC.out _ bw.out;clear hK K;(try simp only [zp,za,z0,zs]);refine aA (i:=11) (by kernel_rfl) rfl (by kernel_rfl) (fun K hK=>?_);have z0:=Qz.out.cell 0;have z1:=Qz.out.frozen 0;go_simp;(try dsimp only);refine hK.out _ _ ?_;clear hK K;refine aJ (by kernel_rfl) ?_ _;go_simp;go_wp2_with fail;go_meet;exact⟨W1.heap.size,rfl,Qz.out.put 0 _,bw.out.setCell (Nat.le_refl _) _⟩
 obtain⟨G,rfl,hGx,ie⟩:=hcut;have su:=qqh ie;have FK:=qqh hGx;have WA:=qqh (EM.out.below ie);have HF:=qqh (ai.below HG.out ie On);have t0:=HF.out.cell 0;have t2:wc.cell? ⟨M,2,none⟩=some (.slice Ah nh ch):=WA.out.blk.cell 2
 have Jl:=qqh (tf 138 #[.pointer (some ⟨w.heap.size,0,none⟩),.pointer (some ⟨G,0,none⟩)] nh (fun i=>decide (x≤(hs[i]?.getD ⟨0,0,[]⟩).high)) wc AE (by omega)
   (fun w' i hb hi=>by
     obtain⟨y,hy⟩:∃ z,hs[i]? = some z:=⟨_,List.getElem?_eq_getElem (by rw [VY.out];exact hi)⟩
     obtain⟨hb',hoff,A',c',rfl,_,cC,_,c1,_⟩:=Gb (WA.out.below hb).heads hy
     rw [hy]
     exact xR w.heap.size G M hb' hoff nh ch i x y.high w' hi ((ai.below HF.out hb HF.out.lt).cell 0) ((WA.out.below hb).blk.cell 2) ((ai.below FK.out hb FK.out.lt).cell 0) c1)
   (fun a b hab hb h=>by
     obtain⟨y,hy⟩:∃ z,hs[a]? = some z:=⟨_,List.getElem?_eq_getElem (by rw [VY.out];omega)⟩
     obtain⟨z,hz⟩:∃ z,hs[b]? = some z:=⟨_,List.getElem?_eq_getElem (by rw [VY.out];omega)⟩
     simp only [hy,hz,Option.getD_some,decide_eq_true_eq]at h ⊢
     have:=Vb.out.VK a b y z hab hy hz
     omega))
 clear hGx ie g0 c0;go_wp2_with fail;refine Jl.out.mono ?_;rintro e w2 ⟨k,rfl,hk,h1,h2,hb⟩;obtain⟨y,hy,hyr⟩:=Vb.out.head (r:=x) (k:=k) (fun t z ht hz=>by
  have:=h1 t ht;rw [hz]at this;simpa using this) (fun t z ht hz=>by
  have:=h2 t ht (by rw [← VY.out];exact(List.getElem?_eq_some_iff.1 hz).1);rw [hz]at this;simpa using this) hx0.1 hx0.2
 have hkn:k<nh:=(by rw [← VY.out];exact(List.getElem?_eq_some_iff.1 hy).1);have ZX:=qqh (WA.out.below hb);have Ji:=qqh (ai.below HF.out hb HF.out.lt);have HBD:=qqh (dF.out.trans ((su.out.trans (hb.mono su.out.size)).mono dF.out.size));obtain⟨hb',hoff,Ab,cb,rfl,_,cC,_,_,e2,Zw,_,dV⟩:=Gb ZX.out.heads hy;rw [hyr]at e2 Zw dV;have d0:=Ji.out.cell 0;have d2:w2.cell? ⟨M,2,none⟩=some (.slice (some ⟨hb',hoff,none⟩) nh ch):=ZX.out.blk.cell 2;have HRI:=qqh Zw;have HWI:=qqh (Cu (l:=l) (T:=A++Z) (q:=A.length) (fun r hr=>(jd.out r hr).src) HX.out);have Zr:=qqh (show ∀ k∈cH l x,∃ q:Nat,k=(q:Int)∧q<l.length from fun k hk=>by
  unfold cH dm at hk;obtain⟨q,hq,rfl⟩:=List.mem_map.1 hk;exact⟨q,rfl,List.mem_range.1 (List.mem_filter.1 hq).1⟩)
 have adi:(cH l x).length≤200:=Nat.le_trans (IK l x) hlen;generalize hBB:cH l x=BB at *;generalize IW:BB.length=bn at *;have HBN:=qqh IW;clear h1 h2 hb hy hyr Zw hBB IW Jl t0 t2;go_wp2_with fail;go_loopw [33] (fun i wr=>∃ j:Nat,j≤bn∧i=.int .i64 j∧dH l (A++Z) A.length BB=dH l (A++Z) A.length (BB.drop j)∧Below w2.heap.size w2 wr) (fun i _=>bn - (intOf i).toNat);(case atStart=>exact⟨0,Nat.zero_le _,rfl,rfl,Below.refl _ _⟩);obtain⟨j,hj,rfl,aV,hb⟩:=hrel;have MT:=qqh (ZX.out.below hb);have Lv:=qqh (HBD.out.trans (hb.mono HBD.out.size));have YG:=qqh hb;by_cases hlt:j<bn
 ·obtain⟨kk,hkk⟩:∃ z,BB[j]? = some z:=⟨_,List.getElem?_eq_getElem (by rw [HBN.out];exact hlt)⟩;obtain⟨kn,rfl,Kc⟩:=Zr.out kk (List.mem_of_getElem? hkk);obtain⟨r,hr⟩:∃ z,l[kn]? = some z:=⟨_,List.getElem?_eq_getElem Kc⟩;obtain⟨vb,vo,rfl,RJ,hvc⟩:=HRI.out.at hkk;have v0:=(YG.out.cell (p:=⟨vb,vo+j,none⟩) RJ).trans hvc;obtain⟨rb,ro,A1,A2,A3,A4,n1,c1,n2,c2,n3,c3,n4,c4,rfl,_,pU⟩:=Fy MT.out.rules hr;have HHR:=qqh (wM (Ir lo M b A Z) (fun x=>x<lo) r rb (ro+kn*7) A1 A2 A3 A4 n1 c1 n2 c2 n3 c3 n4 c4 A.length wr.drew hT (by rw [List.length_append];omega) (jd.out r (List.mem_of_getElem? hr)) (pU.below (aC (Below.refl _ _))) ⟨MT.out.blk.cell 0,MT.out.blk.lt,MT.out.buf.below (aC (Below.refl wr.heap.size wr))⟩);have HH:=qqh (show hereAt l (A++Z) A.length (kn:Int)=eX r (A++Z) A.length by unfold hereAt;rw [Int.toNat_natCast,hr]);have dQ:=qqh (aV.trans (show dH l (A++Z) A.length (BB.drop j)=if hereAt l (A++Z) A.length (kn:Int)=true then (kn:Int)else dH l (A++Z) A.length (BB.drop (j+1)) by rw [cW hkk,dH]));have Vm:kn<nr:=(by rw [← Sj.out];exact Kc);have u0:=(ai.below Ji.out hb Ji.out.lt).cell 0;have u1:wr.cell? ⟨M,0,none⟩=some (.pointer (some ⟨b,0,none⟩)):=MT.out.blk.cell 0;have u2:wr.cell? ⟨M,1,none⟩=some (.slice (some ⟨rb,ro,none⟩) nr cr):=MT.out.blk.cell 1;clear hkk hr hvc pU aV hb;go_upto_region 6 with fail;refine az (S:=fun w'=>w'.cell? ⟨w.heap.size,0,none⟩=some (.pointer (some ⟨M,0,none⟩))∧w'.cell? ⟨M,0,none⟩=some (.pointer (some ⟨b,0,none⟩))∧w'.cell? ⟨M,1,none⟩=some (.slice (some ⟨rb,ro,none⟩) nr cr)) [0,3,6,8,11] (by kernel_rfl) ⟨u0,u1,u2⟩ (fun bh=>?_);refine tu 0 37 ?_;(try simp only [zp,za,z0,zs]);refine tq 1 38 ?_;(try simp only [zp,za,z0,zs]);refine tq 2 39 ?_;(try simp only [zp,za,z0,zs])
  refine tu 3 40 ?_;(try simp only [zp,za,z0,zs]);refine tq 4 41 ?_;(try simp only [zp,za,z0,zs]);refine tq 5 42 ?_;(try simp only [zp,za,z0,zs]);refine tu 6 43 ?_;(try simp only [zp,za,z0,zs]);refine tq 7 44 ?_;(try simp only [zp,za,z0,zs]);refine tu 8 45 ?_;(try simp only [zp,za,z0,zs]);refine tq 9 46 ?_;(try simp only [zp,za,z0,zs]);refine tq 10 47 ?_;(try simp only [zp,za,z0,zs]);refine tu 11 48 ?_;(try simp only [zp,za,z0,zs]);refine aF (i:=12) (o:=⟨some 49,_,_,_,_,_⟩) (by kernel_rfl) rfl (fun K hK=>?_);go_simp;go_at_call 100;refine(rJ (MT.out.buf.below (aC (Below.refl wr.heap.size wr)))).mono ?_;rintro e w2 ⟨rfl,rfl⟩;(try dsimp only);refine hK.out _ _ ?_ (fun bh=>?_);exact⟨u0,u1,u2⟩;clear hK K;(try simp only [zp,za,z0,zs]);refine aA (i:=13) (o:=⟨some 50,_,_,_,_,_⟩) (by kernel_rfl) rfl (by kernel_rfl) (fun K hK=>?_);go_simp;go_at_call 45;refine HHR.out.mono ?_;rintro e w3 ⟨rfl,bL⟩;have Rk:Below wr.heap.size wr w3:=(aC (Below.refl wr.heap.size wr)).trans bL;have bF:=qqh (Lv.out.trans (Rk.mono Lv.out.size));have dP:=qqh (YG.out.trans (Rk.mono YG.out.size));clear bL Rk HHR;(try dsimp only);refine hK.out _ _ ?_;clear hK K;(try simp only [zp,za,z0,zs]);refine aJ (by kernel_rfl) ?_ _;cases hh:eX r (A++Z) A.length
  ·have kB:=qqh (dQ.out.trans (if_neg (by rw [HH.out,hh];decide)));clear hh;go_simp;go_wp2_with fail;exact⟨⟨j+1,by omega,by go_num,kB.out,dP.out⟩,by simp [intOf];omega⟩
  have kB:=qqh (dQ.out.trans (if_pos (by rw [HH.out,hh])));clear hh;go_simp;go_wp2_with fail;go_ret;rw [← HWI.out,kB.out];exact⟨rfl,bF.out⟩
 obtain rfl:j=bn:=(by omega);rw [List.drop_of_length_le (by rw [HBN.out];exact Nat.le_refl _)]at aV;have kB:=qqh (HWI.out.symm.trans aV);clear aV hb;go_wp2_with fail;go_ret;rw [kB.out];exact⟨rfl,Lv.out⟩
section
variable {lo : Nat} {w w' : World} {M b : Nat} {A Z A' Z' : List Int} {l : List ax} {hs : List bG} {Ar : Option Addr} {nr cr : Nat} {Ah : Option Addr} {nh ch : Nat} {dw s p : Int}
theorem fI {X:Nat→Prop} (hb:Below lo w w') (hX:∀ x,X x→x<lo):aa w X w' X:=fun x hx hl=>⟨hb.block x (hX x hx),hx,Nat.lt_of_lt_of_le hl hb.size⟩
theorem dc.kp (h:dc lo w M b A Z l hs Ar nr cr Ah nh ch dw s p) (hk:Kp lo w w') (hb:uR lo w' b A' Z'):dc lo w' M b A' Z' l hs Ar nr cr Ah nh ch dw s p :=
  ⟨h.ge,hk.other M _ _ h.blk (by decide) (by decide),hb,h.rules.keep (fI hk.below (fun _ h=>h)) (fun _ _=>aW.keep (fI hk.below (fun _ h=>h))),h.heads.keep (fI hk.below (fun _ h=>h)) (fun _ _=>gK.keep (fI hk.below (fun _ h=>h)))⟩
theorem uR.K9 (h:uR lo w b A Z) {cs:Array Value} (hM:ai w M 181 cs) (i:Nat) (u:Value):uR lo (w.setCell ⟨M,i,none⟩ u) b A Z:=by
 obtain⟨L,n,D,f,t,h1,h2⟩:=h;exact⟨L,n,D,f,t,⟨h1.buf.other hM (by decide) i u,h1.row.other hM (by decide) i u,h1.len,h1.le,h1.end_,h1.small⟩,h2⟩
structure Kq (lo:Nat) (w w':World):Prop where
  below:Below lo w w'
  other:∀ k t cs,ai w k t cs→t ≠ 21 → t ≠ 202 → t ≠ 181 → ai w' k t cs
theorem Kq.refl (lo:Nat) (w:World):Kq lo w w:=⟨Below.refl _ _,fun _ _ _ h _ _ _=>h⟩
theorem Kq.trans {w1 w2:World} (h:Kq lo w w1) (h2:Kq lo w1 w2):Kq lo w w2:=⟨h.below.trans h2.below,fun k t cs hb h3 h4 h5=>h2.other k t cs (h.other k t cs hb h3 h4 h5) h3 h4 h5⟩
theorem Kq.kp (h:Kp lo w w'):Kq lo w w':=⟨h.below,fun k t cs hb h3 h4 _=>h.other k t cs hb h3 h4⟩
theorem Kq.all (h:Below w.heap.size w w') (hlo:lo≤w.heap.size):Kq lo w w':=Kq.kp (Kp.all h hlo)
theorem Kq.drewN (h:Kq lo w w') (k:Nat):Kq lo w (w'.drewN k):=⟨below_drewN h.below k,h.other⟩
theorem Kq.K9 {M:Nat} {cs:Array Value} (hM:ai w M 181 cs) (hl:lo≤M) (i:Nat) (u:Value):Kq lo w (w.setCell ⟨M,i,none⟩ u) :=
  ⟨(Below.refl _ _).setCell hl _,fun _ _ _ hb _ _ h5=>hb.other hM h5 i u⟩
theorem dc.steps (h:dc lo w M b A Z l hs Ar nr cr Ah nh ch dw s p) (s':Int):dc lo (w.setCell ⟨M,5,none⟩ (.int .i64 s')) M b A Z l hs Ar nr cr Ah nh ch dw s' p∧Kq lo w (w.setCell ⟨M,5,none⟩ (.int .i64 s')):=by
 have hb:Below lo w (w.setCell ⟨M,5,none⟩ (.int .i64 s')):=(Below.refl _ _).setCell h.ge _;exact⟨⟨h.ge,h.blk.put 5 _,h.buf.K9 h.blk 5 _,h.rules.keep (fI hb (fun _ h=>h)) (fun _ _=>aW.keep (fI hb (fun _ h=>h))),h.heads.keep (fI hb (fun _ h=>h)) (fun _ _=>gK.keep (fI hb (fun _ h=>h)))⟩,Kq.K9 h.blk h.ge _ _⟩
theorem dc.Uo (h:dc lo w M b A Z l hs Ar nr cr Ah nh ch dw s p) (p':Int):dc lo (w.setCell ⟨M,6,none⟩ (.int .i64 p')) M b A Z l hs Ar nr cr Ah nh ch dw s p'∧Kq lo w (w.setCell ⟨M,6,none⟩ (.int .i64 p')):=by
 have hb:Below lo w (w.setCell ⟨M,6,none⟩ (.int .i64 p')):=(Below.refl _ _).setCell h.ge _;exact⟨⟨h.ge,h.blk.put 6 _,h.buf.K9 h.blk 6 _,h.rules.keep (fI hb (fun _ h=>h)) (fun _ _=>aW.keep (fI hb (fun _ h=>h))),h.heads.keep (fI hb (fun _ h=>h)) (fun _ _=>gK.keep (fI hb (fun _ h=>h)))⟩,Kq.K9 h.blk h.ge _ _⟩
theorem dc.rule (h:dc lo w M b A Z l hs Ar nr cr Ah nh ch dw s p) {k:Nat} {r:ax} (hk:l[k]? = some r) :
    ∃ (rb ro:Nat) (A2 A4:Option Addr) (c2 c4:Nat),Ar=some ⟨rb,ro,none⟩∧k<nr∧w.cell? ⟨rb,ro+k*7+3,none⟩=some (.slice A2 r.source.length c2)∧w.cell? ⟨rb,ro+k*7+5,none⟩=some (.slice A4 r.target.length c4) ∧
      w.cell? ⟨rb,ro+k*7+6,none⟩=some (.int .i64 r.ag)∧cE w (fun x=>x<lo) 1 A4 r.target.length (runeCells r.target):=by
 obtain⟨rb,ro,A1,A2,A3,A4,n1,c1,n2,c2,n3,c3,n4,c4,e,_,ha⟩:=Fy h.rules hk;have h2:=ha.s2.list.len;have h4:=ha.s4.1;rw [runeCells_length]at h4;obtain rfl:r.source.length=n2:=h2;obtain rfl:r.target.length=n4:=(by omega);have hl:l.length=nr:=h.rules.len;exact⟨rb,ro,A2,A4,c2,c4,e,by have:=(List.getElem?_eq_some_iff.1 hk).1;omega,ha.d3,ha.d5,ha.d6,ha.s4⟩
end
theorem EW {lo:Nat} {w:World} {M b:Nat} {A Z:List Int} {l:List ax} {hs:List bG} {Ar:Option Addr} {nr cr:Nat} {Ah:Option Addr} {nh ch:Nat} {dw s p:Nat} (h:dc lo w M b A Z l hs Ar nr cr Ah nh ch dw s p) (hs1:s=dw) (qz:dw≤100000) :
    Calls Tryz.prog 102 #[.pointer (some ⟨M,0,none⟩)] w fun e w'=>e=.returned (.tuple #[.int .i64 0,.int .i64 9])∧∃ k,w'=w.drewN k:=by
 have c3:w.cell? ⟨M,3,none⟩=some (.int .i64 dw):=h.blk.cell 3;have c5:w.cell? ⟨M,5,none⟩=some (.int .i64 s):=h.blk.cell 5;subst hs1;clear h;go_enter Tryz.func102,Tryz.ntmps102;go_wp2_with fail;go_quiet (fail);go_wp2_with fail;go_ret2;exact⟨rfl,_,rfl⟩
theorem Bi {lo:Nat} {w:World} {M b:Nat} {A Z:List Int} {l:List ax} {hs:List bG} {Ar:Option Addr} {nr cr:Nat} {Ah:Option Addr} {nh ch:Nat} {dw s p:Nat} (h:dc lo w M b A Z l hs Ar nr cr Ah nh ch dw s p) (z:Int) (Z':List Int) (hZ:Z=z::Z') (x:Int) (hx:(A++Z)[A.length]? = some x) (hx0:0≤x∧x≤1114111) (hT:(A++Z).length≤4000) (MI:nh≤400) (oS:fT l hs 1114112) (hR:∀ r∈l,ey r) (hlen:l.length≤200) (qz:dw≤100000)  (hs1:s<dw) (qR:ep l (A++Z) A.length = -1) :
    Calls Tryz.prog 102 #[.pointer (some ⟨M,0,none⟩)] w fun e w'=>e=.returned (.tuple #[.int .i64 (-1),.int .i64 0])∧dc lo w' M b (A++[z]) Z' l hs Ar nr cr Ah nh ch dw ((s:Int)+1) p∧Kq lo w w':=by
 have VR:=qqh (show(A++Z).take (A.length+1)=A++[z]∧(A++Z).drop (A.length+1)=Z' by
  have e:A++z::Z'=(A++[z])++Z':=(by simp);rw [hZ,e];exact⟨List.take_left' (by simp),List.drop_left' (by simp)⟩)
 have hzl:Z.length=Z'.length+1:=(by rw [hZ];rfl);have hAl:A.length≤4000:=(by rw [List.length_append]at hT;omega);have hwr:IntKind.i64.wrap ((A.length:Int)+1)=(A.length:Int)+1:=(by rw [IntKind.wrap_i64];omega);have hge:=h.ge;have c3:w.cell? ⟨M,3,none⟩=some (.int .i64 dw):=h.blk.cell 3;have c5:w.cell? ⟨M,5,none⟩=some (.int .i64 s):=h.blk.cell 5;have f5:=h.blk.frozen 5;have qd:lo≤w.heap.size:=Nat.le_trans h.ge (Nat.le_of_lt h.blk.lt);have hd:((s:Int) ==(dw:Int))=false:=(by rw [beq_eq_false_iff_ne];omega);have H:=qqh h;have HX:=qqh hx;have jd:=qqh hR;have Mu:=qqh oS;clear h hx oS hR;go_enter Tryz.func102,Tryz.ntmps102;go_wp2_with fail;go_quiet (fail);have d5:(w.drewN nq).cell? ⟨M,5,none⟩=some (.int .i64 s):=c5;have g5:(w.drewN nq).frozen? ⟨M,5,none⟩=false:=f5;have hst:=(H.out.below (below_drewN (Below.refl _ _) nq)).steps ((s:Int)+1);have ff:=qqh hst.1;have MA:=qqh (((Kq.refl lo w).drewN nq).trans hst.2);have Ji:=qqh (rz ff.out x HX.out hx0 (by omega) MI Mu.out jd.out hlen);clear hst c3 c5 f5;go_wp2_with fail;refine Ji.out.mono ?_;rintro e w2 ⟨rfl,aR⟩;rw [qR];have jl:=qqh (ff.out.below aR);have bw:=qqh (MA.out.trans (Kq.all aR (Nat.le_trans qd MA.out.below.size)));clear aR d5 g5 Ji;have e0:w2.cell? ⟨M,0,none⟩=some (.pointer (some ⟨b,0,none⟩)):=jl.out.blk.cell 0;have tj:=qqh (show Calls Tryz.prog 123 #[.pointer (some ⟨b,0,none⟩),.int .i64 ((A.length:Int)+1)] w2.drew _ from Db (jl.out.buf.below (aC (Below.refl w2.heap.size w2))) (A.length+1) (by omega));go_upto_region 6 with fail;refine az (S:=fun w'=>w'.cell? ⟨M,0,none⟩=some (.pointer (some ⟨b,0,none⟩))) [3,7] (by kernel_rfl) e0 (fun bh=>?_);refine tq 0 30 ?_
 (try simp only [zp,za,z0,zs]);refine tq 1 31 ?_;(try simp only [zp,za,z0,zs]);refine tq 2 32 ?_;(try simp only [zp,za,z0,zs]);refine tu 3 33 ?_;(try simp only [zp,za,z0,zs]);refine tq 4 34 ?_;(try simp only [zp,za,z0,zs]);refine tq 5 35 ?_;(try simp only [zp,za,z0,zs]);refine tq 6 36 ?_;(try simp only [zp,za,z0,zs]);refine tu 7 37 ?_;(try simp only [zp,za,z0,zs]);refine aF (i:=8) (o:=⟨some 38,_,_,_,_,_⟩) (by kernel_rfl) rfl (fun K hK=>?_);go_simp;go_at_call 100;refine(rJ (jl.out.buf.below (aC (Below.refl w2.heap.size w2)))).mono ?_;rintro e w3 ⟨rfl,rfl⟩;(try dsimp only);refine hK.out _ _ ?_ (fun bh=>?_);exact e0;clear hK K;(try simp only [zp,za,z0,zs]);refine tq 9 39 ?_;(try simp only [zp,za,z0,zs]);refine aA (i:=10) (by kernel_rfl) rfl (by kernel_rfl) (fun K hK=>?_);go_simp;go_at_call 123;refine tj.out.mono ?_;rintro e w3 ⟨rfl,qj,hkp⟩;have xw:=qqh qj;have ox:=qqh (((Kp.refl lo w2).drew).trans hkp);clear qj hkp tj;(try dsimp only);refine hK.out _ _ ?_;clear hK K;(try simp only [Act.put,List.setIfInBounds_toArray,List.set_cons_zero,List.set_cons_succ]);refine aJ (by kernel_rfl) ?_ _;go_simp;go_wp2_with fail;go_ret2;refine⟨rfl,?_,bw.out.trans (Kq.kp ox.out)⟩;have hm:=jl.out.kp ox.out xw.out;rwa [VR.out.1,VR.out.2]at hm
theorem Gm {lo:Nat} {w:World} {M b:Nat} {A Z:List Int} {l:List ax} {hs:List bG} {Ar:Option Addr} {nr cr:Nat} {Ah:Option Addr} {nh ch:Nat} {dw s p:Nat} (h:dc lo w M b A Z l hs Ar nr cr Ah nh ch dw s p) (k:Nat) (r:ax) (hk:l[k]? = some r) (x:Int) (hx:(A++Z)[A.length]? = some x) (hx0:0≤x∧x≤1114111) (hT:(A++Z).length≤4000) (MI:nh≤400) (oS:fT l hs 1114112) (hR:∀ r∈l,ey r) (hlen:l.length≤200) (qz:dw≤100000)  (hpb:p≤100000) (hs1:s<dw) (qR:ep l (A++Z) A.length=(k:Int)) (hfit:r.source.length≤Z.length) (uz:4000+r.source.length<A.length+Z.length+r.target.length) :
    Calls Tryz.prog 102 #[.pointer (some ⟨M,0,none⟩)] w fun e w'=>e=.returned (.tuple #[.int .i64 0,.int .i64 4])∧Below lo w w':=by
 have HK:=qqh hk;have AM:=hR r (List.mem_of_getElem? hk);have XJ:=(AM.sets r.source (by simp [ei])).1;have VI:=AM.tgt.1;have DI:=AM.cur;have PL:(A++Z).length=A.length+Z.length:=List.length_append;clear hk AM;have hgt:decide ((4000:Int)<((A.length+Z.length:Nat):Int) - (r.source.length:Int)+(r.target.length:Int))=true:=decide_eq_true (by omega);have hge:=h.ge;have c3:w.cell? ⟨M,3,none⟩=some (.int .i64 dw):=h.blk.cell 3;have c5:w.cell? ⟨M,5,none⟩=some (.int .i64 s):=h.blk.cell 5;have f5:=h.blk.frozen 5;have qd:lo≤w.heap.size:=Nat.le_trans h.ge (Nat.le_of_lt h.blk.lt);have hd:((s:Int) ==(dw:Int))=false:=(by rw [beq_eq_false_iff_ne];omega);have H:=qqh h;have HX:=qqh hx;have jd:=qqh hR;have Mu:=qqh oS;clear h hx oS hR;go_enter Tryz.func102,Tryz.ntmps102;go_wp2_with fail;go_quiet (fail);have d5:(w.drewN nq).cell? ⟨M,5,none⟩=some (.int .i64 s):=c5;have g5:(w.drewN nq).frozen? ⟨M,5,none⟩=false:=f5;have hst:=(H.out.below (below_drewN (Below.refl _ _) nq)).steps ((s:Int)+1);have ff:=qqh hst.1;have MA:=qqh (((Kq.refl lo w).drewN nq).trans hst.2);have Ji:=qqh (rz ff.out x HX.out hx0 (by omega) MI Mu.out jd.out hlen);clear hst c3 c5 f5;go_wp2_with fail;refine Ji.out.mono ?_;rintro e w2 ⟨rfl,aR⟩;rw [qR];have jl:=qqh (ff.out.below aR);have bw:=qqh (MA.out.trans (Kq.all aR (Nat.le_trans qd MA.out.below.size)));clear aR d5 g5 Ji;have rE:=jl.out;have u6:w2.cell? ⟨M,6,none⟩=some (.int .i64 p):=rE.blk.cell 6;have v6:=rE.blk.frozen 6;obtain⟨rb,ro,A2,A4,c2,c4,rfl,Vm,_⟩:=rE.rule HK.out;have u1:w2.cell? ⟨M,1,none⟩=some (.slice (some ⟨rb,ro,none⟩) nr cr):=rE.blk.cell 1;have hpt:=rE.Uo ((p:Int)+1);have ic:=qqh hpt.1;have bF:=qqh (bw.out.trans hpt.2)
 clear hpt rE;have Tl:decide ((k:Int)<0)=false:=decide_eq_false (by omega);generalize Pt:w2.setCell ⟨M,6,none⟩ (.int .i64 ((p:Int)+1))=W3 at ic bF;have Ze:=qqh Pt;have t0:W3.cell? ⟨M,0,none⟩=some (.pointer (some ⟨b,0,none⟩)):=ic.out.blk.cell 0;have t1:W3.cell? ⟨M,1,none⟩=some (.slice (some ⟨rb,ro,none⟩) nr cr):=ic.out.blk.cell 1;obtain⟨rb',Zp,A2,A4,c2,c4,e9,_,t3,t5,_,_⟩:=ic.out.rule HK.out;cases e9;have aO:=qqh (fun(q:Nat)=>tZ (ic.out.buf.below (below_drewN (Below.refl W3.heap.size W3) q)));have th:=qqh (fun(q:Nat)=>rJ (ic.out.buf.below (below_drewN (Below.refl W3.heap.size W3) q)));clear Pt;go_upto_region 10 with fail;rw [Ze.out];clear u1 u6 v6;go_quiet (first | (go_at_call 101;exact Calls.quiet_of (aO.out _)));go_wp2_with fail;go_ret2;exact⟨rfl,below_drewN bF.out.below nq⟩
theorem Ce {lo:Nat} {w:World} {M b:Nat} {A Z:List Int} {l:List ax} {hs:List bG} {Ar:Option Addr} {nr cr:Nat} {Ah:Option Addr} {nh ch:Nat} {dw s p:Nat} (h:dc lo w M b A Z l hs Ar nr cr Ah nh ch dw s p) (k:Nat) (r:ax) (hk:l[k]? = some r) (x:Int) (hx:(A++Z)[A.length]? = some x) (hx0:0≤x∧x≤1114111) (hT:(A++Z).length≤4000) (MI:nh≤400) (oS:fT l hs 1114112) (hR:∀ r∈l,ey r) (hlen:l.length≤200) (qz:dw≤100000)  (hpb:p≤100000) (hs1:s<dw) (qR:ep l (A++Z) A.length=(k:Int)) (hfit:r.source.length≤Z.length) (uz:A.length+Z.length+r.target.length≤4000+r.source.length) :
    Calls Tryz.prog 102 #[.pointer (some ⟨M,0,none⟩)] w fun e w'=>e=.returned (.tuple #[.int .i64 k,.int .i64 0]) ∧
      dc lo w' M b ((A++r.target++Z.drop r.source.length).take (A.length+r.ag.toNat)) ((A++r.target++Z.drop r.source.length).drop (A.length+r.ag.toNat)) l hs Ar nr cr Ah nh ch dw ((s:Int)+1) ((p:Int)+1)∧Kq lo w w':=by
 have HK:=qqh hk;have AM:=hR r (List.mem_of_getElem? hk);have XJ:=(AM.sets r.source (by simp [ei])).1;have VI:=AM.tgt.1;have DI:=AM.cur;have PL:(A++Z).length=A.length+Z.length:=List.length_append;clear hk AM;have hgt:decide ((4000:Int)<((A.length+Z.length:Nat):Int) - (r.source.length:Int)+(r.target.length:Int))=false:=decide_eq_false (by omega);have hwr:IntKind.i64.wrap ((A.length:Int)+r.ag)=(A.length:Int)+r.ag:=(by rw [IntKind.wrap_i64];omega);have hge:=h.ge;have c3:w.cell? ⟨M,3,none⟩=some (.int .i64 dw):=h.blk.cell 3;have c5:w.cell? ⟨M,5,none⟩=some (.int .i64 s):=h.blk.cell 5;have f5:=h.blk.frozen 5;have qd:lo≤w.heap.size:=Nat.le_trans h.ge (Nat.le_of_lt h.blk.lt);have hd:((s:Int) ==(dw:Int))=false:=(by rw [beq_eq_false_iff_ne];omega);have H:=qqh h;have HX:=qqh hx;have jd:=qqh hR;have Mu:=qqh oS;clear h hx oS hR;go_enter Tryz.func102,Tryz.ntmps102;go_wp2_with fail;go_quiet (fail);have d5:(w.drewN nq).cell? ⟨M,5,none⟩=some (.int .i64 s):=c5;have g5:(w.drewN nq).frozen? ⟨M,5,none⟩=false:=f5;have hst:=(H.out.below (below_drewN (Below.refl _ _) nq)).steps ((s:Int)+1);have ff:=qqh hst.1;have MA:=qqh (((Kq.refl lo w).drewN nq).trans hst.2);have Ji:=qqh (rz ff.out x HX.out hx0 (by omega) MI Mu.out jd.out hlen);clear hst c3 c5 f5;go_wp2_with fail;refine Ji.out.mono ?_;rintro e w2 ⟨rfl,aR⟩;rw [qR];have jl:=qqh (ff.out.below aR);have bw:=qqh (MA.out.trans (Kq.all aR (Nat.le_trans qd MA.out.below.size)));clear aR d5 g5 Ji;have rE:=jl.out;have u6:w2.cell? ⟨M,6,none⟩=some (.int .i64 p):=rE.blk.cell 6;have v6:=rE.blk.frozen 6;obtain⟨rb,ro,A2,A4,c2,c4,rfl,Vm,_⟩:=rE.rule HK.out
 have u1:w2.cell? ⟨M,1,none⟩=some (.slice (some ⟨rb,ro,none⟩) nr cr):=rE.blk.cell 1;have hpt:=rE.Uo ((p:Int)+1);have ic:=qqh hpt.1;have bF:=qqh (bw.out.trans hpt.2);clear hpt rE;have Tl:decide ((k:Int)<0)=false:=decide_eq_false (by omega);generalize Pt:w2.setCell ⟨M,6,none⟩ (.int .i64 ((p:Int)+1))=W3 at ic bF;have Ze:=qqh Pt;have t0:W3.cell? ⟨M,0,none⟩=some (.pointer (some ⟨b,0,none⟩)):=ic.out.blk.cell 0;have t1:W3.cell? ⟨M,1,none⟩=some (.slice (some ⟨rb,ro,none⟩) nr cr):=ic.out.blk.cell 1;obtain⟨rb',Zp,A2,A4,c2,c4,e9,_,t3,t5,_,_⟩:=ic.out.rule HK.out;cases e9;have aO:=qqh (fun(q:Nat)=>tZ (ic.out.buf.below (below_drewN (Below.refl W3.heap.size W3) q)));have th:=qqh (fun(q:Nat)=>rJ (ic.out.buf.below (below_drewN (Below.refl W3.heap.size W3) q)));clear Pt;go_upto_region 10 with fail;rw [Ze.out];clear u1 u6 v6;go_quiet (first | (go_at_call 101;exact Calls.quiet_of (aO.out _)));go_wp2_with fail;refine(th.out nq).mono ?_;rintro e w4 ⟨rfl,rfl⟩;have RU:=qqh (ic.out.below (below_drewN (Below.refl W3.heap.size W3) nq));have dP:=qqh (bF.out.drewN nq);have x0:(W3.drewN nq).cell? ⟨M,0,none⟩=some (.pointer (some ⟨b,0,none⟩)):=t0;have x3:(W3.drewN nq).cell? ⟨rb,ro+k*7+3,none⟩=some (.slice A2 r.source.length c2):=t3;generalize hW4:W3.drewN nq=W4 at *;have VT:=qqh (N2 (RU.out.buf.below (aC (Below.refl W4.heap.size W4))) r.source.length hfit);clear hW4 t0 t1 t3 t5 th aO hgt;go_upto_region 13 with fail;refine az (S:=fun w'=>w'.cell? ⟨M,0,none⟩=some (.pointer (some ⟨b,0,none⟩))∧w'.cell? ⟨rb,ro+k*7+3,none⟩=some (.slice A2 r.source.length c2)) [3,7] (by kernel_rfl) ⟨x0,x3⟩ (fun bh=>?_);refine tq 0 80 ?_;(try simp only [zp,za,z0,zs]);refine tq 1 81 ?_;(try simp only [zp,za,z0,zs])
 refine tq 2 82 ?_;(try simp only [zp,za,z0,zs]);refine tu 3 83 ?_;(try simp only [zp,za,z0,zs]);refine tq 4 84 ?_;(try simp only [zp,za,z0,zs]);refine tq 5 85 ?_;(try simp only [zp,za,z0,zs]);refine tq 6 86 ?_;(try simp only [zp,za,z0,zs]);refine tu 7 87 ?_;(try simp only [zp,za,z0,zs]);refine tq 8 88 ?_;(try simp only [zp,za,z0,zs]);refine aA (i:=9) (by kernel_rfl) rfl (by kernel_rfl) (fun K hK=>?_);go_simp;go_at_call 124;refine VT.out.mono ?_;rintro e w5 ⟨rfl,qj,hkp⟩;have Eo:=qqh (RU.out.kp ((Kp.refl lo W4).drew.trans hkp) qj);have dN:=qqh (dP.out.trans (Kq.kp ((Kp.refl lo W4).drew.trans hkp)));clear qj hkp VT;(try dsimp only);refine hK.out _ _ ?_;clear hK K;(try simp only [Act.put,List.setIfInBounds_toArray,List.set_cons_zero,List.set_cons_succ]);refine aJ (by kernel_rfl) ?_ _;go_simp;obtain⟨rb',Zp,B2,B4,d2,d4,e9,_,_,x5,_,Xt⟩:=Eo.out.rule HK.out;cases e9;have x0:w5.cell? ⟨M,0,none⟩=some (.pointer (some ⟨b,0,none⟩)):=Eo.out.blk.cell 0;have Ub:=qqh (NT (c2:=d4) (Eo.out.buf.below (aC (Below.refl w5.heap.size w5))) r.target B4 r.target.length (Xt.keep (aa.any (aC (Below.refl _ _)))) VI (by rw [List.length_drop];omega));clear Xt x3;go_upto_region 14 with fail;refine az (S:=fun w'=>w'.cell? ⟨M,0,none⟩=some (.pointer (some ⟨b,0,none⟩))∧w'.cell? ⟨rb,ro+k*7+5,none⟩=some (.slice B4 r.target.length d4)) [3,7] (by kernel_rfl) ⟨x0,x5⟩ (fun bh=>?_);refine tq 0 90 ?_;(try simp only [zp,za,z0,zs]);refine tq 1 91 ?_;(try simp only [zp,za,z0,zs]);refine tq 2 92 ?_;(try simp only [zp,za,z0,zs]);refine tu 3 93 ?_;(try simp only [zp,za,z0,zs]);refine tq 4 94 ?_;(try simp only [zp,za,z0,zs]);refine tq 5 95 ?_;(try simp only [zp,za,z0,zs]);refine tq 6 96 ?_;(try simp only [zp,za,z0,zs]);refine tu 7 97 ?_;(try simp only [zp,za,z0,zs])
 refine aA (i:=8) (by kernel_rfl) rfl (by kernel_rfl) (fun K hK=>?_);go_simp;go_at_call 125;refine Ub.out.mono ?_;rintro e w6 ⟨rfl,qj,hkp⟩;have Lx:=qqh (Eo.out.kp ((Kp.refl lo w5).drew.trans hkp) qj);have fC:=qqh (dN.out.trans (Kq.kp ((Kp.refl lo w5).drew.trans hkp)));clear qj hkp Ub;(try dsimp only);refine hK.out _ _ ?_;clear hK K;(try simp only [Act.put,List.setIfInBounds_toArray,List.set_cons_zero,List.set_cons_succ]);refine aJ (by kernel_rfl) ?_ _;go_simp;obtain⟨rb',Zp,C2,C4,g2,g4,e9,_,_,_,x6,_⟩:=Lx.out.rule HK.out;cases e9;have x0:w6.cell? ⟨M,0,none⟩=some (.pointer (some ⟨b,0,none⟩)):=Lx.out.blk.cell 0;obtain⟨cu,Iz⟩:∃ cu:Nat,r.ag=(cu:Int):=⟨r.ag.toNat,by omega⟩;have tj:=qqh (show Calls Tryz.prog 123 #[.pointer (some ⟨b,0,none⟩),.int .i64 ((A.length:Int)+r.ag)] w6.drew _ by
  have:=Db (Lx.out.buf.below (aC (Below.refl w6.heap.size w6))) (A.length+r.ag.toNat) (by rw [List.length_append,List.length_drop];omega);rwa [show((A.length+r.ag.toNat:Nat):Int)=(A.length:Int)+r.ag by omega]at this)
 clear x5 Iz;go_upto_region 15 with fail;refine az (S:=fun w'=>w'.cell? ⟨M,0,none⟩=some (.pointer (some ⟨b,0,none⟩))∧w'.cell? ⟨rb,ro+k*7+6,none⟩=some (.int .i64 r.ag)) [3,8] (by kernel_rfl) ⟨x0,x6⟩ (fun bh=>?_);refine tq 0 99 ?_;(try simp only [zp,za,z0,zs]);refine tq 1 100 ?_;(try simp only [zp,za,z0,zs]);refine tq 2 101 ?_;(try simp only [zp,za,z0,zs]);refine tu 3 102 ?_;(try simp only [zp,za,z0,zs]);refine tq 4 103 ?_;(try simp only [zp,za,z0,zs]);refine tq 5 104 ?_;(try simp only [zp,za,z0,zs]);refine tq 6 105 ?_;(try simp only [zp,za,z0,zs]);refine tq 7 106 ?_;(try simp only [zp,za,z0,zs]);refine tu 8 107 ?_;(try simp only [zp,za,z0,zs]);refine tq 9 108 ?_;(try simp only [zp,za,z0,zs]);refine aA (i:=10) (by kernel_rfl) rfl (by kernel_rfl) (fun K hK=>?_);go_simp;go_at_call 123;refine tj.out.mono ?_;rintro e w7 ⟨rfl,qj,hkp⟩;have J4:=qqh (Lx.out.kp ((Kp.refl lo w6).drew.trans hkp) qj);have kV:=qqh (fC.out.trans (Kq.kp ((Kp.refl lo w6).drew.trans hkp)));clear qj hkp tj;(try dsimp only);refine hK.out _ _ ?_;clear hK K;(try simp only [Act.put,List.setIfInBounds_toArray,List.set_cons_zero,List.set_cons_succ]);refine aJ (by kernel_rfl) ?_ _;go_simp;go_wp2_with fail;go_ret2;exact⟨rfl,J4.out,kV.out⟩
theorem Hj {lo:Nat} {w:World} {M b:Nat} {A Z:List Int} {l:List ax} {hs:List bG} {Ar:Option Addr} {nr cr:Nat} {Ah:Option Addr} {nh ch:Nat} {dw s p:Nat} (h:dc lo w M b A Z l hs Ar nr cr Ah nh ch dw s p) (z:Int) (Z':List Int) (hZ:Z=z::Z') (x:Int) (hx:(A++Z)[A.length]? = some x) (hx0:0≤x∧x≤1114111) (hT:(A++Z).length≤4000) (MI:nh≤400) (oS:fT l hs 1114112) (hR:∀ r∈l,ey r) (hlen:l.length≤200) (qz:dw≤100000)  (hs1:s<dw) (qR:ep l (A++Z) A.length = -1) :
    Calls Tryz.prog 102 #[.pointer (some ⟨M,0,none⟩)] w fun e w'=>e=.returned (.tuple #[.int .i64 (-1),.int .i64 0])∧dc lo w' M b (A++[z]) Z' l hs Ar nr cr Ah nh ch dw ((s:Int)+1) p∧Below lo w w' :=
  (Bi h z Z' hZ x hx hx0 hT MI oS hR hlen qz hs1 qR).mono fun _ _ ⟨e,h1,h2⟩=>⟨e,h1,h2.below⟩
theorem G9 {lo:Nat} {w:World} {M b:Nat} {A Z:List Int} {l:List ax} {hs:List bG} {Ar:Option Addr} {nr cr:Nat} {Ah:Option Addr} {nh ch:Nat} {dw s p:Nat} (h:dc lo w M b A Z l hs Ar nr cr Ah nh ch dw s p) (k:Nat) (r:ax) (hk:l[k]? = some r) (x:Int) (hx:(A++Z)[A.length]? = some x) (hx0:0≤x∧x≤1114111) (hT:(A++Z).length≤4000) (MI:nh≤400) (oS:fT l hs 1114112) (hR:∀ r∈l,ey r) (hlen:l.length≤200) (qz:dw≤100000)  (hpb:p≤100000) (hs1:s<dw) (qR:ep l (A++Z) A.length=(k:Int)) (hfit:r.source.length≤Z.length) (uz:A.length+Z.length+r.target.length≤4000+r.source.length) :
    Calls Tryz.prog 102 #[.pointer (some ⟨M,0,none⟩)] w fun e w'=>e=.returned (.tuple #[.int .i64 k,.int .i64 0]) ∧
      dc lo w' M b ((A++r.target++Z.drop r.source.length).take (A.length+r.ag.toNat)) ((A++r.target++Z.drop r.source.length).drop (A.length+r.ag.toNat)) l hs Ar nr cr Ah nh ch dw ((s:Int)+1) ((p:Int)+1)∧Below lo w w' :=
  (Ce h k r hk x hx hx0 hT MI oS hR hlen qz hpb hs1 qR hfit uz).mono fun _ _ ⟨e,h1,h2⟩=>⟨e,h1,h2.below⟩
structure By where
  text:List Int
  steps:Nat
  put:Nat
def fh:By:=⟨[],0,0⟩
def cS (l:List ax):Nat→List Int→List Int→Nat→Nat→By × Int
  | _,done,[],s,p=>(⟨done,s,p⟩,0)
  | 0,_,_::_,_,_=>(fh,9)
  | left+1,done,z::rest,s,p=>
    if ep l (done++z::rest) done.length<0 then cS l left (done++[z]) rest (s+1) p
    else match l[(ep l (done++z::rest) done.length).toNat]? with
      | none=>(fh,0)
      | some r=>
        if 4000<done.length+(r.target++(z::rest).drop r.source.length).length then (fh,4)
        else cS l left (done++(r.target++(z::rest).drop r.source.length).take r.ag.toNat) ((r.target++(z::rest).drop r.source.length).drop r.ag.toNat) (s+1) (p+1)
def eK (t:List Int):Int:=if 4000<t.length then 4 else if cV t=true then 3 else 0
def oI (o:By × Int):By × (Int × Int):=if o.2≠0 then (fh,(o.2,0))else (o.1,(0,0))
theorem nL (l:List ax) (left:Nat) (done:List Int) (s p:Nat):cS l left done [] s p=(⟨done,s,p⟩,0):=by cases left <;> rfl
theorem vY (l:List ax) {Z:List Int} (done:List Int) (s p:Nat) (h:Z ≠ []):cS l 0 done Z s p=(fh,9):=by
 cases Z with
 | nil=>exact absurd rfl h
 | cons z Z=>rfl
theorem vB {l:List ax} {left:Nat} {done rest:List Int} {z:Int} {s p:Nat} (h:ep l (done++z::rest) done.length = -1):cS l (left+1) done (z::rest) s p=cS l left (done++[z]) rest (s+1) p:=by
 rw [cS,if_pos (by rw [h];decide)]
theorem uV {l:List ax} {left:Nat} {done rest:List Int} {z:Int} {s p k:Nat} {r:ax} (h:ep l (done++z::rest) done.length=(k:Int)) (hk:l[k]? = some r) (hm:4000<done.length+(r.target++(z::rest).drop r.source.length).length) :
    cS l (left+1) done (z::rest) s p=(fh,4):=by
 rw [cS,if_neg (by rw [h];omega),h,Int.toNat_natCast,hk];simp only;rw [if_pos hm]
theorem uE {l:List ax} {left:Nat} {done rest:List Int} {z:Int} {s p k:Nat} {r:ax} (h:ep l (done++z::rest) done.length=(k:Int)) (hk:l[k]? = some r) (hm:¬ 4000<done.length+(r.target++(z::rest).drop r.source.length).length) :
    cS l (left+1) done (z::rest) s p=cS l left (done++(r.target++(z::rest).drop r.source.length).take r.ag.toNat) ((r.target++(z::rest).drop r.source.length).drop r.ag.toNat) (s+1) (p+1):=by
 rw [cS,if_neg (by rw [h];omega),h,Int.toNat_natCast,hk];simp only;rw [if_neg hm]
theorem yP {r:ax} {A Z:List Int} (h:eX r (A++Z) A.length=true):r.source.length≤Z.length:=by
 have h1:lW (A++Z) A.length r.source=true:=by
  unfold eX at h;simp only [Bool.and_eq_true]at h;exact h.1.1.1.1
 unfold lW at h1;split at h1
 ·cases h1
 rename_i hn;rw [not_or,List.length_append]at hn;omega
def Runes (t:List Int):Prop:=∀ x∈t,0≤x∧x≤1114111
theorem wH {t:List Int} (h:cV t=false):Runes t:=by
 intro x hx;unfold cV at h;have h2:bT x=true:=by
  have:=List.any_eq_false.1 h x hx;simpa using this
 unfold bT at h2;simp at h2;omega
theorem Es (x:Int) (w:World):Calls Tryz.prog 42 #[.int .i32 x] w fun e w'=>e=.returned (.bool (!bT x))∧w'=w:=by
 go_enter Tryz.func42,Tryz.ntmps42;go_wp2_with fail;refine(fm _ _).mono ?_;rintro e w1 ⟨rfl,rfl⟩;go_wp2_with fail;go_ret;exact⟨rfl,rfl⟩
theorem JF (A:Option Addr) (n c:Nat) (l:List Int) (w:World) (hn:n≤9223372036854775807) (hl:kJ w w.heap.size A n l) :
    Calls Tryz.prog 73 #[.slice A n c,.func (.func 42) #[] #[]] w fun e w'=>(∃ k:Int,e=.returned (.int .i64 k)∧decide (0≤k)=cV l)∧Below w.heap.size w w':=by
 have aO:=qqh hl.len;have HL:=qqh hl;clear hl;go_enter Tryz.func73,Tryz.ntmps73;go_wp2_with fail;go_loopw [8] (OZ w l n) (fun i _=>n - (intOf i).toNat);(case atStart=>exact⟨0,Nat.zero_le _,rfl,rfl,Below.refl _ _⟩);obtain⟨j,hj,rfl,aV,hb⟩:=hrel;by_cases hlt:j<n
 ·obtain⟨x,hx⟩:∃ z,l[j]? = some z:=⟨_,List.getElem?_eq_getElem (by rw [aO.out];exact hlt)⟩;obtain⟨b,off,rfl,cC,c0⟩:=HL.out.at hlt;rw [show l.getD j 0=x by simp [List.getD,hx]]at c0;have d0:=(hb.cell (p:=⟨b,off+j,none⟩) cC).trans c0;rw [cW hx,show cV (x::l.drop (j+1))=(!bT x || cV (l.drop (j+1))) from rfl]at aV;have HG:=qqh aV;have HX:=qqh hx;clear aV hx c0;go_wp2_with fail;refine(Es _ _).mono ?_;rintro e w1 ⟨rfl,rfl⟩;cases hr:bT x
  ·have HR:=qqh hr;clear hr;go_wp2_with fail;go_ret;refine⟨⟨_,rfl,?_⟩,hb⟩;rw [HG.out,HR.out];simp
  have HR:=qqh hr;clear hr;go_wp2_with fail;exact⟨⟨j+1,by omega,by go_num,by rw [HG.out,HR.out];rfl,hb⟩,by simp [intOf];omega⟩
 obtain rfl:j=n:=(by omega);rw [List.drop_of_length_le (by rw [aO.out];omega)]at aV;have HG:=qqh (aV.trans (show cV [] = false from rfl));clear aV;go_wp2_with fail;go_ret;exact⟨⟨_,rfl,by rw [HG.out];rfl⟩,hb⟩
theorem Ct (A:Option Addr) (n c:Nat) (l:List Int) (w:World) (hn:n≤9223372036854775807) (hl:kJ w w.heap.size A n l) :
    Calls Tryz.prog 41 #[.slice A n c,.func (.func 42) #[] #[]] w fun e w'=>e=.returned (.bool (cV l))∧Below w.heap.size w w':=by
 have H:=qqh (JF A n c l w hn hl);clear hl;go_enter Tryz.func41,Tryz.ntmps41;go_wp2_with fail;refine H.out.mono ?_;rintro e w1 ⟨⟨k,rfl,hk⟩,hb⟩;have HK:=qqh hk;clear hk;go_wp2_with fail;go_ret;refine⟨?_,hb⟩;rw [← HK.out];rfl
theorem mj (A:Option Addr) (n c:Nat) (t:List Int) (w:World) (hn:n≤maxLen) (ht:kJ w w.heap.size A n t) :
    Calls Tryz.prog 18 #[.slice A n c] w fun e w'=>e=.returned (.int .i64 (eK t))∧Below w.heap.size w w':=by
 have hl:=ht.len;simp only [maxLen]at hn;have HC:=qqh (Ct A n c t w (by omega) ht);clear ht;by_cases h4:4000<n
 ·have HP:=qqh (show eK t=4 by unfold eK;rw [if_pos (by rw [hl];exact h4)]);clear hl;go_enter Tryz.func18,Tryz.ntmps18;go_wp2_with fail;go_ret;rw [HP.out];exact⟨rfl,Below.refl _ _⟩
 have HP:=qqh (show eK t=if cV t=true then 3 else 0 by unfold eK;rw [if_neg (by rw [hl];exact h4)]);clear hl;go_enter Tryz.func18,Tryz.ntmps18;go_wp2_with fail;refine HC.out.mono ?_;rintro e w1 ⟨rfl,hb⟩;have HB:=qqh hb;clear hb;cases TF:cV t
 ·have kZ:=qqh (show eK t=0 by rw [HP.out,TF];rfl);go_wp2_with fail;go_ret;rw [kZ.out];exact⟨rfl,HB.out⟩
 have kZ:=qqh (show eK t=3 by rw [HP.out,TF];rfl);go_wp2_with fail;go_ret;rw [kZ.out];exact⟨rfl,HB.out⟩
theorem yM (n:Nat) (hn:n≤4000) (w:World):Calls Tryz.prog 20 #[.int .i64 n] w fun e w'=>e=.returned (.int .i64 (8*n+40:Nat))∧w'=w:=by
 have h:((8*n+40:Nat):Int)=8*(n:Int)+40:=(by omega);rw [h];clear h;go_enter Tryz.func20,Tryz.ntmps20;go_wp2_with fail;go_ret;exact⟨rfl,rfl⟩
def ux (w:World) (X:Nat→Prop) (l:List af) (xs:List Value):Prop:=xs.length=l.length∧∀ (i:Nat) (s:af) (u:Value),l[i]? = some s→xs[i]? = some u→ja w X s u
theorem ux.keep {w w':World} {X X':Nat→Prop} {l:List af} {xs:List Value} (hk:aa w X w' X') (h:ux w X l xs):ux w' X' l xs:=⟨h.1,fun i s u h1 h2=>(h.2 i s u h1 h2).keep hk⟩
end Go.Proofs.YthgkedoildcbcaaGreatDoor
