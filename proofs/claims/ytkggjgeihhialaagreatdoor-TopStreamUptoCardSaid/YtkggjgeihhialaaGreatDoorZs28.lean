/- MachAll + RunP + RefMatch + First -/
import Derived.Test.YtkggjgeihhialaaGreatDoorZs26
import Derived.Test.YtkggjgeihhialaaGreatDoorZs25
import Derived.Test.YtkggjgeihhialaaGreatDoorZs18
import Derived.Test.YtkggjgeihhialaaGreatDoorZs17
import Derived.BigRegion
set_option maxHeartbeats 6400000
set_option maxRecDepth 100000
namespace Go.Proofs.YtkggjgeihhialaaGreatDoor
open Go.RowKit
theorem qy {t:TypeId} {name:String} {path:List FieldStep} {f:FuncId} (h:(Tryz.prog.info? t).map (fun i=>(i.methods.find? (·.name == name)).map fun m=>(m.path.toList,m.func))=some (some (path,some (f,true)))) :
    ∃ i,Tryz.prog.info? t=some i∧∃ m,i.methods.find? (·.name == name)=some m∧m.path.toList=path∧m.func=some (f,true):=by
 obtain⟨i,hi,h2⟩:=Option.map_eq_some_iff.1 h;obtain⟨m,hm,h3⟩:=Option.map_eq_some_iff.1 h2;simp only [Prod.mk.injEq]at h3;exact⟨i,hi,m,hm,h3.1,h3.2⟩
theorem JW (M:Nat) (w:World) (v:Value) (h:w.cell? ⟨M,0,none⟩=some v):(method 391 190 (.pointer (some ⟨M,0,none⟩)) "Len").run Tryz.prog w=.ok (125,v) w:=by
 obtain⟨i,hi,m,hm,hp,hf⟩:=qy (t:=190) (name:="Len") (path:=[⟨194,0,true⟩]) (f:=125) (by kernel_rfl);unfold method;simp [go_sem,typeInfo,hi,hm,hp,hf,follow,receiverAt,Place.get,loadVar,h]
theorem GW (M:Nat) (w:World) (v:Value) (h:w.cell? ⟨M,0,none⟩=some v):(method 391 190 (.pointer (some ⟨M,0,none⟩)) "Rune").run Tryz.prog w=.ok (150,v) w:=by
 obtain⟨i,hi,m,hm,hp,hf⟩:=qy (t:=190) (name:="Rune") (path:=[⟨194,0,true⟩]) (f:=150) (by kernel_rfl);unfold method;simp [go_sem,typeInfo,hi,hm,hp,hf,follow,receiverAt,Place.get,loadVar,h]
theorem E7:∀ args w,(callFunc 125 args).run Tryz.prog w=.ok (.enter 125 args) w:=enters_of Tryz.func125 (by kernel_rfl) rfl
theorem BT:∀ args w,(callFunc 150 args).run Tryz.prog w=.ok (.enter 150 args) w:=enters_of Tryz.func150 (by kernel_rfl) rfl
def V6 (lo M b:Nat) (A Z:List Int) (w:World):Prop:=w.cell? ⟨M,0,none⟩=some (.pointer (some ⟨b,0,none⟩))∧M<w.heap.size∧uN lo w b A Z
theorem IG (lo M b:Nat) (A Z:List Int):FQ 190 (.pointer (some ⟨M,0,none⟩)) (.pointer (some ⟨b,0,none⟩)) 125 150 (A++Z) (V6 lo M b A Z) where
  enterL:=E7
  enterR:=BT
  ml:=fun w h=>JW M w _ h.1
  mr:=fun w h=>GW M w _ h.1
  len:=fun w h=>by
    have:=tT h.2.2
    rwa [← List.length_append]at this
  rune:=fun w k x h hx=>AQ h.2.2 k x hx
  keep:=fun w w' h hb=>⟨(hb.cell (p:=⟨M,0,none⟩) h.2.1).trans h.1,Nat.lt_of_lt_of_le h.2.1 hb.size,h.2.2.below hb⟩
def hereAt (l:List ax) (T:List Int) (q:Nat) (k:Int):Bool:=match l[k.toNat]? with | some r=>eu r T q | none=>false
def cM (l:List ax) (T:List Int) (q:Nat):List Int→Int
  | []=>-1
  | k::ks=>if hereAt l T q k=true then k else cM l T q ks
def upTo (n:Nat):List Int:=(List.range n).map fun i:Nat=>(i:Int)
def cH (l:List ax) (T:List Int) (q:Nat):Int:=cM l T q (upTo l.length)
theorem vR (l:List ax) (T:List Int) (q:Nat) (m:Nat→Bool):∀ (ks:List Nat),(∀ k∈ks,m k=false→hereAt l T q (k:Int)=false)→cM l T q ((ks.filter m).map fun i:Nat=>(i:Int))=cM l T q (ks.map fun i:Nat=>(i:Int)):=by
 intro ks;induction ks with
 | nil=>intro _;rfl
 | cons k ks ih=>
  intro h;have h2:=ih (fun x hx=>h x (by simp [hx]));cases hm:m k
  ·rw [List.filter_cons_of_neg (by simp [hm]),h2,List.map_cons,cM,if_neg (by rw [h k (by simp) hm];decide)]
  rw [List.filter_cons_of_pos hm,List.map_cons,List.map_cons,cM,cM,h2]
theorem EZ {r:ax} {T:List Int} {q:Nat} {x:Int} (hs:r.source ≠ []) (hx:T[q]? = some x) (h:bB (bG r) x=false):eu r T q=false:=by
 have h1:kj T q r.source=false:=by
  cases hr:r.source with
  | nil=>exact absurd hr hs
  | cons s l=>
   unfold kj;split;rfl;have:bG r=s:=(by unfold bG;rw [hr];rfl);rw [this]at h;rw [Int.toNat_natCast,dH hx,iT,h,Bool.false_and]
 unfold eu;rw [h1];simp
theorem By {l:List ax} {T:List Int} {q:Nat} {x:Int} (hs:∀ r∈l,r.source ≠ []) (hx:T[q]? = some x):cM l T q (cG l x)=cH l T q:=by
 unfold cG dn cH upTo;refine vR l T q _ _ (fun k hk hm=>?_);unfold hereAt;rw [Int.toNat_natCast];cases hl:l[k]? with
 | none=>rfl
 | some r=>
  unfold th at hm;rw [hl]at hm;exact EZ (hs r (List.mem_of_getElem? hl)) hx hm
theorem xC (l:List ax) (T:List Int) (q:Nat):∀ ks:List Int,(∀ k∈ks,0≤k)→cM l T q ks = -1∨∃ (k:Nat) (r:ax),cM l T q ks=(k:Int)∧l[k]? = some r∧eu r T q=true:=by
 intro ks;induction ks with
 | nil=>intro _;exact .inl rfl
 | cons k ks ih=>
  intro h;rw [cM];by_cases hk:hereAt l T q k=true
  ·rw [if_pos hk];right;unfold hereAt at hk;cases hl:l[k.toNat]? with
   | none=>rw [hl]at hk;cases hk
   | some r=>
    rw [hl]at hk;exact⟨k.toNat,r,by have:=h k (by simp);omega,hl,hk⟩
  rw [if_neg hk];exact ih (fun x hx=>h x (by simp [hx]))
theorem qE (l:List ax) (T:List Int) (q:Nat):cH l T q = -1∨∃ (k:Nat) (r:ax),cH l T q=(k:Int)∧l[k]? = some r∧eu r T q=true :=
  xC l T q _ (fun k hk=>by
    unfold upTo at hk
    obtain⟨i,_,rfl⟩:=List.mem_map.1 hk
    omega)
theorem wQ (gm gr M blk off n c i:Nat) (r y:Int) (w:World) (hi:i<n) (hm:w.cell? ⟨gm,0,none⟩=some (.pointer (some ⟨M,0,none⟩))) (ha:w.cell? ⟨M,2,none⟩=some (.slice (some ⟨blk,off,none⟩) n c)) (hr:w.cell? ⟨gr,0,none⟩=some (.int .i32 r)) (hc:w.cell? ⟨blk,off+i*3+1,none⟩=some (.int .i32 y)) :
    Calls Tryz.prog 151 (#[.int .i64 i] ++ #[.pointer (some ⟨gm,0,none⟩),.pointer (some ⟨gr,0,none⟩)]) w fun e w'=>e=.returned (.bool (decide (r≤y)))∧Below w.heap.size w w':=by
 have hiz:(i:Int)<(n:Int):=(by omega);go_enter Tryz.func151,Tryz.ntmps151;go_wp2_with fail;go_quiet (fail);go_wp2_with fail;go_ret;exact⟨rfl,below_drewN (Below.refl _ _) _⟩
theorem zj:∀ args w,(callFunc 151 args).run Tryz.prog w=.ok (.enter 151 args) w:=enters_of Tryz.func151 (by kernel_rfl) rfl
def kU (b:Nat) (Ar:Option Addr) (nr cr:Nat) (Ah:Option Addr) (nh ch:Nat) (bI s p:Int):Array Value:=#[.pointer (some ⟨b,0,none⟩),.slice Ar nr cr,.slice Ah nh ch,.int .i64 bI,.slice none 0 0,.int .i64 s,.int .i64 p]
structure dr (lo:Nat) (w:World) (M b:Nat) (A Z:List Int) (l:List ax) (hs:List bF) (Ar:Option Addr) (nr cr:Nat) (Ah:Option Addr) (nh ch:Nat) (bI s p:Int):Prop where
  ge:lo≤M
  blk:aj w M 194 (kU b Ar nr cr Ah nh ch bI s p)
  buf:uN lo w b A Z
  rules:bh (aO w (fun x=>x<lo)) w (fun x=>x<lo) 7 Ar nr l
  heads:bh (gK w (fun x=>x<lo)) w (fun x=>x<lo) 3 Ah nh hs
theorem dr.below {lo:Nat} {w w':World} {M b:Nat} {A Z:List Int} {l:List ax} {hs:List bF} {Ar:Option Addr} {nr cr:Nat} {Ah:Option Addr} {nh ch:Nat} {bI s p:Int} (h:dr lo w M b A Z l hs Ar nr cr Ah nh ch bI s p) (hb:Below w.heap.size w w'):dr lo w' M b A Z l hs Ar nr cr Ah nh ch bI s p :=
  ⟨h.ge,aj.below h.blk hb h.blk.lt,h.buf.below hb,h.rules.keep (aa.any hb) (fun _ _=>aO.keep (aa.any hb)),h.heads.keep (aa.any hb) (fun _ _=>gK.keep (aa.any hb))⟩
theorem rO {lo:Nat} {w:World} {M b:Nat} {A Z:List Int} {l:List ax} {hs:List bF} {Ar:Option Addr} {nr cr:Nat} {Ah:Option Addr} {nh ch:Nat} {bI s p:Int} (h:dr lo w M b A Z l hs Ar nr cr Ah nh ch bI s p)
    (x:Int) (hx:(A++Z)[A.length]? = some x) (hx0:0≤x∧x≤1114111) (hT:(A++Z).length≤100000) (Mr:nh≤400) (oO:fT l hs 1114112) (hR:∀ r∈l,cX r) (hlen:l.length≤200) :
    Calls Tryz.prog 140 #[.pointer (some ⟨M,0,none⟩)] w fun e w'=>e=.returned (.int .i64 (cH l (A++Z) A.length))∧Below w.heap.size w w':=by
 have eD:=(Below.refl w.heap.size w).alloc (Nat.le_refl _) (.cells #[.pointer (some ⟨M,0,none⟩)] 190);have H:=qqh h;have HX:=qqh hx;have Tp:=qqh oO;have jz:=qqh hR;have We:=qqh (show hs.length=nh from h.heads.len);have WK:=qqh (show l.length=nr from h.rules.len);have Mm:=qqh (h.below eD);have HG:=qqh (aj.new w 190 #[.pointer (some ⟨M,0,none⟩)]);have dV:=qqh eD;clear h hx oO hR eD;go_enter Tryz.func140,Tryz.ntmps140;go_wp2_with fail;generalize XQ:w.alloc (.cells #[.pointer (some ⟨M,0,none⟩)] 190)=W1 at *;have g0:=HG.out.cell 0;have c0:=Mm.out.blk.cell 0;have JD:=HG.out.lt;have hml:=Mm.out.blk.lt;have tw:=qqh (fun(W:World) (hb:Below W1.heap.size W1 W)=>rA (Mm.out.buf.below hb));have ld:=qqh (fun(W:World) (hb:Below W1.heap.size W1 W)=>AQ (Mm.out.buf.below hb) A.length x HX.out);clear XQ;have HC:=qqh (fun(W:World) (hb:Below W1.heap.size W1 W)=>show W.cell? ⟨w.heap.size,0,none⟩=some (.pointer (some ⟨M,0,none⟩))∧W.cell? ⟨M,0,none⟩=some (.pointer (some ⟨b,0,none⟩)) from⟨(hb.cell (p:=⟨w.heap.size,0,none⟩) JD).trans g0,(hb.cell (p:=⟨M,0,none⟩) hml).trans c0⟩);go_upto_region 1 with fail;go_cut [3] (fun s3 wx=>∃ G,s3=.pointer (some ⟨G,0,none⟩)∧aj wx G 21 #[.int .i32 x]∧Below W1.heap.size W1 wx);case first=>
  refine av (S:=fun w'=>w'.cell? ⟨w.heap.size,0,none⟩=some (.pointer (some ⟨M,0,none⟩))∧w'.cell? ⟨M,0,none⟩=some (.pointer (some ⟨b,0,none⟩))) [0,3,4,7] (by kernel_rfl) ⟨g0,c0⟩ (fun aX=>?_);refine tu 0 7 ?_;(try simp only [zp,za,z0,zs]);refine tq 1 8 ?_;(try simp only [zp,za,z0,zs]);refine tq 2 9 ?_;(try simp only [zp,za,z0,zs]);refine tu 3 10 ?_;(try simp only [zp,za,z0,zs]);refine tu 4 11 ?_;(try simp only [zp,za,z0,zs]);refine tq 5 12 ?_;(try simp only [zp,za,z0,zs]);refine tq 6 13 ?_;(try simp only [zp,za,z0,zs]);refine tu 7 14 ?_;(try simp only [zp,za,z0,zs]);refine fB (i:=8) (j:=10) (o:=⟨some 15,_,_,_,_,_⟩) (o2:=⟨some 3,_,_,_,_,_⟩) (by kernel_rfl) rfl rfl (fun K hK=>?_) (fun K hK=>?_)
  ·go_simp;go_at_call 124;refine(tw.out _ (az (Below.refl W1.heap.size W1))).mono ?_;rintro e w2 ⟨rfl,rfl⟩;(try dsimp only);refine hK.out _ _ ?_ (fun aX=>?_);exact HC.out _ (az (Below.refl W1.heap.size W1));clear hK K;(try simp only [zp,za,z0,zs]);refine fB (i:=9) (j:=10) (o:=⟨some 16,_,_,_,_,_⟩) (o2:=⟨some 3,_,_,_,_,_⟩) (by kernel_rfl) rfl rfl (fun K hK=>?_) (fun K hK=>?_)
   ·go_simp;go_at_call 150;refine(ld.out _ (az (Below.refl W1.heap.size W1))).mono ?_;rintro e w2 ⟨rfl,k2,xP⟩;have bt:=qqh (show Below W1.heap.size W1 w2 by rw [xP];exact below_drewN (az (Below.refl W1.heap.size W1)) k2);clear xP;(try dsimp only);refine hK.out _ _ ?_ (fun aX=>?_);exact HC.out _ bt.out;clear hK K;(try simp only [zp,za,z0,zs]);refine aD (i:=10) (o:=⟨some 3,_,_,_,_,_⟩) (by kernel_rfl) rfl (fun K hK=>?_);go_simp;(try dsimp only);refine hK.out _ _ ?_ (fun aX=>?_);exact HC.out _ (bt.out.alloc bt.out.size _);clear hK K;(try simp only [zp,za,z0,zs]);refine aA (i:=11) (by kernel_rfl) rfl (by kernel_rfl) (fun K hK=>?_);go_simp;(try dsimp only);refine hK.out _ _ ?_;clear hK K;refine aI (by kernel_rfl) ?_ _;go_simp;go_wp2_with fail;go_meet;exact⟨w2.heap.size,rfl,aj.new _ _ _,bt.out.alloc bt.out.size _⟩
   go_simp;(try dsimp only);refine hK.out _ _ ?_ (fun aX=>?_);exact HC.out _ (az ((Below.refl W1.heap.size W1).alloc (Nat.le_refl _) (.cells #[.int .i32 0] 21)));clear hK K;(try simp only [Act.put,List.setIfInBounds_toArray,List.set_cons_zero,List.set_cons_succ]);refine aD (i:=9) (o:=⟨some 16,_,_,_,_,_⟩) (by kernel_rfl) rfl (fun K hK=>?_);go_simp;go_at_call 150;refine(ld.out _ (az ((Below.refl W1.heap.size W1).alloc (Nat.le_refl _) (.cells #[.int .i32 0] 21)))).mono ?_;rintro e w2 ⟨rfl,k2,xP⟩;have bt:=qqh (show Below W1.heap.size W1 w2 by rw [xP];exact below_drewN (az ((Below.refl W1.heap.size W1).alloc (Nat.le_refl _) (.cells #[.int .i32 0] 21))) k2);have PR:=qqh (show aj w2 W1.heap.size 21 #[.int .i32 0] by rw [xP];exact aj.new W1 21 #[.int .i32 0]);clear xP;(try dsimp only);refine hK.out _ _ ?_ (fun aX=>?_);exact HC.out _ bt.out;clear hK K;(try simp only [zp,za,z0,zs]);refine aA (i:=11) (by kernel_rfl) rfl (by kernel_rfl) (fun K hK=>?_);have z0:=PR.out.cell 0;have z1:=PR.out.frozen 0;go_simp;(try dsimp only);refine hK.out _ _ ?_;clear hK K;refine aI (by kernel_rfl) ?_ _;go_simp;go_wp2_with fail;go_meet;exact⟨W1.heap.size,rfl,PR.out.put 0 _,bt.out.setCell (Nat.le_refl _) _⟩
  go_simp;(try dsimp only);refine hK.out _ _ ?_ (fun aX=>?_);exact HC.out _ (az ((Below.refl W1.heap.size W1).alloc (Nat.le_refl _) (.cells #[.int .i32 0] 21)));clear hK K;(try simp only [Act.put,List.setIfInBounds_toArray,List.set_cons_zero,List.set_cons_succ]);refine aD (i:=8) (o:=⟨some 15,_,_,_,_,_⟩) (by kernel_rfl) rfl (fun K hK=>?_);go_simp;go_at_call 124;refine(tw.out _ (az ((Below.refl W1.heap.size W1).alloc (Nat.le_refl _) (.cells #[.int .i32 0] 21)))).mono ?_;rintro e w2 ⟨rfl,rfl⟩;(try dsimp only);refine hK.out _ _ ?_ (fun aX=>?_);exact HC.out _ (az ((Below.refl W1.heap.size W1).alloc (Nat.le_refl _) (.cells #[.int .i32 0] 21)));clear hK K;(try simp only [zp,za,z0,zs]);refine aD (i:=9) (o:=⟨some 16,_,_,_,_,_⟩) (by kernel_rfl) rfl (fun K hK=>?_);go_simp;go_at_call 150;refine(ld.out _ (az ((Below.refl W1.heap.size W1).alloc (Nat.le_refl _) (.cells #[.int .i32 0] 21)))).mono ?_;rintro e w2 ⟨rfl,k2,xP⟩;have bt:=qqh (show Below W1.heap.size W1 w2 by rw [xP];exact below_drewN (az ((Below.refl W1.heap.size W1).alloc (Nat.le_refl _) (.cells #[.int .i32 0] 21))) k2);have PR:=qqh (show aj w2 W1.heap.size 21 #[.int .i32 0] by rw [xP];exact aj.new W1 21 #[.int .i32 0]);clear xP;(try dsimp only);refine hK.out _ _ ?_ (fun aX=>?_);exact HC.out _ bt.out;clear hK K;(try simp only [zp,za,z0,zs]);refine aA (i:=11) (by kernel_rfl) rfl (by kernel_rfl) (fun K hK=>?_);have z0:=PR.out.cell 0;have z1:=PR.out.frozen 0;go_simp;(try dsimp only);refine hK.out _ _ ?_;clear hK K;refine aI (by kernel_rfl) ?_ _;go_simp;go_wp2_with fail;go_meet;exact⟨W1.heap.size,rfl,PR.out.put 0 _,bt.out.setCell (Nat.le_refl _) _⟩
 obtain⟨G,rfl,hGx,iI⟩:=hcut;have tB:=qqh iI;have Mj:=qqh hGx;have WG:=qqh (Mm.out.below iI);have HF:=qqh (aj.below HG.out iI JD);have t0:=HF.out.cell 0;have t2:wc.cell? ⟨M,2,none⟩=some (.slice Ah nh ch):=WG.out.blk.cell 2
 have Mg:=qqh (rW 151 #[.pointer (some ⟨w.heap.size,0,none⟩),.pointer (some ⟨G,0,none⟩)] nh (fun i=>decide (x≤(hs[i]?.getD ⟨0,0,[]⟩).high)) wc zj (by omega)
   (fun w' i hb hi=>by
     obtain⟨y,hy⟩:∃ z,hs[i]? = some z:=⟨_,List.getElem?_eq_getElem (by rw [We.out];exact hi)⟩
     obtain⟨hb',hoff,A',c',rfl,_,dL,_,c1,_⟩:=Fp (WG.out.below hb).heads hy
     rw [hy]
     exact wQ w.heap.size G M hb' hoff nh ch i x y.high w' hi ((aj.below HF.out hb HF.out.lt).cell 0) ((WG.out.below hb).blk.cell 2) ((aj.below Mj.out hb Mj.out.lt).cell 0) c1)
   (fun a b hab hb h=>by
     obtain⟨y,hy⟩:∃ z,hs[a]? = some z:=⟨_,List.getElem?_eq_getElem (by rw [We.out];omega)⟩
     obtain⟨z,hz⟩:∃ z,hs[b]? = some z:=⟨_,List.getElem?_eq_getElem (by rw [We.out];omega)⟩
     simp only [hy,hz,Option.getD_some,decide_eq_true_eq]at h ⊢
     have:=Tp.out.Vw a b y z hab hy hz
     omega))
 clear hGx iI g0 c0;go_wp2_with fail;refine Mg.out.mono ?_;rintro e w2 ⟨k,rfl,hk,h1,h2,hb⟩;obtain⟨y,hy,hyr⟩:=Tp.out.head (r:=x) (k:=k) (fun t z ht hz=>by
  have:=h1 t ht;rw [hz]at this;simpa using this) (fun t z ht hz=>by
  have:=h2 t ht (by rw [← We.out];exact(List.getElem?_eq_some_iff.1 hz).1);rw [hz]at this;simpa using this) hx0.1 hx0.2
 have hkn:k<nh:=(by rw [← We.out];exact(List.getElem?_eq_some_iff.1 hy).1);have HMD:=qqh (WG.out.below hb);have Bu:=qqh (aj.below HF.out hb HF.out.lt);have HBD:=qqh (dV.out.trans ((tB.out.trans (hb.mono tB.out.size)).mono dV.out.size));obtain⟨hb',hoff,Ab,cb,rfl,_,dL,_,_,e2,YO,_,eD⟩:=Fp HMD.out.heads hy;rw [hyr]at e2 YO eD;have d0:=Bu.out.cell 0;have d2:w2.cell? ⟨M,2,none⟩=some (.slice (some ⟨hb',hoff,none⟩) nh ch):=HMD.out.blk.cell 2;have HRI:=qqh YO;have HWI:=qqh (By (l:=l) (T:=A++Z) (q:=A.length) (fun r hr=>(jz.out r hr).src) HX.out);have Y0:=qqh (show ∀ k∈cG l x,∃ q:Nat,k=(q:Int)∧q<l.length from fun k hk=>by
  unfold cG dn at hk;obtain⟨q,hq,rfl⟩:=List.mem_map.1 hk;exact⟨q,rfl,List.mem_range.1 (List.mem_filter.1 hq).1⟩)
 have af6:(cG l x).length≤200:=Nat.le_trans (Gi l x) hlen;generalize hBB:cG l x=BB at *;generalize FZ:BB.length=bn at *;have HBN:=qqh FZ;clear h1 h2 hb hy hyr YO hBB FZ Mg t0 t2;go_wp2_with fail;go_loopw [33] (fun i wr=>∃ j:Nat,j≤bn∧i=.int .i64 j∧cM l (A++Z) A.length BB=cM l (A++Z) A.length (BB.drop j)∧Below w2.heap.size w2 wr) (fun i _=>bn - (intOf i).toNat);(case atStart=>exact⟨0,Nat.zero_le _,rfl,rfl,Below.refl _ _⟩);obtain⟨j,hj,rfl,aY,hb⟩:=hrel;have I3:=qqh (HMD.out.below hb);have AM:=qqh (HBD.out.trans (hb.mono HBD.out.size));have Zr:=qqh hb;by_cases hlt:j<bn
 ·obtain⟨kk,hkk⟩:∃ z,BB[j]? = some z:=⟨_,List.getElem?_eq_getElem (by rw [HBN.out];exact hlt)⟩;obtain⟨kn,rfl,Lj⟩:=Y0.out kk (List.mem_of_getElem? hkk);obtain⟨r,hr⟩:∃ z,l[kn]? = some z:=⟨_,List.getElem?_eq_getElem Lj⟩;obtain⟨vb,vo,rfl,Ro,hvc⟩:=HRI.out.at hkk;have v0:=(Zr.out.cell (p:=⟨vb,vo+j,none⟩) Ro).trans hvc;obtain⟨rb,ro,A1,A2,A3,A4,n1,c1,n2,c2,n3,c3,n4,c4,rfl,_,pK⟩:=FI I3.out.rules hr;have HHR:=qqh (vn (IG lo M b A Z) (fun x=>x<lo) r rb (ro+kn*7) A1 A2 A3 A4 n1 c1 n2 c2 n3 c3 n4 c4 A.length wr.drew hT (by rw [List.length_append];omega) (jz.out r (List.mem_of_getElem? hr)) (pK.below (az (Below.refl _ _))) ⟨I3.out.blk.cell 0,I3.out.blk.lt,I3.out.buf.below (az (Below.refl wr.heap.size wr))⟩);have HH:=qqh (show hereAt l (A++Z) A.length (kn:Int)=eu r (A++Z) A.length by unfold hereAt;rw [Int.toNat_natCast,hr]);have ep:=qqh (aY.trans (show cM l (A++Z) A.length (BB.drop j)=if hereAt l (A++Z) A.length (kn:Int)=true then (kn:Int)else cM l (A++Z) A.length (BB.drop (j+1)) by rw [dH hkk,cM]));have To:kn<nr:=(by rw [← WK.out];exact Lj);have u0:=(aj.below Bu.out hb Bu.out.lt).cell 0;have u1:wr.cell? ⟨M,0,none⟩=some (.pointer (some ⟨b,0,none⟩)):=I3.out.blk.cell 0;have u2:wr.cell? ⟨M,1,none⟩=some (.slice (some ⟨rb,ro,none⟩) nr cr):=I3.out.blk.cell 1;clear hkk hr hvc pK aY hb;go_upto_region 6 with fail;refine av (S:=fun w'=>w'.cell? ⟨w.heap.size,0,none⟩=some (.pointer (some ⟨M,0,none⟩))∧w'.cell? ⟨M,0,none⟩=some (.pointer (some ⟨b,0,none⟩))∧w'.cell? ⟨M,1,none⟩=some (.slice (some ⟨rb,ro,none⟩) nr cr)) [0,3,6,8,11] (by kernel_rfl) ⟨u0,u1,u2⟩ (fun aX=>?_);refine tu 0 37 ?_;(try simp only [zp,za,z0,zs]);refine tq 1 38 ?_;(try simp only [zp,za,z0,zs]);refine tq 2 39 ?_;(try simp only [zp,za,z0,zs])
  refine tu 3 40 ?_;(try simp only [zp,za,z0,zs]);refine tq 4 41 ?_;(try simp only [zp,za,z0,zs]);refine tq 5 42 ?_;(try simp only [zp,za,z0,zs]);refine tu 6 43 ?_;(try simp only [zp,za,z0,zs]);refine tq 7 44 ?_;(try simp only [zp,za,z0,zs]);refine tu 8 45 ?_;(try simp only [zp,za,z0,zs]);refine tq 9 46 ?_;(try simp only [zp,za,z0,zs]);refine tq 10 47 ?_;(try simp only [zp,za,z0,zs]);refine tu 11 48 ?_;(try simp only [zp,za,z0,zs]);refine aD (i:=12) (o:=⟨some 49,_,_,_,_,_⟩) (by kernel_rfl) rfl (fun K hK=>?_);go_simp;go_at_call 124;refine(rA (I3.out.buf.below (az (Below.refl wr.heap.size wr)))).mono ?_;rintro e w2 ⟨rfl,rfl⟩;(try dsimp only);refine hK.out _ _ ?_ (fun aX=>?_);exact⟨u0,u1,u2⟩;clear hK K;(try simp only [zp,za,z0,zs]);refine aA (i:=13) (o:=⟨some 50,_,_,_,_,_⟩) (by kernel_rfl) rfl (by kernel_rfl) (fun K hK=>?_);go_simp;go_at_call 65;refine HHR.out.mono ?_;rintro e w3 ⟨rfl,bJ⟩;have Qc:Below wr.heap.size wr w3:=(az (Below.refl wr.heap.size wr)).trans bJ;have bN:=qqh (AM.out.trans (Qc.mono AM.out.size));have ej:=qqh (Zr.out.trans (Qc.mono Zr.out.size));clear bJ Qc HHR;(try dsimp only);refine hK.out _ _ ?_;clear hK K;(try simp only [zp,za,z0,zs]);refine aI (by kernel_rfl) ?_ _;cases hh:eu r (A++Z) A.length
  ·have lg:=qqh (ep.out.trans (if_neg (by rw [HH.out,hh];decide)));clear hh;go_simp;go_wp2_with fail;exact⟨⟨j+1,by omega,by go_num,lg.out,ej.out⟩,by simp [intOf];omega⟩
  have lg:=qqh (ep.out.trans (if_pos (by rw [HH.out,hh])));clear hh;go_simp;go_wp2_with fail;go_ret;rw [← HWI.out,lg.out];exact⟨rfl,bN.out⟩
 obtain rfl:j=bn:=(by omega);rw [List.drop_of_length_le (by rw [HBN.out];exact Nat.le_refl _)]at aY;have lg:=qqh (HWI.out.symm.trans aY);clear aY hb;go_wp2_with fail;go_ret;rw [lg.out];exact⟨rfl,AM.out⟩
section
variable {lo : Nat} {w w' : World} {M b : Nat} {A Z A' Z' : List Int} {l : List ax} {hs : List bF} {Ar : Option Addr} {nr cr : Nat} {Ah : Option Addr} {nh ch : Nat} {bI s p : Int}
theorem fI {X:Nat→Prop} (hb:Below lo w w') (hX:∀ x,X x→x<lo):aa w X w' X:=fun x hx hl=>⟨hb.block x (hX x hx),hx,Nat.lt_of_lt_of_le hl hb.size⟩
theorem dr.kp (h:dr lo w M b A Z l hs Ar nr cr Ah nh ch bI s p) (hk:Kp lo w w') (hb:uN lo w' b A' Z'):dr lo w' M b A' Z' l hs Ar nr cr Ah nh ch bI s p :=
  ⟨h.ge,hk.other M _ _ h.blk (by decide) (by decide),hb,h.rules.keep (fI hk.below (fun _ h=>h)) (fun _ _=>aO.keep (fI hk.below (fun _ h=>h))),h.heads.keep (fI hk.below (fun _ h=>h)) (fun _ _=>gK.keep (fI hk.below (fun _ h=>h)))⟩
theorem uN.JJ (h:uN lo w b A Z) {cs:Array Value} (hM:aj w M 194 cs) (i:Nat) (u:Value):uN lo (w.setCell ⟨M,i,none⟩ u) b A Z:=by
 obtain⟨L,n,D,f,t,h1,h2⟩:=h;exact⟨L,n,D,f,t,⟨h1.buf.other hM (by decide) i u,h1.row.other hM (by decide) i u,h1.len,h1.le,h1.end_,h1.small⟩,h2⟩
structure Kq (lo:Nat) (w w':World):Prop where
  below:Below lo w w'
  other:∀ k t cs,aj w k t cs→t ≠ 21 → t ≠ 209 → t ≠ 194 → aj w' k t cs
theorem Kq.refl (lo:Nat) (w:World):Kq lo w w:=⟨Below.refl _ _,fun _ _ _ h _ _ _=>h⟩
theorem Kq.trans {w1 w2:World} (h:Kq lo w w1) (h2:Kq lo w1 w2):Kq lo w w2:=⟨h.below.trans h2.below,fun k t cs hb h3 h4 h5=>h2.other k t cs (h.other k t cs hb h3 h4 h5) h3 h4 h5⟩
theorem Kq.kp (h:Kp lo w w'):Kq lo w w':=⟨h.below,fun k t cs hb h3 h4 _=>h.other k t cs hb h3 h4⟩
theorem Kq.all (h:Below w.heap.size w w') (hlo:lo≤w.heap.size):Kq lo w w':=Kq.kp (Kp.all h hlo)
theorem Kq.drewN (h:Kq lo w w') (k:Nat):Kq lo w (w'.drewN k):=⟨below_drewN h.below k,h.other⟩
theorem Kq.JJ {M:Nat} {cs:Array Value} (hM:aj w M 194 cs) (hl:lo≤M) (i:Nat) (u:Value):Kq lo w (w.setCell ⟨M,i,none⟩ u) :=
  ⟨(Below.refl _ _).setCell hl _,fun _ _ _ hb _ _ h5=>hb.other hM h5 i u⟩
theorem dr.steps (h:dr lo w M b A Z l hs Ar nr cr Ah nh ch bI s p) (s':Int):dr lo (w.setCell ⟨M,5,none⟩ (.int .i64 s')) M b A Z l hs Ar nr cr Ah nh ch bI s' p∧Kq lo w (w.setCell ⟨M,5,none⟩ (.int .i64 s')):=by
 have hb:Below lo w (w.setCell ⟨M,5,none⟩ (.int .i64 s')):=(Below.refl _ _).setCell h.ge _;exact⟨⟨h.ge,h.blk.put 5 _,h.buf.JJ h.blk 5 _,h.rules.keep (fI hb (fun _ h=>h)) (fun _ _=>aO.keep (fI hb (fun _ h=>h))),h.heads.keep (fI hb (fun _ h=>h)) (fun _ _=>gK.keep (fI hb (fun _ h=>h)))⟩,Kq.JJ h.blk h.ge _ _⟩
theorem dr.Vc (h:dr lo w M b A Z l hs Ar nr cr Ah nh ch bI s p) (p':Int):dr lo (w.setCell ⟨M,6,none⟩ (.int .i64 p')) M b A Z l hs Ar nr cr Ah nh ch bI s p'∧Kq lo w (w.setCell ⟨M,6,none⟩ (.int .i64 p')):=by
 have hb:Below lo w (w.setCell ⟨M,6,none⟩ (.int .i64 p')):=(Below.refl _ _).setCell h.ge _;exact⟨⟨h.ge,h.blk.put 6 _,h.buf.JJ h.blk 6 _,h.rules.keep (fI hb (fun _ h=>h)) (fun _ _=>aO.keep (fI hb (fun _ h=>h))),h.heads.keep (fI hb (fun _ h=>h)) (fun _ _=>gK.keep (fI hb (fun _ h=>h)))⟩,Kq.JJ h.blk h.ge _ _⟩
theorem dr.rule (h:dr lo w M b A Z l hs Ar nr cr Ah nh ch bI s p) {k:Nat} {r:ax} (hk:l[k]? = some r) :
    ∃ (rb ro:Nat) (A2 A4:Option Addr) (c2 c4:Nat),Ar=some ⟨rb,ro,none⟩∧k<nr∧w.cell? ⟨rb,ro+k*7+3,none⟩=some (.slice A2 r.source.length c2)∧w.cell? ⟨rb,ro+k*7+5,none⟩=some (.slice A4 r.target.length c4) ∧
      w.cell? ⟨rb,ro+k*7+6,none⟩=some (.int .i64 r.af)∧cy w (fun x=>x<lo) 1 A4 r.target.length (runeCells r.target):=by
 obtain⟨rb,ro,A1,A2,A3,A4,n1,c1,n2,c2,n3,c3,n4,c4,e,_,ha⟩:=FI h.rules hk;have h2:=ha.s2.list.len;have h4:=ha.s4.1;rw [runeCells_length]at h4;obtain rfl:r.source.length=n2:=h2;obtain rfl:r.target.length=n4:=(by omega);have hl:l.length=nr:=h.rules.len;exact⟨rb,ro,A2,A4,c2,c4,e,by have:=(List.getElem?_eq_some_iff.1 hk).1;omega,ha.d3,ha.d5,ha.d6,ha.s4⟩
end
theorem ES {lo:Nat} {w:World} {M b:Nat} {A Z:List Int} {l:List ax} {hs:List bF} {Ar:Option Addr} {nr cr:Nat} {Ah:Option Addr} {nh ch:Nat} {bI s p:Nat} (h:dr lo w M b A Z l hs Ar nr cr Ah nh ch bI s p) (hs1:s=bI) (kA:bI≤100000) :
    Calls Tryz.prog 126 #[.pointer (some ⟨M,0,none⟩)] w fun e w'=>e=.returned (.tuple #[.int .i64 0,.int .i64 9])∧∃ k,w'=w.drewN k:=by
 have c3:w.cell? ⟨M,3,none⟩=some (.int .i64 bI):=h.blk.cell 3;have c5:w.cell? ⟨M,5,none⟩=some (.int .i64 s):=h.blk.cell 5;subst hs1;clear h;go_enter Tryz.func126,Tryz.ntmps126;go_wp2_with fail;go_quiet (fail);go_wp2_with fail;go_ret2;exact⟨rfl,_,rfl⟩
theorem BY {lo:Nat} {w:World} {M b:Nat} {A Z:List Int} {l:List ax} {hs:List bF} {Ar:Option Addr} {nr cr:Nat} {Ah:Option Addr} {nh ch:Nat} {bI s p:Nat} (h:dr lo w M b A Z l hs Ar nr cr Ah nh ch bI s p) (z:Int) (Z':List Int) (hZ:Z=z::Z') (x:Int) (hx:(A++Z)[A.length]? = some x) (hx0:0≤x∧x≤1114111) (hT:(A++Z).length≤4000) (Mr:nh≤400) (oO:fT l hs 1114112) (hR:∀ r∈l,cX r) (hlen:l.length≤200) (kA:bI≤100000)  (hs1:s<bI) (yu:cH l (A++Z) A.length = -1) :
    Calls Tryz.prog 126 #[.pointer (some ⟨M,0,none⟩)] w fun e w'=>e=.returned (.tuple #[.int .i64 (-1),.int .i64 0])∧dr lo w' M b (A++[z]) Z' l hs Ar nr cr Ah nh ch bI ((s:Int)+1) p∧Kq lo w w':=by
 have Tv:=qqh (show(A++Z).take (A.length+1)=A++[z]∧(A++Z).drop (A.length+1)=Z' by
  have e:A++z::Z'=(A++[z])++Z':=(by simp);rw [hZ,e];exact⟨List.take_left' (by simp),List.drop_left' (by simp)⟩)
 have hzl:Z.length=Z'.length+1:=(by rw [hZ];rfl);have hAl:A.length≤4000:=(by rw [List.length_append]at hT;omega);have hwr:IntKind.i64.wrap ((A.length:Int)+1)=(A.length:Int)+1:=(by rw [IntKind.wrap_i64];omega);have hge:=h.ge;have c3:w.cell? ⟨M,3,none⟩=some (.int .i64 bI):=h.blk.cell 3;have c5:w.cell? ⟨M,5,none⟩=some (.int .i64 s):=h.blk.cell 5;have f5:=h.blk.frozen 5;have nU:lo≤w.heap.size:=Nat.le_trans h.ge (Nat.le_of_lt h.blk.lt);have hd:((s:Int) ==(bI:Int))=false:=(by rw [beq_eq_false_iff_ne];omega);have H:=qqh h;have HX:=qqh hx;have jz:=qqh hR;have Mp:=qqh oO;clear h hx oO hR;go_enter Tryz.func126,Tryz.ntmps126;go_wp2_with fail;go_quiet (fail);have d5:(w.drewN nq).cell? ⟨M,5,none⟩=some (.int .i64 s):=c5;have g5:(w.drewN nq).frozen? ⟨M,5,none⟩=false:=f5;have hst:=(H.out.below (below_drewN (Below.refl _ _) nq)).steps ((s:Int)+1);have fk:=qqh hst.1;have ON:=qqh (((Kq.refl lo w).drewN nq).trans hst.2);have Bu:=qqh (rO fk.out x HX.out hx0 (by omega) Mr Mp.out jz.out hlen);clear hst c3 c5 f5;go_wp2_with fail;refine Bu.out.mono ?_;rintro e w2 ⟨rfl,aQ⟩;rw [yu];have iz:=qqh (fk.out.below aQ);have bt:=qqh (ON.out.trans (Kq.all aQ (Nat.le_trans nU ON.out.below.size)));clear aQ d5 g5 Bu;have e0:w2.cell? ⟨M,0,none⟩=some (.pointer (some ⟨b,0,none⟩)):=iz.out.blk.cell 0;have sV:=qqh (show Calls Tryz.prog 141 #[.pointer (some ⟨b,0,none⟩),.int .i64 ((A.length:Int)+1)] w2.drew _ from BX (iz.out.buf.below (az (Below.refl w2.heap.size w2))) (A.length+1) (by omega));go_upto_region 6 with fail;refine av (S:=fun w'=>w'.cell? ⟨M,0,none⟩=some (.pointer (some ⟨b,0,none⟩))) [3,7] (by kernel_rfl) e0 (fun aX=>?_);refine tq 0 30 ?_
 (try simp only [zp,za,z0,zs]);refine tq 1 31 ?_;(try simp only [zp,za,z0,zs]);refine tq 2 32 ?_;(try simp only [zp,za,z0,zs]);refine tu 3 33 ?_;(try simp only [zp,za,z0,zs]);refine tq 4 34 ?_;(try simp only [zp,za,z0,zs]);refine tq 5 35 ?_;(try simp only [zp,za,z0,zs]);refine tq 6 36 ?_;(try simp only [zp,za,z0,zs]);refine tu 7 37 ?_;(try simp only [zp,za,z0,zs]);refine aD (i:=8) (o:=⟨some 38,_,_,_,_,_⟩) (by kernel_rfl) rfl (fun K hK=>?_);go_simp;go_at_call 124;refine(rA (iz.out.buf.below (az (Below.refl w2.heap.size w2)))).mono ?_;rintro e w3 ⟨rfl,rfl⟩;(try dsimp only);refine hK.out _ _ ?_ (fun aX=>?_);exact e0;clear hK K;(try simp only [zp,za,z0,zs]);refine tq 9 39 ?_;(try simp only [zp,za,z0,zs]);refine aA (i:=10) (by kernel_rfl) rfl (by kernel_rfl) (fun K hK=>?_);go_simp;go_at_call 141;refine sV.out.mono ?_;rintro e w3 ⟨rfl,qP,hkp⟩;have DM:=qqh qP;have oe:=qqh (((Kp.refl lo w2).drew).trans hkp);clear qP hkp sV;(try dsimp only);refine hK.out _ _ ?_;clear hK K;(try simp only [Act.put,List.setIfInBounds_toArray,List.set_cons_zero,List.set_cons_succ]);refine aI (by kernel_rfl) ?_ _;go_simp;go_wp2_with fail;go_ret2;refine⟨rfl,?_,bt.out.trans (Kq.kp oe.out)⟩;have hm:=iz.out.kp oe.out DM.out;rwa [Tv.out.1,Tv.out.2]at hm
theorem Gc {lo:Nat} {w:World} {M b:Nat} {A Z:List Int} {l:List ax} {hs:List bF} {Ar:Option Addr} {nr cr:Nat} {Ah:Option Addr} {nh ch:Nat} {bI s p:Nat} (h:dr lo w M b A Z l hs Ar nr cr Ah nh ch bI s p) (k:Nat) (r:ax) (hk:l[k]? = some r) (x:Int) (hx:(A++Z)[A.length]? = some x) (hx0:0≤x∧x≤1114111) (hT:(A++Z).length≤4000) (Mr:nh≤400) (oO:fT l hs 1114112) (hR:∀ r∈l,cX r) (hlen:l.length≤200) (kA:bI≤100000)  (hpb:p≤100000) (hs1:s<bI) (yu:cH l (A++Z) A.length=(k:Int)) (hfit:r.source.length≤Z.length) (vB:4000+r.source.length<A.length+Z.length+r.target.length) :
    Calls Tryz.prog 126 #[.pointer (some ⟨M,0,none⟩)] w fun e w'=>e=.returned (.tuple #[.int .i64 0,.int .i64 4])∧Below lo w w':=by
 have HK:=qqh hk;have tQ:=hR r (List.mem_of_getElem? hk);have ZL:=(tQ.sets r.source (by simp [dA])).1;have Uf:=tQ.tgt.1;have Es:=tQ.cur;have Qm:(A++Z).length=A.length+Z.length:=List.length_append;clear hk tQ;have hgt:decide ((4000:Int)<((A.length+Z.length:Nat):Int) - (r.source.length:Int)+(r.target.length:Int))=true:=decide_eq_true (by omega);have hge:=h.ge;have c3:w.cell? ⟨M,3,none⟩=some (.int .i64 bI):=h.blk.cell 3;have c5:w.cell? ⟨M,5,none⟩=some (.int .i64 s):=h.blk.cell 5;have f5:=h.blk.frozen 5;have nU:lo≤w.heap.size:=Nat.le_trans h.ge (Nat.le_of_lt h.blk.lt);have hd:((s:Int) ==(bI:Int))=false:=(by rw [beq_eq_false_iff_ne];omega);have H:=qqh h;have HX:=qqh hx;have jz:=qqh hR;have Mp:=qqh oO;clear h hx oO hR;go_enter Tryz.func126,Tryz.ntmps126;go_wp2_with fail;go_quiet (fail);have d5:(w.drewN nq).cell? ⟨M,5,none⟩=some (.int .i64 s):=c5;have g5:(w.drewN nq).frozen? ⟨M,5,none⟩=false:=f5;have hst:=(H.out.below (below_drewN (Below.refl _ _) nq)).steps ((s:Int)+1);have fk:=qqh hst.1;have ON:=qqh (((Kq.refl lo w).drewN nq).trans hst.2);have Bu:=qqh (rO fk.out x HX.out hx0 (by omega) Mr Mp.out jz.out hlen);clear hst c3 c5 f5;go_wp2_with fail;refine Bu.out.mono ?_;rintro e w2 ⟨rfl,aQ⟩;rw [yu];have iz:=qqh (fk.out.below aQ);have bt:=qqh (ON.out.trans (Kq.all aQ (Nat.le_trans nU ON.out.below.size)));clear aQ d5 g5 Bu;have rC:=iz.out;have u6:w2.cell? ⟨M,6,none⟩=some (.int .i64 p):=rC.blk.cell 6;have v6:=rC.blk.frozen 6;obtain⟨rb,ro,A2,A4,c2,c4,rfl,To,_⟩:=rC.rule HK.out;have u1:w2.cell? ⟨M,1,none⟩=some (.slice (some ⟨rb,ro,none⟩) nr cr):=rC.blk.cell 1;have hpt:=rC.Vc ((p:Int)+1);have ic:=qqh hpt.1;have bN:=qqh (bt.out.trans hpt.2)
 clear hpt rC;have V5:decide ((k:Int)<0)=false:=decide_eq_false (by omega);generalize Pa:w2.setCell ⟨M,6,none⟩ (.int .i64 ((p:Int)+1))=W3 at ic bN;have X0:=qqh Pa;have t0:W3.cell? ⟨M,0,none⟩=some (.pointer (some ⟨b,0,none⟩)):=ic.out.blk.cell 0;have t1:W3.cell? ⟨M,1,none⟩=some (.slice (some ⟨rb,ro,none⟩) nr cr):=ic.out.blk.cell 1;obtain⟨rb',YU,A2,A4,c2,c4,e9,_,t3,t5,_,_⟩:=ic.out.rule HK.out;cases e9;have aS:=qqh (fun(q:Nat)=>tT (ic.out.buf.below (below_drewN (Below.refl W3.heap.size W3) q)));have tw:=qqh (fun(q:Nat)=>rA (ic.out.buf.below (below_drewN (Below.refl W3.heap.size W3) q)));clear Pa;go_upto_region 10 with fail;rw [X0.out];clear u1 u6 v6;go_quiet (first | (go_at_call 125;exact Calls.quiet_of (aS.out _)));go_wp2_with fail;go_ret2;exact⟨rfl,below_drewN bN.out.below nq⟩
theorem Cw {lo:Nat} {w:World} {M b:Nat} {A Z:List Int} {l:List ax} {hs:List bF} {Ar:Option Addr} {nr cr:Nat} {Ah:Option Addr} {nh ch:Nat} {bI s p:Nat} (h:dr lo w M b A Z l hs Ar nr cr Ah nh ch bI s p) (k:Nat) (r:ax) (hk:l[k]? = some r) (x:Int) (hx:(A++Z)[A.length]? = some x) (hx0:0≤x∧x≤1114111) (hT:(A++Z).length≤4000) (Mr:nh≤400) (oO:fT l hs 1114112) (hR:∀ r∈l,cX r) (hlen:l.length≤200) (kA:bI≤100000)  (hpb:p≤100000) (hs1:s<bI) (yu:cH l (A++Z) A.length=(k:Int)) (hfit:r.source.length≤Z.length) (vB:A.length+Z.length+r.target.length≤4000+r.source.length) :
    Calls Tryz.prog 126 #[.pointer (some ⟨M,0,none⟩)] w fun e w'=>e=.returned (.tuple #[.int .i64 k,.int .i64 0]) ∧
      dr lo w' M b ((A++r.target++Z.drop r.source.length).take (A.length+r.af.toNat)) ((A++r.target++Z.drop r.source.length).drop (A.length+r.af.toNat)) l hs Ar nr cr Ah nh ch bI ((s:Int)+1) ((p:Int)+1)∧Kq lo w w':=by
 have HK:=qqh hk;have tQ:=hR r (List.mem_of_getElem? hk);have ZL:=(tQ.sets r.source (by simp [dA])).1;have Uf:=tQ.tgt.1;have Es:=tQ.cur;have Qm:(A++Z).length=A.length+Z.length:=List.length_append;clear hk tQ;have hgt:decide ((4000:Int)<((A.length+Z.length:Nat):Int) - (r.source.length:Int)+(r.target.length:Int))=false:=decide_eq_false (by omega);have hwr:IntKind.i64.wrap ((A.length:Int)+r.af)=(A.length:Int)+r.af:=(by rw [IntKind.wrap_i64];omega);have hge:=h.ge;have c3:w.cell? ⟨M,3,none⟩=some (.int .i64 bI):=h.blk.cell 3;have c5:w.cell? ⟨M,5,none⟩=some (.int .i64 s):=h.blk.cell 5;have f5:=h.blk.frozen 5;have nU:lo≤w.heap.size:=Nat.le_trans h.ge (Nat.le_of_lt h.blk.lt);have hd:((s:Int) ==(bI:Int))=false:=(by rw [beq_eq_false_iff_ne];omega);have H:=qqh h;have HX:=qqh hx;have jz:=qqh hR;have Mp:=qqh oO;clear h hx oO hR;go_enter Tryz.func126,Tryz.ntmps126;go_wp2_with fail;go_quiet (fail);have d5:(w.drewN nq).cell? ⟨M,5,none⟩=some (.int .i64 s):=c5;have g5:(w.drewN nq).frozen? ⟨M,5,none⟩=false:=f5;have hst:=(H.out.below (below_drewN (Below.refl _ _) nq)).steps ((s:Int)+1);have fk:=qqh hst.1;have ON:=qqh (((Kq.refl lo w).drewN nq).trans hst.2);have Bu:=qqh (rO fk.out x HX.out hx0 (by omega) Mr Mp.out jz.out hlen);clear hst c3 c5 f5;go_wp2_with fail;refine Bu.out.mono ?_;rintro e w2 ⟨rfl,aQ⟩;rw [yu];have iz:=qqh (fk.out.below aQ);have bt:=qqh (ON.out.trans (Kq.all aQ (Nat.le_trans nU ON.out.below.size)));clear aQ d5 g5 Bu;have rC:=iz.out;have u6:w2.cell? ⟨M,6,none⟩=some (.int .i64 p):=rC.blk.cell 6;have v6:=rC.blk.frozen 6;obtain⟨rb,ro,A2,A4,c2,c4,rfl,To,_⟩:=rC.rule HK.out
 have u1:w2.cell? ⟨M,1,none⟩=some (.slice (some ⟨rb,ro,none⟩) nr cr):=rC.blk.cell 1;have hpt:=rC.Vc ((p:Int)+1);have ic:=qqh hpt.1;have bN:=qqh (bt.out.trans hpt.2);clear hpt rC;have V5:decide ((k:Int)<0)=false:=decide_eq_false (by omega);generalize Pa:w2.setCell ⟨M,6,none⟩ (.int .i64 ((p:Int)+1))=W3 at ic bN;have X0:=qqh Pa;have t0:W3.cell? ⟨M,0,none⟩=some (.pointer (some ⟨b,0,none⟩)):=ic.out.blk.cell 0;have t1:W3.cell? ⟨M,1,none⟩=some (.slice (some ⟨rb,ro,none⟩) nr cr):=ic.out.blk.cell 1;obtain⟨rb',YU,A2,A4,c2,c4,e9,_,t3,t5,_,_⟩:=ic.out.rule HK.out;cases e9;have aS:=qqh (fun(q:Nat)=>tT (ic.out.buf.below (below_drewN (Below.refl W3.heap.size W3) q)));have tw:=qqh (fun(q:Nat)=>rA (ic.out.buf.below (below_drewN (Below.refl W3.heap.size W3) q)));clear Pa;go_upto_region 10 with fail;rw [X0.out];clear u1 u6 v6;go_quiet (first | (go_at_call 125;exact Calls.quiet_of (aS.out _)));go_wp2_with fail;refine(tw.out nq).mono ?_;rintro e w4 ⟨rfl,rfl⟩;have WC:=qqh (ic.out.below (below_drewN (Below.refl W3.heap.size W3) nq));have ej:=qqh (bN.out.drewN nq);have x0:(W3.drewN nq).cell? ⟨M,0,none⟩=some (.pointer (some ⟨b,0,none⟩)):=t0;have x3:(W3.drewN nq).cell? ⟨rb,ro+k*7+3,none⟩=some (.slice A2 r.source.length c2):=t3;generalize hW4:W3.drewN nq=W4 at *;have Tk:=qqh (NP (WC.out.buf.below (az (Below.refl W4.heap.size W4))) r.source.length hfit);clear hW4 t0 t1 t3 t5 tw aS hgt;go_upto_region 13 with fail;refine av (S:=fun w'=>w'.cell? ⟨M,0,none⟩=some (.pointer (some ⟨b,0,none⟩))∧w'.cell? ⟨rb,ro+k*7+3,none⟩=some (.slice A2 r.source.length c2)) [3,7] (by kernel_rfl) ⟨x0,x3⟩ (fun aX=>?_);refine tq 0 80 ?_;(try simp only [zp,za,z0,zs]);refine tq 1 81 ?_;(try simp only [zp,za,z0,zs])
 refine tq 2 82 ?_;(try simp only [zp,za,z0,zs]);refine tu 3 83 ?_;(try simp only [zp,za,z0,zs]);refine tq 4 84 ?_;(try simp only [zp,za,z0,zs]);refine tq 5 85 ?_;(try simp only [zp,za,z0,zs]);refine tq 6 86 ?_;(try simp only [zp,za,z0,zs]);refine tu 7 87 ?_;(try simp only [zp,za,z0,zs]);refine tq 8 88 ?_;(try simp only [zp,za,z0,zs]);refine aA (i:=9) (by kernel_rfl) rfl (by kernel_rfl) (fun K hK=>?_);go_simp;go_at_call 142;refine Tk.out.mono ?_;rintro e w5 ⟨rfl,qP,hkp⟩;have Sh:=qqh (WC.out.kp ((Kp.refl lo W4).drew.trans hkp) qP);have cZ:=qqh (ej.out.trans (Kq.kp ((Kp.refl lo W4).drew.trans hkp)));clear qP hkp Tk;(try dsimp only);refine hK.out _ _ ?_;clear hK K;(try simp only [Act.put,List.setIfInBounds_toArray,List.set_cons_zero,List.set_cons_succ]);refine aI (by kernel_rfl) ?_ _;go_simp;obtain⟨rb',YU,B2,B4,d2,d4,e9,_,_,x5,_,N9⟩:=Sh.out.rule HK.out;cases e9;have x0:w5.cell? ⟨M,0,none⟩=some (.pointer (some ⟨b,0,none⟩)):=Sh.out.blk.cell 0;have VX:=qqh (Na (c2:=d4) (Sh.out.buf.below (az (Below.refl w5.heap.size w5))) r.target B4 r.target.length (N9.keep (aa.any (az (Below.refl _ _)))) Uf (by rw [List.length_drop];omega));clear N9 x3;go_upto_region 14 with fail;refine av (S:=fun w'=>w'.cell? ⟨M,0,none⟩=some (.pointer (some ⟨b,0,none⟩))∧w'.cell? ⟨rb,ro+k*7+5,none⟩=some (.slice B4 r.target.length d4)) [3,7] (by kernel_rfl) ⟨x0,x5⟩ (fun aX=>?_);refine tq 0 90 ?_;(try simp only [zp,za,z0,zs]);refine tq 1 91 ?_;(try simp only [zp,za,z0,zs]);refine tq 2 92 ?_;(try simp only [zp,za,z0,zs]);refine tu 3 93 ?_;(try simp only [zp,za,z0,zs]);refine tq 4 94 ?_;(try simp only [zp,za,z0,zs]);refine tq 5 95 ?_;(try simp only [zp,za,z0,zs]);refine tq 6 96 ?_;(try simp only [zp,za,z0,zs]);refine tu 7 97 ?_;(try simp only [zp,za,z0,zs])
 refine aA (i:=8) (by kernel_rfl) rfl (by kernel_rfl) (fun K hK=>?_);go_simp;go_at_call 143;refine VX.out.mono ?_;rintro e w6 ⟨rfl,qP,hkp⟩;have RT:=qqh (Sh.out.kp ((Kp.refl lo w5).drew.trans hkp) qP);have gG:=qqh (cZ.out.trans (Kq.kp ((Kp.refl lo w5).drew.trans hkp)));clear qP hkp VX;(try dsimp only);refine hK.out _ _ ?_;clear hK K;(try simp only [Act.put,List.setIfInBounds_toArray,List.set_cons_zero,List.set_cons_succ]);refine aI (by kernel_rfl) ?_ _;go_simp;obtain⟨rb',YU,C2,C4,g2,g4,e9,_,_,_,x6,_⟩:=RT.out.rule HK.out;cases e9;have x0:w6.cell? ⟨M,0,none⟩=some (.pointer (some ⟨b,0,none⟩)):=RT.out.blk.cell 0;obtain⟨cu,Oi⟩:∃ cu:Nat,r.af=(cu:Int):=⟨r.af.toNat,by omega⟩;have sV:=qqh (show Calls Tryz.prog 141 #[.pointer (some ⟨b,0,none⟩),.int .i64 ((A.length:Int)+r.af)] w6.drew _ by
  have:=BX (RT.out.buf.below (az (Below.refl w6.heap.size w6))) (A.length+r.af.toNat) (by rw [List.length_append,List.length_drop];omega);rwa [show((A.length+r.af.toNat:Nat):Int)=(A.length:Int)+r.af by omega]at this)
 clear x5 Oi;go_upto_region 15 with fail;refine av (S:=fun w'=>w'.cell? ⟨M,0,none⟩=some (.pointer (some ⟨b,0,none⟩))∧w'.cell? ⟨rb,ro+k*7+6,none⟩=some (.int .i64 r.af)) [3,8] (by kernel_rfl) ⟨x0,x6⟩ (fun aX=>?_);refine tq 0 99 ?_;(try simp only [zp,za,z0,zs]);refine tq 1 100 ?_;(try simp only [zp,za,z0,zs]);refine tq 2 101 ?_;(try simp only [zp,za,z0,zs]);refine tu 3 102 ?_;(try simp only [zp,za,z0,zs]);refine tq 4 103 ?_;(try simp only [zp,za,z0,zs]);refine tq 5 104 ?_;(try simp only [zp,za,z0,zs]);refine tq 6 105 ?_;(try simp only [zp,za,z0,zs]);refine tq 7 106 ?_;(try simp only [zp,za,z0,zs]);refine tu 8 107 ?_;(try simp only [zp,za,z0,zs]);refine tq 9 108 ?_;(try simp only [zp,za,z0,zs]);refine aA (i:=10) (by kernel_rfl) rfl (by kernel_rfl) (fun K hK=>?_);go_simp;go_at_call 141;refine sV.out.mono ?_;rintro e w7 ⟨rfl,qP,hkp⟩;have ZV:=qqh (RT.out.kp ((Kp.refl lo w6).drew.trans hkp) qP);have jq:=qqh (gG.out.trans (Kq.kp ((Kp.refl lo w6).drew.trans hkp)));clear qP hkp sV;(try dsimp only);refine hK.out _ _ ?_;clear hK K;(try simp only [Act.put,List.setIfInBounds_toArray,List.set_cons_zero,List.set_cons_succ]);refine aI (by kernel_rfl) ?_ _;go_simp;go_wp2_with fail;go_ret2;exact⟨rfl,ZV.out,jq.out⟩
theorem Ih {lo:Nat} {w:World} {M b:Nat} {A Z:List Int} {l:List ax} {hs:List bF} {Ar:Option Addr} {nr cr:Nat} {Ah:Option Addr} {nh ch:Nat} {bI s p:Nat} (h:dr lo w M b A Z l hs Ar nr cr Ah nh ch bI s p) (z:Int) (Z':List Int) (hZ:Z=z::Z') (x:Int) (hx:(A++Z)[A.length]? = some x) (hx0:0≤x∧x≤1114111) (hT:(A++Z).length≤4000) (Mr:nh≤400) (oO:fT l hs 1114112) (hR:∀ r∈l,cX r) (hlen:l.length≤200) (kA:bI≤100000)  (hs1:s<bI) (yu:cH l (A++Z) A.length = -1) :
    Calls Tryz.prog 126 #[.pointer (some ⟨M,0,none⟩)] w fun e w'=>e=.returned (.tuple #[.int .i64 (-1),.int .i64 0])∧dr lo w' M b (A++[z]) Z' l hs Ar nr cr Ah nh ch bI ((s:Int)+1) p∧Below lo w w' :=
  (BY h z Z' hZ x hx hx0 hT Mr oO hR hlen kA hs1 yu).mono fun _ _ ⟨e,h1,h2⟩=>⟨e,h1,h2.below⟩
theorem Gg {lo:Nat} {w:World} {M b:Nat} {A Z:List Int} {l:List ax} {hs:List bF} {Ar:Option Addr} {nr cr:Nat} {Ah:Option Addr} {nh ch:Nat} {bI s p:Nat} (h:dr lo w M b A Z l hs Ar nr cr Ah nh ch bI s p) (k:Nat) (r:ax) (hk:l[k]? = some r) (x:Int) (hx:(A++Z)[A.length]? = some x) (hx0:0≤x∧x≤1114111) (hT:(A++Z).length≤4000) (Mr:nh≤400) (oO:fT l hs 1114112) (hR:∀ r∈l,cX r) (hlen:l.length≤200) (kA:bI≤100000)  (hpb:p≤100000) (hs1:s<bI) (yu:cH l (A++Z) A.length=(k:Int)) (hfit:r.source.length≤Z.length) (vB:A.length+Z.length+r.target.length≤4000+r.source.length) :
    Calls Tryz.prog 126 #[.pointer (some ⟨M,0,none⟩)] w fun e w'=>e=.returned (.tuple #[.int .i64 k,.int .i64 0]) ∧
      dr lo w' M b ((A++r.target++Z.drop r.source.length).take (A.length+r.af.toNat)) ((A++r.target++Z.drop r.source.length).drop (A.length+r.af.toNat)) l hs Ar nr cr Ah nh ch bI ((s:Int)+1) ((p:Int)+1)∧Below lo w w' :=
  (Cw h k r hk x hx hx0 hT Mr oO hR hlen kA hpb hs1 yu hfit vB).mono fun _ _ ⟨e,h1,h2⟩=>⟨e,h1,h2.below⟩
structure DL where
  text:List Int
  steps:Nat
  put:Nat
def iP:DL:=⟨[],0,0⟩
def ez (l:List ax):Nat→List Int→List Int→Nat→Nat→DL × Int
  | _,done,[],s,p=>(⟨done,s,p⟩,0)
  | 0,_,_::_,_,_=>(iP,9)
  | left+1,done,z::rest,s,p=>
    if cH l (done++z::rest) done.length<0 then ez l left (done++[z]) rest (s+1) p
    else match l[(cH l (done++z::rest) done.length).toNat]? with
      | none=>(iP,0)
      | some r=>
        if 4000<done.length+(r.target++(z::rest).drop r.source.length).length then (iP,4)
        else ez l left (done++(r.target++(z::rest).drop r.source.length).take r.af.toNat) ((r.target++(z::rest).drop r.source.length).drop r.af.toNat) (s+1) (p+1)
def dS (t:List Int):Int:=if 4000<t.length then 4 else if cC t=true then 3 else 0
def sB (o:DL × Int):DL × (Int × Int):=if o.2≠0 then (iP,(o.2,0))else (o.1,(0,0))
theorem lF (l:List ax) (left:Nat) (done:List Int) (s p:Nat):ez l left done [] s p=(⟨done,s,p⟩,0):=by cases left <;> rfl
theorem Dz (l:List ax) {Z:List Int} (done:List Int) (s p:Nat) (h:Z ≠ []):ez l 0 done Z s p=(iP,9):=by
 cases Z with
 | nil=>exact absurd rfl h
 | cons z Z=>rfl
theorem um {l:List ax} {left:Nat} {done rest:List Int} {z:Int} {s p:Nat} (h:cH l (done++z::rest) done.length = -1):ez l (left+1) done (z::rest) s p=ez l left (done++[z]) rest (s+1) p:=by
 rw [ez,if_pos (by rw [h];decide)]
theorem vQ {l:List ax} {left:Nat} {done rest:List Int} {z:Int} {s p k:Nat} {r:ax} (h:cH l (done++z::rest) done.length=(k:Int)) (hk:l[k]? = some r) (hm:4000<done.length+(r.target++(z::rest).drop r.source.length).length) :
    ez l (left+1) done (z::rest) s p=(iP,4):=by
 rw [ez,if_neg (by rw [h];omega),h,Int.toNat_natCast,hk];simp only;rw [if_pos hm]
theorem uj {l:List ax} {left:Nat} {done rest:List Int} {z:Int} {s p k:Nat} {r:ax} (h:cH l (done++z::rest) done.length=(k:Int)) (hk:l[k]? = some r) (hm:¬ 4000<done.length+(r.target++(z::rest).drop r.source.length).length) :
    ez l (left+1) done (z::rest) s p=ez l left (done++(r.target++(z::rest).drop r.source.length).take r.af.toNat) ((r.target++(z::rest).drop r.source.length).drop r.af.toNat) (s+1) (p+1):=by
 rw [ez,if_neg (by rw [h];omega),h,Int.toNat_natCast,hk];simp only;rw [if_neg hm]
theorem xU {r:ax} {A Z:List Int} (h:eu r (A++Z) A.length=true):r.source.length≤Z.length:=by
 have h1:kj (A++Z) A.length r.source=true:=by
  unfold eu at h;simp only [Bool.and_eq_true]at h;exact h.1.1.1.1
 unfold kj at h1;split at h1
 ·cases h1
 rename_i hn;rw [not_or,List.length_append]at hn;omega
def Runes (t:List Int):Prop:=∀ x∈t,0≤x∧x≤1114111
theorem BV {t:List Int} (h:cC t=false):Runes t:=by
 intro x hx;unfold cC at h;have h2:cV x=true:=by
  have:=List.any_eq_false.1 h x hx;simpa using this
 unfold cV at h2;simp at h2;omega
theorem E8 (x:Int) (w:World):Calls Tryz.prog 49 #[.int .i32 x] w fun e w'=>e=.returned (.bool (!cV x))∧w'=w:=by
 go_enter Tryz.func49,Tryz.ntmps49;go_wp2_with fail;refine(gn _ _).mono ?_;rintro e w1 ⟨rfl,rfl⟩;go_wp2_with fail;go_ret;exact⟨rfl,rfl⟩
theorem KC (A:Option Addr) (n c:Nat) (l:List Int) (w:World) (hn:n≤9223372036854775807) (hl:pN w w.heap.size A n l) :
    Calls Tryz.prog 83 #[.slice A n c,.func (.func 49) #[] #[]] w fun e w'=>(∃ k:Int,e=.returned (.int .i64 k)∧decide (0≤k)=cC l)∧Below w.heap.size w w':=by
 have aS:=qqh hl.len;have HL:=qqh hl;clear hl;go_enter Tryz.func83,Tryz.ntmps83;go_wp2_with fail;go_loopw [8] (OY w l n) (fun i _=>n - (intOf i).toNat);(case atStart=>exact⟨0,Nat.zero_le _,rfl,rfl,Below.refl _ _⟩);obtain⟨j,hj,rfl,aY,hb⟩:=hrel;by_cases hlt:j<n
 ·obtain⟨x,hx⟩:∃ z,l[j]? = some z:=⟨_,List.getElem?_eq_getElem (by rw [aS.out];exact hlt)⟩;obtain⟨b,off,rfl,dL,c0⟩:=HL.out.at hlt;rw [show l.getD j 0=x by simp [List.getD,hx]]at c0;have d0:=(hb.cell (p:=⟨b,off+j,none⟩) dL).trans c0;rw [dH hx,show cC (x::l.drop (j+1))=(!cV x || cC (l.drop (j+1))) from rfl]at aY;have HG:=qqh aY;have HX:=qqh hx;clear aY hx c0;go_wp2_with fail;refine(E8 _ _).mono ?_;rintro e w1 ⟨rfl,rfl⟩;cases hr:cV x
  ·have HR:=qqh hr;clear hr;go_wp2_with fail;go_ret;refine⟨⟨_,rfl,?_⟩,hb⟩;rw [HG.out,HR.out];simp
  have HR:=qqh hr;clear hr;go_wp2_with fail;exact⟨⟨j+1,by omega,by go_num,by rw [HG.out,HR.out];rfl,hb⟩,by simp [intOf];omega⟩
 obtain rfl:j=n:=(by omega);rw [List.drop_of_length_le (by rw [aS.out];omega)]at aY;have HG:=qqh (aY.trans (show cC [] = false from rfl));clear aY;go_wp2_with fail;go_ret;exact⟨⟨_,rfl,by rw [HG.out];rfl⟩,hb⟩
theorem Bq (A:Option Addr) (n c:Nat) (l:List Int) (w:World) (hn:n≤9223372036854775807) (hl:pN w w.heap.size A n l) :
    Calls Tryz.prog 48 #[.slice A n c,.func (.func 49) #[] #[]] w fun e w'=>e=.returned (.bool (cC l))∧Below w.heap.size w w':=by
 have H:=qqh (KC A n c l w hn hl);clear hl;go_enter Tryz.func48,Tryz.ntmps48;go_wp2_with fail;refine H.out.mono ?_;rintro e w1 ⟨⟨k,rfl,hk⟩,hb⟩;have HK:=qqh hk;clear hk;go_wp2_with fail;go_ret;refine⟨?_,hb⟩;rw [← HK.out];rfl
theorem oI (A:Option Addr) (n c:Nat) (t:List Int) (w:World) (hn:n≤maxLen) (ht:pN w w.heap.size A n t) :
    Calls Tryz.prog 18 #[.slice A n c] w fun e w'=>e=.returned (.int .i64 (dS t))∧Below w.heap.size w w':=by
 have hl:=ht.len;simp only [maxLen]at hn;have HC:=qqh (Bq A n c t w (by omega) ht);clear ht;by_cases h4:4000<n
 ·have HP:=qqh (show dS t=4 by unfold dS;rw [if_pos (by rw [hl];exact h4)]);clear hl;go_enter Tryz.func18,Tryz.ntmps18;go_wp2_with fail;go_ret;rw [HP.out];exact⟨rfl,Below.refl _ _⟩
 have HP:=qqh (show dS t=if cC t=true then 3 else 0 by unfold dS;rw [if_neg (by rw [hl];exact h4)]);clear hl;go_enter Tryz.func18,Tryz.ntmps18;go_wp2_with fail;refine HC.out.mono ?_;rintro e w1 ⟨rfl,hb⟩;have HB:=qqh hb;clear hb;cases SX:cC t
 ·have iH:=qqh (show dS t=0 by rw [HP.out,SX];rfl);go_wp2_with fail;go_ret;rw [iH.out];exact⟨rfl,HB.out⟩
 have iH:=qqh (show dS t=3 by rw [HP.out,SX];rfl);go_wp2_with fail;go_ret;rw [iH.out];exact⟨rfl,HB.out⟩
theorem qW (n:Nat) (hn:n≤4000) (w:World):Calls Tryz.prog 35 #[.int .i64 n] w fun e w'=>e=.returned (.int .i64 (8*n+40:Nat))∧w'=w:=by
 have h:((8*n+40:Nat):Int)=8*(n:Int)+40:=(by omega);rw [h];clear h;go_enter Tryz.func35,Tryz.ntmps35;go_wp2_with fail;go_ret;exact⟨rfl,rfl⟩
def wu (w:World) (X:Nat→Prop) (l:List ag) (xs:List Value):Prop:=xs.length=l.length∧∀ (i:Nat) (s:ag) (u:Value),l[i]? = some s→xs[i]? = some u→iD w X s u
theorem wu.keep {w w':World} {X X':Nat→Prop} {l:List ag} {xs:List Value} (hk:aa w X w' X') (h:wu w X l xs):wu w' X' l xs:=⟨h.1,fun i s u h1 h2=>(h.2 i s u h1 h2).keep hk⟩
theorem oz {t:TypeId} {name:String} {path:List FieldStep} {f:FuncId} (h:(Tryz.prog.info? t).map (fun i=>(i.methods.find? (·.name == name)).map fun m=>(m.path.toList,m.func))=some (some (path,some (f,false)))) :
    ∃ i,Tryz.prog.info? t=some i∧∃ m,i.methods.find? (·.name == name)=some m∧m.path.toList=path∧m.func=some (f,false):=by
 obtain⟨i,hi,h2⟩:=Option.map_eq_some_iff.1 h;obtain⟨m,hm,h3⟩:=Option.map_eq_some_iff.1 h2;simp only [Prod.mk.injEq]at h3;exact⟨i,hi,m,hm,h3.1,h3.2⟩
theorem En (v:Value) (w:World):(method 391 86 v "Len").run Tryz.prog w=.ok (227,v) w:=by
 obtain⟨i,hi,m,hm,hp,hf⟩:=oz (t:=86) (name:="Len") (path:=[]) (f:=227) (by kernel_rfl);unfold method;simp [go_sem,typeInfo,hi,hm,hp,hf,follow,receiverAt,Place.get,loadVar]
theorem BJ (v:Value) (w:World):(method 391 86 v "Rune").run Tryz.prog w=.ok (228,v) w:=by
 obtain⟨i,hi,m,hm,hp,hf⟩:=oz (t:=86) (name:="Rune") (path:=[]) (f:=228) (by kernel_rfl);unfold method;simp [go_sem,typeInfo,hi,hm,hp,hf,follow,receiverAt,Place.get,loadVar]
theorem Bh:∀ args w,(callFunc 227 args).run Tryz.prog w=.ok (.enter 227 args) w:=enters_of Tryz.func227 (by kernel_rfl) rfl
theorem yV:∀ args w,(callFunc 228 args).run Tryz.prog w=.ok (.enter 228 args) w:=enters_of Tryz.func228 (by kernel_rfl) rfl
theorem JT (A:Option Addr) (n c:Nat) (w:World):Calls Tryz.prog 227 #[.slice A n c] w fun e w'=>e=.returned (.int .i64 n)∧∃ k,w'=w.drewN k:=by
 go_enter Tryz.func227,Tryz.ntmps227;go_wp2_with fail;go_ret;exact⟨rfl,0,rfl⟩
theorem IX (A:Option Addr) (n c:Nat) (T:List Int) (w:World) (h:pN w w.heap.size A n T) (hn:n≤100000) (k:Nat) (x:Int) (hx:T[k]? = some x) :
    Calls Tryz.prog 228 #[.slice A n c,.int .i64 k] w fun e w'=>e=.returned (.int .i32 x)∧∃ k,w'=w.drewN k:=by
 have hk:k<n:=(by have:=(List.getElem?_eq_some_iff.1 hx).1;have:=h.len;omega);obtain⟨b,off,e,hb,hc⟩:=h.2 (by omega);subst e;have h0:w.cell? ⟨b,off+k,none⟩=some (.int .i32 x):=hc k _ (by simp [runeCells,hx]);have hk0:(0:Int)≤(k:Int):=(by omega);have hk1:(k:Int)<(n:Int):=(by omega);clear hc hx h;go_enter Tryz.func228,Tryz.ntmps228;go_wp2_with fail;go_ret;exact⟨rfl,0,rfl⟩
def Wg (A:Option Addr) (n:Nat) (T:List Int) (w:World):Prop:=pN w w.heap.size A n T
theorem GH (A:Option Addr) (n c:Nat) (T:List Int) (hn:n≤100000) (hT:T.length=n):FQ 86 (.slice A n c) (.slice A n c) 227 228 T (Wg A n T) where
  enterL:=Bh
  enterR:=yV
  ml:=fun w _=>En _ w
  mr:=fun w _=>BJ _ w
  len:=fun w _=>by rw [hT];exact JT A n c w
  rune:=fun w k x h hx=>IX A n c T w h hn k x hx
  keep:=fun w w' h hb=>(Rd.below h hb).more hb.size
theorem Gq (X:Nat→Prop) (r:ax) (A1 A2 A3 A4 At:Option Addr) (n1 c1 n2 c2 n3 c3 n4 c4 nt ct q b1 b2:Nat) (T:List Int) (w:World) (hr:cX r) (s1:eU w X r.before (.slice A1 n1 c1)) (s2:eU w X r.source (.slice A2 n2 c2)) (s3:eU w X r.after (.slice A3 n3 c3)) (s4:cy w X 1 A4 n4 (runeCells r.target))
    (hn:nt≤100000) (hq:q≤nt) (ht:pN w w.heap.size At nt T) (h1:aj w b1 128 #[.iface 86 (.slice At nt ct)]) (h2:aj w b2 3 #[.int .i64 q]) :
    Calls Tryz.prog 64 #[.agg #[.bool r.start,.bool r.fin,.slice A1 n1 c1,.slice A2 n2 c2,.slice A3 n3 c3,.slice A4 n4 c4,.int .i64 r.af],.pointer (some ⟨b1,0,none⟩),.pointer (some ⟨b2,0,none⟩)] w fun e w'=>e=.returned (.bool (eu r T q))∧Below w.heap.size w w':=by
 have hba:=(Below.refl w.heap.size w).alloc (Nat.le_refl _) (.cells #[.bool r.start,.bool r.fin,.slice A1 n1 c1,.slice A2 n2 c2,.slice A3 n3 c3,.slice A4 n4 c4,.int .i64 r.af] 89);have hx:=aj.new w 89 #[.bool r.start,.bool r.fin,.slice A1 n1 c1,.slice A2 n2 c2,.slice A3 n3 c3,.slice A4 n4 c4,.int .i64 r.af]
 have pK:rz (w.alloc (.cells #[.bool r.start,.bool r.fin,.slice A1 n1 c1,.slice A2 n2 c2,.slice A3 n3 c3,.slice A4 n4 c4,.int .i64 r.af] 89)) X r w.heap.size 0 A1 A2 A3 A4 n1 c1 n2 c2 n3 c3 n4 c4 :=
   ⟨hx.lt,hx.cell 0,hx.cell 1,hx.cell 2,hx.cell 3,hx.cell 4,hx.cell 5,hx.cell 6,s1.keep (aa.any hba),s2.keep (aa.any hba),s3.keep (aa.any hba),s4.keep (aa.any hba)⟩
 have HH:=qqh (vn (GH At nt ct T hn ht.len) X r w.heap.size 0 A1 A2 A3 A4 n1 c1 n2 c2 n3 c3 n4 c4 q _ (by rw [ht.len];exact hn) (by rw [ht.len];exact hq) hr pK ((Rd.below ht hba).more hba.size));have u1:=(h1.alloc (.cells #[.bool r.start,.bool r.fin,.slice A1 n1 c1,.slice A2 n2 c2,.slice A3 n3 c3,.slice A4 n4 c4,.int .i64 r.af] 89)).cell 0;have u2:=(h2.alloc (.cells #[.bool r.start,.bool r.fin,.slice A1 n1 c1,.slice A2 n2 c2,.slice A3 n3 c3,.slice A4 n4 c4,.int .i64 r.af] 89)).cell 0;have AF:=qqh hba;clear hx pK hba s1 s2 s3 s4 ht h1 h2 hr;go_enter Tryz.func64,Tryz.ntmps64;go_upto_region 1 with fail;generalize w.alloc (.cells #[.bool r.start,.bool r.fin,.slice A1 n1 c1,.slice A2 n2 c2,.slice A3 n3 c3,.slice A4 n4 c4,.int .i64 r.af] 89)=W1 at *;go_wp2_with fail;refine HH.out.mono ?_;rintro e w2 ⟨rfl,aQ⟩;have bt:=qqh (AF.out.trans (aQ.mono AF.out.size));clear aQ;go_wp2_with fail;go_ret;exact⟨rfl,bt.out⟩
def VV (w:World) (l:List ax) (T:List Int) (q n:Nat) (i:Value) (wr:World):Prop :=
  ∃ k:Nat,k≤n∧i=.int .i64 k∧cH l T q=cM l T q ((upTo n).drop k)∧Below w.heap.size w wr
theorem Qf {n k:Nat} (h:k<n):(upTo n).drop k=(k:Int)::(upTo n).drop (k+1):=by
 have hl:k<(upTo n).length:=(by simp [upTo,h]);rw [List.drop_eq_getElem_cons hl];simp [upTo]
theorem Qw (n:Nat):(upTo n).drop n = []:=by
 apply List.drop_of_length_le;simp [upTo]
theorem Cx (X:Nat→Prop) (l:List ax) (A At:Option Addr) (n c nt ct q b1 b2:Nat) (T:List Int) (w:World) (hn:n≤maxLen) (hR:∀ r∈l,cX r) (hl:bh (aO w X) w X 7 A n l)
    (hnt:nt≤100000) (hq:q≤nt) (ht:pN w w.heap.size At nt T) (h1:aj w b1 128 #[.iface 86 (.slice At nt ct)]) (h2:aj w b2 3 #[.int .i64 q]) :
    Calls Tryz.prog 63 #[.slice A n c,.func (.func 64) #[] #[.pointer (some ⟨b1,0,none⟩),.pointer (some ⟨b2,0,none⟩)]] w fun e w'=>e=.returned (.int .i64 (cH l T q))∧Below w.heap.size w w':=by
 have aS:=qqh (show l.length=n from hl.len);have HL:=qqh hl;have HT:=qqh ht;have H1:=qqh h1;have H2:=qqh h2;have jz:=qqh hR;have H0:=qqh (show cH l T q=cM l T q ((upTo n).drop 0) by unfold cH;rw [aS.out];rfl);clear hl ht hR h1 h2;simp only [maxLen]at hn;go_enter Tryz.func63,Tryz.ntmps63;go_wp2_with fail;go_loopw [8] (VV w l T q n) (fun i _=>n - (intOf i).toNat);(case atStart=>exact⟨0,Nat.zero_le _,rfl,H0.out,Below.refl _ _⟩);obtain⟨k,hk,rfl,aY,hb⟩:=hrel;by_cases hlt:k<n
 ·obtain⟨r,hr⟩:∃ z,l[k]? = some z:=⟨_,List.getElem?_eq_getElem (by rw [aS.out];exact hlt)⟩;obtain⟨b,off,A1,A2,A3,A4,n1,c1,n2,c2,n3,c3,n4,c4,rfl,_,dL,⟨d0,d1,d2,d3,d4,d5,d6⟩,s1,s2,s3,s4,AI⟩:=lV (HL.out.keep (aa.any hb) (fun _ _=>aO.keep (aa.any hb))) hr;rw [Qf hlt,cM,show hereAt l T q (k:Int)=eu r T q by unfold hereAt;rw [Int.toNat_natCast,hr]]at aY;have ep:=qqh aY;have HB:=qqh hb;have HM:=qqh (Gq X r A1 A2 A3 A4 At n1 c1 n2 c2 n3 c3 n4 c4 nt ct q b1 b2 T wr (jz.out r (List.mem_of_getElem? hr)) s1 s2 s3 s4 hnt hq ((Rd.below HT.out hb).more hb.size) (aj.below H1.out hb H1.out.lt) (aj.below H2.out hb H2.out.lt));clear aY hr hb s1 s2 s3 s4 AI;go_wp2_with fail;refine HM.out.mono ?_;rintro e w9 ⟨rfl,cF⟩;have eE:=qqh (HB.out.trans (cF.mono HB.out.size));clear cF;cases hh:eu r T q
  ·have HG:=qqh (ep.out.trans (by rw [hh,if_neg (by decide)]));clear hh;go_wp2_with fail;exact⟨⟨k+1,by omega,by go_num,HG.out,eE.out⟩,by simp [intOf];omega⟩
  have HG:=qqh (ep.out.trans (by rw [hh,if_pos rfl]));clear hh;go_wp2_with fail;go_ret;exact⟨nJ HG.out.symm,eE.out⟩
 obtain rfl:k=n:=(by omega);rw [Qw,cM]at aY;have HG:=qqh aY;clear aY;go_wp2_with fail;go_ret;exact⟨nJ HG.out.symm,hb⟩
theorem G8 (X:Nat→Prop) (l:List ax) (A At:Option Addr) (n c nt ct q:Nat) (T:List Int) (w:World) (hn:n≤maxLen) (hR:∀ r∈l,cX r) (hl:bh (aO w X) w X 7 A n l)
    (hnt:nt≤100000) (hq:q≤nt) (ht:pN w w.heap.size At nt T) :
    Calls Tryz.prog 36 #[.slice A n c,.iface 86 (.slice At nt ct),.int .i64 q] w fun e w'=>e=.returned (.int .i64 (cH l T q))∧Below w.heap.size w w':=by
 have hba:=((Below.refl w.heap.size w).alloc (Nat.le_refl _) (.cells #[.iface 86 (.slice At nt ct)] 128)).alloc (by simp) (.cells #[.int .i64 q] 3);have H:=qqh (Cx X l A At n c nt ct q w.heap.size (w.heap.size+1) T _ hn hR (hl.keep (aa.any hba) (fun _ _=>aO.keep (aa.any hba))) hnt hq ((Rd.below ht hba).more hba.size) (aj.alloc (aj.new w _ _) _) (by
  have:=aj.new (w.alloc (.cells #[.iface 86 (.slice At nt ct)] 128)) 3 #[.int .i64 q];simpa using this))
 have AF:=qqh hba;clear hba hl ht hR;go_enter Tryz.func36,Tryz.ntmps36;go_wp2_with fail;refine H.out.mono ?_;rintro e w2 ⟨rfl,aQ⟩;have bt:=qqh (AF.out.trans (aQ.mono AF.out.size));clear aQ;go_wp2_with fail;go_ret;exact⟨rfl,bt.out⟩
end Go.Proofs.YtkggjgeihhialaaGreatDoor
