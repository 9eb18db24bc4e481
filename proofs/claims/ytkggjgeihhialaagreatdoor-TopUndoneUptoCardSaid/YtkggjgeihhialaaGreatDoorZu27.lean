/- MachAll + RunP + RefMatch -/
import Derived.Test.YtkggjgeihhialaaGreatDoorZu25
import Derived.Test.YtkggjgeihhialaaGreatDoorZu24
import Derived.Test.YtkggjgeihhialaaGreatDoorZu17
import Derived.Test.YtkggjgeihhialaaGreatDoorZu16
import Derived.BigRegion
set_option maxHeartbeats 6400000
set_option maxRecDepth 100000
namespace Go.Proofs.YtkggjgeihhialaaGreatDoor
open Go.RowKit
theorem qF {t:TypeId} {name:String} {path:List FieldStep} {f:FuncId} (h:(Tryz.prog.info? t).map (fun i=>(i.methods.find? (·.name == name)).map fun m=>(m.path.toList,m.func))=some (some (path,some (f,true)))) :
    ∃ i,Tryz.prog.info? t=some i∧∃ m,i.methods.find? (·.name == name)=some m∧m.path.toList=path∧m.func=some (f,true):=by
 obtain⟨i,hi,h2⟩:=Option.map_eq_some_iff.1 h;obtain⟨m,hm,h3⟩:=Option.map_eq_some_iff.1 h2;simp only [Prod.mk.injEq]at h3;exact⟨i,hi,m,hm,h3.1,h3.2⟩
theorem Lb (M:Nat) (w:World) (v:Value) (h:w.cell? ⟨M,0,none⟩=some v):(method 391 190 (.pointer (some ⟨M,0,none⟩)) "Len").run Tryz.prog w=.ok (125,v) w:=by
 obtain⟨i,hi,m,hm,hp,hf⟩:=qF (t:=190) (name:="Len") (path:=[⟨194,0,true⟩]) (f:=125) (by kernel_rfl);unfold method;simp [go_sem,typeInfo,hi,hm,hp,hf,follow,receiverAt,Place.get,loadVar,h]
theorem JK (M:Nat) (w:World) (v:Value) (h:w.cell? ⟨M,0,none⟩=some v):(method 391 190 (.pointer (some ⟨M,0,none⟩)) "Rune").run Tryz.prog w=.ok (150,v) w:=by
 obtain⟨i,hi,m,hm,hp,hf⟩:=qF (t:=190) (name:="Rune") (path:=[⟨194,0,true⟩]) (f:=150) (by kernel_rfl);unfold method;simp [go_sem,typeInfo,hi,hm,hp,hf,follow,receiverAt,Place.get,loadVar,h]
theorem E5:∀ args w,(callFunc 125 args).run Tryz.prog w=.ok (.enter 125 args) w:=enters_of Tryz.func125 (by kernel_rfl) rfl
theorem Dm:∀ args w,(callFunc 150 args).run Tryz.prog w=.ok (.enter 150 args) w:=enters_of Tryz.func150 (by kernel_rfl) rfl
def WC (lo M b:Nat) (A Z:List Int) (w:World):Prop:=w.cell? ⟨M,0,none⟩=some (.pointer (some ⟨b,0,none⟩))∧M<w.heap.size∧wY lo w b A Z
theorem JX (lo M b:Nat) (A Z:List Int):GB 190 (.pointer (some ⟨M,0,none⟩)) (.pointer (some ⟨b,0,none⟩)) 125 150 (A++Z) (WC lo M b A Z) where
  enterL:=E5
  enterR:=Dm
  ml:=fun w h=>Lb M w _ h.1
  mr:=fun w h=>JK M w _ h.1
  len:=fun w h=>by
    have:=uQ h.2.2
    rwa [← List.length_append]at this
  rune:=fun w k x h hx=>C8 h.2.2 k x hx
  keep:=fun w w' h hb=>⟨(hb.cell (p:=⟨M,0,none⟩) h.2.1).trans h.1,Nat.lt_of_lt_of_le h.2.1 hb.size,h.2.2.below hb⟩
def hereAt (l:List ai) (T:List Int) (q:Nat) (k:Int):Bool:=match l[k.toNat]? with | some r=>ec r T q | none=>false
def ck (l:List ai) (T:List Int) (q:Nat):List Int→Int
  | []=>-1
  | k::ks=>if hereAt l T q k=true then k else ck l T q ks
def upTo (n:Nat):List Int:=(List.range n).map fun i:Nat=>(i:Int)
def bM (l:List ai) (T:List Int) (q:Nat):Int:=ck l T q (upTo l.length)
theorem wZ (l:List ai) (T:List Int) (q:Nat) (m:Nat→Bool):∀ (ks:List Nat),(∀ k∈ks,m k=false→hereAt l T q (k:Int)=false)→ck l T q ((ks.filter m).map fun i:Nat=>(i:Int))=ck l T q (ks.map fun i:Nat=>(i:Int)):=by
 intro ks;induction ks with
 | nil=>intro _;rfl
 | cons k ks ih=>
  intro h;have h2:=ih (fun x hx=>h x (by simp [hx]));cases hm:m k
  ·rw [List.filter_cons_of_neg (by simp [hm]),h2,List.map_cons,ck,if_neg (by rw [h k (by simp) hm];decide)]
  rw [List.filter_cons_of_pos hm,List.map_cons,List.map_cons,ck,ck,h2]
theorem Fo {r:ai} {T:List Int} {q:Nat} {x:Int} (hs:r.source ≠ []) (hx:T[q]? = some x) (h:bf (bP r) x=false):ec r T q=false:=by
 have h1:jR T q r.source=false:=by
  cases hr:r.source with
  | nil=>exact absurd hr hs
  | cons s l=>
   unfold jR;split;rfl;have:bP r=s:=(by unfold bP;rw [hr];rfl);rw [this]at h;rw [Int.toNat_natCast,cW hx,ep,h,Bool.false_and]
 unfold ec;rw [h1];simp
theorem Ec {l:List ai} {T:List Int} {q:Nat} {x:Int} (hs:∀ r∈l,r.source ≠ []) (hx:T[q]? = some x):ck l T q (cQ l x)=bM l T q:=by
 unfold cQ dG bM upTo;refine wZ l T q _ _ (fun k hk hm=>?_);unfold hereAt;rw [Int.toNat_natCast];cases hl:l[k]? with
 | none=>rfl
 | some r=>
  unfold uw at hm;rw [hl]at hm;exact Fo (hs r (List.mem_of_getElem? hl)) hx hm
theorem yp (l:List ai) (T:List Int) (q:Nat):∀ ks:List Int,(∀ k∈ks,0≤k)→ck l T q ks = -1∨∃ (k:Nat) (r:ai),ck l T q ks=(k:Int)∧l[k]? = some r∧ec r T q=true:=by
 intro ks;induction ks with
 | nil=>intro _;exact .inl rfl
 | cons k ks ih=>
  intro h;rw [ck];by_cases hk:hereAt l T q k=true
  ·rw [if_pos hk];right;unfold hereAt at hk;cases hl:l[k.toNat]? with
   | none=>rw [hl]at hk;cases hk
   | some r=>
    rw [hl]at hk;exact⟨k.toNat,r,by have:=h k (by simp);omega,hl,hk⟩
  rw [if_neg hk];exact ih (fun x hx=>h x (by simp [hx]))
theorem fE (l:List ai) (T:List Int) (q:Nat):bM l T q = -1∨∃ (k:Nat) (r:ai),bM l T q=(k:Int)∧l[k]? = some r∧ec r T q=true :=
  yp l T q _ (fun k hk=>by
    unfold upTo at hk
    obtain⟨i,_,rfl⟩:=List.mem_map.1 hk
    omega)
theorem xY (gm gr M blk off n c i:Nat) (r y:Int) (w:World) (hi:i<n) (hm:w.cell? ⟨gm,0,none⟩=some (.pointer (some ⟨M,0,none⟩))) (ha:w.cell? ⟨M,2,none⟩=some (.slice (some ⟨blk,off,none⟩) n c)) (hr:w.cell? ⟨gr,0,none⟩=some (.int .i32 r)) (hc:w.cell? ⟨blk,off+i*3+1,none⟩=some (.int .i32 y)) :
    Calls Tryz.prog 151 (#[.int .i64 i] ++ #[.pointer (some ⟨gm,0,none⟩),.pointer (some ⟨gr,0,none⟩)]) w fun e w'=>e=.returned (.bool (decide (r≤y)))∧Below w.heap.size w w':=by
 have hiz:(i:Int)<(n:Int):=(by omega);go_enter Tryz.func151,Tryz.ntmps151;go_wp2_with fail;go_quiet (fail);go_wp2_with fail;go_ret;exact⟨rfl,below_drewN (Below.refl _ _) _⟩
theorem Be:∀ args w,(callFunc 151 args).run Tryz.prog w=.ok (.enter 151 args) w:=enters_of Tryz.func151 (by kernel_rfl) rfl
def lQ (b:Nat) (Ar:Option Addr) (nr cr:Nat) (Ah:Option Addr) (nh ch:Nat) (cS s p:Int):Array Value:=#[.pointer (some ⟨b,0,none⟩),.slice Ar nr cr,.slice Ah nh ch,.int .i64 cS,.slice none 0 0,.int .i64 s,.int .i64 p]
structure dz (lo:Nat) (w:World) (M b:Nat) (A Z:List Int) (l:List ai) (hs:List bI) (Ar:Option Addr) (nr cr:Nat) (Ah:Option Addr) (nh ch:Nat) (cS s p:Int):Prop where
  ge:lo≤M
  blk:aj w M 194 (lQ b Ar nr cr Ah nh ch cS s p)
  buf:wY lo w b A Z
  rules:bt (aL w (fun x=>x<lo)) w (fun x=>x<lo) 7 Ar nr l
  heads:bt (gM w (fun x=>x<lo)) w (fun x=>x<lo) 3 Ah nh hs
theorem dz.below {lo:Nat} {w w':World} {M b:Nat} {A Z:List Int} {l:List ai} {hs:List bI} {Ar:Option Addr} {nr cr:Nat} {Ah:Option Addr} {nh ch:Nat} {cS s p:Int} (h:dz lo w M b A Z l hs Ar nr cr Ah nh ch cS s p) (hb:Below w.heap.size w w'):dz lo w' M b A Z l hs Ar nr cr Ah nh ch cS s p :=
  ⟨h.ge,aj.below h.blk hb h.blk.lt,h.buf.below hb,h.rules.keep (aa.any hb) (fun _ _=>aL.keep (aa.any hb)),h.heads.keep (aa.any hb) (fun _ _=>gM.keep (aa.any hb))⟩
theorem sC {lo:Nat} {w:World} {M b:Nat} {A Z:List Int} {l:List ai} {hs:List bI} {Ar:Option Addr} {nr cr:Nat} {Ah:Option Addr} {nh ch:Nat} {cS s p:Int} (h:dz lo w M b A Z l hs Ar nr cr Ah nh ch cS s p)
    (x:Int) (hx:(A++Z)[A.length]? = some x) (hx0:0≤x∧x≤1114111) (hT:(A++Z).length≤100000) (NM:nh≤400) (pT:fY l hs 1114112) (hR:∀ r∈l,bQ r) (hlen:l.length≤200) :
    Calls Tryz.prog 140 #[.pointer (some ⟨M,0,none⟩)] w fun e w'=>e=.returned (.int .i64 (bM l (A++Z) A.length))∧Below w.heap.size w w':=by
 have eF:=(Below.refl w.heap.size w).alloc (Nat.le_refl _) (.cells #[.pointer (some ⟨M,0,none⟩)] 190);have H:=qqh h;have HX:=qqh hx;have UN:=qqh pT;have i4:=qqh hR;have Xx:=qqh (show hs.length=nh from h.heads.len);have P8:=qqh (show l.length=nr from h.rules.len);have E6:=qqh (h.below eF);have HG:=qqh (aj.new w 190 #[.pointer (some ⟨M,0,none⟩)]);have dY:=qqh eF;clear h hx pT hR eF;go_enter Tryz.func140,Tryz.ntmps140;go_wp2_with fail;generalize Zr:w.alloc (.cells #[.pointer (some ⟨M,0,none⟩)] 190)=W1 at *;have g0:=HG.out.cell 0;have c0:=E6.out.blk.cell 0;have LZ:=HG.out.lt;have hml:=E6.out.blk.lt;have uf:=qqh (fun(W:World) (hb:Below W1.heap.size W1 W)=>rT (E6.out.buf.below hb));have kS:=qqh (fun(W:World) (hb:Below W1.heap.size W1 W)=>C8 (E6.out.buf.below hb) A.length x HX.out);clear Zr;have HC:=qqh (fun(W:World) (hb:Below W1.heap.size W1 W)=>show W.cell? ⟨w.heap.size,0,none⟩=some (.pointer (some ⟨M,0,none⟩))∧W.cell? ⟨M,0,none⟩=some (.pointer (some ⟨b,0,none⟩)) from⟨(hb.cell (p:=⟨w.heap.size,0,none⟩) LZ).trans g0,(hb.cell (p:=⟨M,0,none⟩) hml).trans c0⟩);go_upto_region 1 with fail;go_cut [3] (fun s3 wx=>∃ G,s3=.pointer (some ⟨G,0,none⟩)∧aj wx G 21 #[.int .i32 x]∧Below W1.heap.size W1 wx);case first=>
  refine ay (S:=fun w'=>w'.cell? ⟨w.heap.size,0,none⟩=some (.pointer (some ⟨M,0,none⟩))∧w'.cell? ⟨M,0,none⟩=some (.pointer (some ⟨b,0,none⟩))) [0,3,4,7] (by kernel_rfl) ⟨g0,c0⟩ (fun bg=>?_);refine tu 0 7 ?_;(try simp only [zp,za,z0,zs]);refine tq 1 8 ?_;(try simp only [zp,za,z0,zs]);refine tq 2 9 ?_;(try simp only [zp,za,z0,zs]);refine tu 3 10 ?_;(try simp only [zp,za,z0,zs]);refine tu 4 11 ?_;(try simp only [zp,za,z0,zs]);refine tq 5 12 ?_;(try simp only [zp,za,z0,zs]);refine tq 6 13 ?_;(try simp only [zp,za,z0,zs]);refine tu 7 14 ?_;(try simp only [zp,za,z0,zs]);refine fu (i:=8) (j:=10) (o:=⟨some 15,_,_,_,_,_⟩) (o2:=⟨some 3,_,_,_,_,_⟩) (by kernel_rfl) rfl rfl (fun K hK=>?_) (fun K hK=>?_)
  ·go_simp;go_at_call 124;refine(uf.out _ (aC (Below.refl W1.heap.size W1))).mono ?_;rintro e w2 ⟨rfl,rfl⟩;(try dsimp only);refine hK.out _ _ ?_ (fun bg=>?_);exact HC.out _ (aC (Below.refl W1.heap.size W1));clear hK K;(try simp only [zp,za,z0,zs]);refine fu (i:=9) (j:=10) (o:=⟨some 16,_,_,_,_,_⟩) (o2:=⟨some 3,_,_,_,_,_⟩) (by kernel_rfl) rfl rfl (fun K hK=>?_) (fun K hK=>?_)
   ·go_simp;go_at_call 150;refine(kS.out _ (aC (Below.refl W1.heap.size W1))).mono ?_;rintro e w2 ⟨rfl,k2,xU⟩;have bD:=qqh (show Below W1.heap.size W1 w2 by rw [xU];exact below_drewN (aC (Below.refl W1.heap.size W1)) k2);clear xU;(try dsimp only);refine hK.out _ _ ?_ (fun bg=>?_);exact HC.out _ bD.out;clear hK K;(try simp only [zp,za,z0,zs]);refine aD (i:=10) (o:=⟨some 3,_,_,_,_,_⟩) (by kernel_rfl) rfl (fun K hK=>?_);go_simp;(try dsimp only);refine hK.out _ _ ?_ (fun bg=>?_);exact HC.out _ (bD.out.alloc bD.out.size _);clear hK K;(try simp only [zp,za,z0,zs]);refine aA (i:=11) (by kernel_rfl) rfl (by kernel_rfl) (fun K hK=>?_);go_simp;(try dsimp only);refine hK.out _ _ ?_;clear hK K;refine aJ (by kernel_rfl) ?_ _;go_simp;go_wp2_with fail;go_meet;exact⟨w2.heap.size,rfl,aj.new _ _ _,bD.out.alloc bD.out.size _⟩
   go_simp;(try dsimp only);refine hK.out _ _ ?_ (fun bg=>?_);exact HC.out _ (aC ((Below.refl W1.heap.size W1).alloc (Nat.le_refl _) (.cells #[.int .i32 0] 21)));clear hK K;(try simp only [Act.put,List.setIfInBounds_toArray,List.set_cons_zero,List.set_cons_succ]);refine aD (i:=9) (o:=⟨some 16,_,_,_,_,_⟩) (by kernel_rfl) rfl (fun K hK=>?_);go_simp;go_at_call 150;refine(kS.out _ (aC ((Below.refl W1.heap.size W1).alloc (Nat.le_refl _) (.cells #[.int .i32 0] 21)))).mono ?_;rintro e w2 ⟨rfl,k2,xU⟩;have bD:=qqh (show Below W1.heap.size W1 w2 by rw [xU];exact below_drewN (aC ((Below.refl W1.heap.size W1).alloc (Nat.le_refl _) (.cells #[.int .i32 0] 21))) k2);have Pa:=qqh (show aj w2 W1.heap.size 21 #[.int .i32 0] by rw [xU];exact aj.new W1 21 #[.int .i32 0]);clear xU;(try dsimp only);refine hK.out _ _ ?_ (fun bg=>?_);exact HC.out _ bD.out;clear hK K;(try simp only [zp,za,z0,zs]);refine aA (i:=11) (by kernel_rfl) rfl (by kernel_rfl) (fun K hK=>?_);have z0:=Pa.out.cell 0;have z1:=Pa.out.frozen 0;go_simp;(try dsimp only);refine hK.out _ _ ?_;clear hK K;refine aJ (by kernel_rfl) ?_ _;go_simp;go_wp2_with fail;go_meet;exact⟨W1.heap.size,rfl,Pa.out.put 0 _,bD.out.setCell (Nat.le_refl _) _⟩
  go_simp;(try dsimp only);refine hK.out _ _ ?_ (fun bg=>?_);exact HC.out _ (aC ((Below.refl W1.heap.size W1).alloc (Nat.le_refl _) (.cells #[.int .i32 0] 21)));clear hK K;(try simp only [Act.put,List.setIfInBounds_toArray,List.set_cons_zero,List.set_cons_succ]);refine aD (i:=8) (o:=⟨some 15,_,_,_,_,_⟩) (by kernel_rfl) rfl (fun K hK=>?_);go_simp;go_at_call 124;refine(uf.out _ (aC ((Below.refl W1.heap.size W1).alloc (Nat.le_refl _) (.cells #[.int .i32 0] 21)))).mono ?_;rintro e w2 ⟨rfl,rfl⟩;(try dsimp only);refine hK.out _ _ ?_ (fun bg=>?_);exact HC.out _ (aC ((Below.refl W1.heap.size W1).alloc (Nat.le_refl _) (.cells #[.int .i32 0] 21)));clear hK K;(try simp only [zp,za,z0,zs]);refine aD (i:=9) (o:=⟨some 16,_,_,_,_,_⟩) (by kernel_rfl) rfl (fun K hK=>?_);go_simp;go_at_call 150;refine(kS.out _ (aC ((Below.refl W1.heap.size W1).alloc (Nat.le_refl _) (.cells #[.int .i32 0] 21)))).mono ?_;rintro e w2 ⟨rfl,k2,xU⟩;have bD:=qqh (show Below W1.heap.size W1 w2 by rw [xU];exact below_drewN (aC ((Below.refl W1.heap.size W1).alloc (Nat.le_refl _) (.cells #[.int .i32 0] 21))) k2);have Pa:=qqh (show aj w2 W1.heap.size 21 #[.int .i32 0] by rw [xU];exact aj.new W1 21 #[.int .i32 0]);clear xU;(try dsimp only);refine hK.out _ _ ?_ (fun bg=>?_);exact HC.out _ bD.out;clear hK K;(try simp only [zp,za,z0,zs]);refine aA (i:=11) (by kernel_rfl) rfl (by kernel_rfl) (fun K hK=>?_);have z0:=Pa.out.cell 0;have z1:=Pa.out.frozen 0;go_simp;(try dsimp only);refine hK.out _ _ ?_;clear hK K;refine aJ (by kernel_rfl) ?_ _;go_simp;go_wp2_with fail;go_meet;exact⟨W1.heap.size,rfl,Pa.out.put 0 _,bD.out.setCell (Nat.le_refl _) _⟩
 obtain⟨G,rfl,hGx,iM⟩:=hcut;have Ep:=qqh iM;have NW:=qqh hGx;have Yu:=qqh (E6.out.below iM);have HF:=qqh (aj.below HG.out iM LZ);have t0:=HF.out.cell 0;have t2:wc.cell? ⟨M,2,none⟩=some (.slice Ah nh ch):=Yu.out.blk.cell 2
 have J9:=qqh (sS 151 #[.pointer (some ⟨w.heap.size,0,none⟩),.pointer (some ⟨G,0,none⟩)] nh (fun i=>decide (x≤(hs[i]?.getD ⟨0,0,[]⟩).high)) wc Be (by omega)
   (fun w' i hb hi=>by
     obtain⟨y,hy⟩:∃ z,hs[i]? = some z:=⟨_,List.getElem?_eq_getElem (by rw [Xx.out];exact hi)⟩
     obtain⟨hb',hoff,A',c',rfl,_,cH,_,c1,_⟩:=Gy (Yu.out.below hb).heads hy
     rw [hy]
     exact xY w.heap.size G M hb' hoff nh ch i x y.high w' hi ((aj.below HF.out hb HF.out.lt).cell 0) ((Yu.out.below hb).blk.cell 2) ((aj.below NW.out hb NW.out.lt).cell 0) c1)
   (fun a b hab hb h=>by
     obtain⟨y,hy⟩:∃ z,hs[a]? = some z:=⟨_,List.getElem?_eq_getElem (by rw [Xx.out];omega)⟩
     obtain⟨z,hz⟩:∃ z,hs[b]? = some z:=⟨_,List.getElem?_eq_getElem (by rw [Xx.out];omega)⟩
     simp only [hy,hz,Option.getD_some,decide_eq_true_eq]at h ⊢
     have:=UN.out.VE a b y z hab hy hz
     omega))
 clear hGx iM g0 c0;go_wp2_with fail;refine J9.out.mono ?_;rintro e w2 ⟨k,rfl,hk,h1,h2,hb⟩;obtain⟨y,hy,hyr⟩:=UN.out.head (r:=x) (k:=k) (fun t z ht hz=>by
  have:=h1 t ht;rw [hz]at this;simpa using this) (fun t z ht hz=>by
  have:=h2 t ht (by rw [← Xx.out];exact(List.getElem?_eq_some_iff.1 hz).1);rw [hz]at this;simpa using this) hx0.1 hx0.2
 have hkn:k<nh:=(by rw [← Xx.out];exact(List.getElem?_eq_some_iff.1 hy).1);have HMD:=qqh (Yu.out.below hb);have J4:=qqh (aj.below HF.out hb HF.out.lt);have HBD:=qqh (dY.out.trans ((Ep.out.trans (hb.mono Ep.out.size)).mono dY.out.size));obtain⟨hb',hoff,Ab,cb,rfl,_,cH,_,_,e2,hri,_,eF⟩:=Gy HMD.out.heads hy;rw [hyr]at e2 hri eF;have d0:=J4.out.cell 0;have d2:w2.cell? ⟨M,2,none⟩=some (.slice (some ⟨hb',hoff,none⟩) nh ch):=HMD.out.blk.cell 2;have HRI:=qqh hri;have HWI:=qqh (Ec (l:=l) (T:=A++Z) (q:=A.length) (fun r hr=>(i4.out r hr).src) HX.out);have acz:=qqh (show ∀ k∈cQ l x,∃ q:Nat,k=(q:Int)∧q<l.length from fun k hk=>by
  unfold cQ dG at hk;obtain⟨q,hq,rfl⟩:=List.mem_map.1 hk;exact⟨q,rfl,List.mem_range.1 (List.mem_filter.1 hq).1⟩)
 have ahk:(cQ l x).length≤200:=Nat.le_trans (Hw l x) hlen;generalize hBB:cQ l x=BB at *;generalize Hv:BB.length=bn at *;have HBN:=qqh Hv;clear h1 h2 hb hy hyr hri hBB Hv J9 t0 t2;go_wp2_with fail;go_loopw [33] (fun i wr=>∃ j:Nat,j≤bn∧i=.int .i64 j∧ck l (A++Z) A.length BB=ck l (A++Z) A.length (BB.drop j)∧Below w2.heap.size w2 wr) (fun i _=>bn - (intOf i).toNat);(case atStart=>exact⟨0,Nat.zero_le _,rfl,rfl,Below.refl _ _⟩);obtain⟨j,hj,rfl,aV,hb⟩:=hrel;have OK:=qqh (HMD.out.below hb);have Ek:=qqh (HBD.out.trans (hb.mono HBD.out.size));have SJ:=qqh hb;by_cases hlt:j<bn
 ·obtain⟨kk,hkk⟩:∃ z,BB[j]? = some z:=⟨_,List.getElem?_eq_getElem (by rw [HBN.out];exact hlt)⟩;obtain⟨kn,rfl,J6⟩:=acz.out kk (List.mem_of_getElem? hkk);obtain⟨r,hr⟩:∃ z,l[kn]? = some z:=⟨_,List.getElem?_eq_getElem J6⟩;obtain⟨vb,vo,rfl,QW,hvc⟩:=HRI.out.at hkk;have v0:=(SJ.out.cell (p:=⟨vb,vo+j,none⟩) QW).trans hvc;obtain⟨rb,ro,A1,A2,A3,A4,n1,c1,n2,c2,n3,c3,n4,c4,rfl,_,qt⟩:=Gk OK.out.rules hr;have HHR:=qqh (vM (JX lo M b A Z) (fun x=>x<lo) r rb (ro+kn*7) A1 A2 A3 A4 n1 c1 n2 c2 n3 c3 n4 c4 A.length wr.drew hT (by rw [List.length_append];omega) (i4.out r (List.mem_of_getElem? hr)) (qt.below (aC (Below.refl _ _))) ⟨OK.out.blk.cell 0,OK.out.blk.lt,OK.out.buf.below (aC (Below.refl wr.heap.size wr))⟩);have HH:=qqh (show hereAt l (A++Z) A.length (kn:Int)=ec r (A++Z) A.length by unfold hereAt;rw [Int.toNat_natCast,hr]);have dO:=qqh (aV.trans (show ck l (A++Z) A.length (BB.drop j)=if hereAt l (A++Z) A.length (kn:Int)=true then (kn:Int)else ck l (A++Z) A.length (BB.drop (j+1)) by rw [cW hkk,ck]));have Ux:kn<nr:=(by rw [← P8.out];exact J6);have u0:=(aj.below J4.out hb J4.out.lt).cell 0;have u1:wr.cell? ⟨M,0,none⟩=some (.pointer (some ⟨b,0,none⟩)):=OK.out.blk.cell 0;have u2:wr.cell? ⟨M,1,none⟩=some (.slice (some ⟨rb,ro,none⟩) nr cr):=OK.out.blk.cell 1;clear hkk hr hvc qt aV hb;go_upto_region 6 with fail;refine ay (S:=fun w'=>w'.cell? ⟨w.heap.size,0,none⟩=some (.pointer (some ⟨M,0,none⟩))∧w'.cell? ⟨M,0,none⟩=some (.pointer (some ⟨b,0,none⟩))∧w'.cell? ⟨M,1,none⟩=some (.slice (some ⟨rb,ro,none⟩) nr cr)) [0,3,6,8,11] (by kernel_rfl) ⟨u0,u1,u2⟩ (fun bg=>?_);refine tu 0 37 ?_;(try simp only [zp,za,z0,zs]);refine tq 1 38 ?_;(try simp only [zp,za,z0,zs]);refine tq 2 39 ?_;(try simp only [zp,za,z0,zs])
  refine tu 3 40 ?_;(try simp only [zp,za,z0,zs]);refine tq 4 41 ?_;(try simp only [zp,za,z0,zs]);refine tq 5 42 ?_;(try simp only [zp,za,z0,zs]);refine tu 6 43 ?_;(try simp only [zp,za,z0,zs]);refine tq 7 44 ?_;(try simp only [zp,za,z0,zs]);refine tu 8 45 ?_;(try simp only [zp,za,z0,zs]);refine tq 9 46 ?_;(try simp only [zp,za,z0,zs]);refine tq 10 47 ?_;(try simp only [zp,za,z0,zs]);refine tu 11 48 ?_;(try simp only [zp,za,z0,zs]);refine aD (i:=12) (o:=⟨some 49,_,_,_,_,_⟩) (by kernel_rfl) rfl (fun K hK=>?_);go_simp;go_at_call 124;refine(rT (OK.out.buf.below (aC (Below.refl wr.heap.size wr)))).mono ?_;rintro e w2 ⟨rfl,rfl⟩;(try dsimp only);refine hK.out _ _ ?_ (fun bg=>?_);exact⟨u0,u1,u2⟩;clear hK K;(try simp only [zp,za,z0,zs]);refine aA (i:=13) (o:=⟨some 50,_,_,_,_,_⟩) (by kernel_rfl) rfl (by kernel_rfl) (fun K hK=>?_);go_simp;go_at_call 65;refine HHR.out.mono ?_;rintro e w3 ⟨rfl,bL⟩;have SY:Below wr.heap.size wr w3:=(aC (Below.refl wr.heap.size wr)).trans bL;have bG:=qqh (Ek.out.trans (SY.mono Ek.out.size));have dI:=qqh (SJ.out.trans (SY.mono SJ.out.size));clear bL SY HHR;(try dsimp only);refine hK.out _ _ ?_;clear hK K;(try simp only [zp,za,z0,zs]);refine aJ (by kernel_rfl) ?_ _;cases hh:ec r (A++Z) A.length
  ·have lT:=qqh (dO.out.trans (if_neg (by rw [HH.out,hh];decide)));clear hh;go_simp;go_wp2_with fail;exact⟨⟨j+1,by omega,by go_num,lT.out,dI.out⟩,by simp [intOf];omega⟩
  have lT:=qqh (dO.out.trans (if_pos (by rw [HH.out,hh])));clear hh;go_simp;go_wp2_with fail;go_ret;rw [← HWI.out,lT.out];exact⟨rfl,bG.out⟩
 obtain rfl:j=bn:=(by omega);rw [List.drop_of_length_le (by rw [HBN.out];exact Nat.le_refl _)]at aV;have lT:=qqh (HWI.out.symm.trans aV);clear aV hb;go_wp2_with fail;go_ret;rw [lT.out];exact⟨rfl,Ek.out⟩
section
variable {lo : Nat} {w w' : World} {M b : Nat} {A Z A' Z' : List Int} {l : List ai} {hs : List bI} {Ar : Option Addr} {nr cr : Nat} {Ah : Option Addr} {nh ch : Nat} {cS s p : Int}
theorem fM {X:Nat→Prop} (hb:Below lo w w') (hX:∀ x,X x→x<lo):aa w X w' X:=fun x hx hl=>⟨hb.block x (hX x hx),hx,Nat.lt_of_lt_of_le hl hb.size⟩
theorem dz.kp (h:dz lo w M b A Z l hs Ar nr cr Ah nh ch cS s p) (hk:Kp lo w w') (hb:wY lo w' b A' Z'):dz lo w' M b A' Z' l hs Ar nr cr Ah nh ch cS s p :=
  ⟨h.ge,hk.other M _ _ h.blk (by decide) (by decide),hb,h.rules.keep (fM hk.below (fun _ h=>h)) (fun _ _=>aL.keep (fM hk.below (fun _ h=>h))),h.heads.keep (fM hk.below (fun _ h=>h)) (fun _ _=>gM.keep (fM hk.below (fun _ h=>h)))⟩
theorem wY.Nd (h:wY lo w b A Z) {cs:Array Value} (hM:aj w M 194 cs) (i:Nat) (u:Value):wY lo (w.setCell ⟨M,i,none⟩ u) b A Z:=by
 obtain⟨L,n,D,f,t,h1,h2⟩:=h;exact⟨L,n,D,f,t,⟨h1.buf.other hM (by decide) i u,h1.row.other hM (by decide) i u,h1.len,h1.le,h1.end_,h1.small⟩,h2⟩
structure Kq (lo:Nat) (w w':World):Prop where
  below:Below lo w w'
  other:∀ k t cs,aj w k t cs→t ≠ 21 → t ≠ 209 → t ≠ 194 → aj w' k t cs
theorem Kq.refl (lo:Nat) (w:World):Kq lo w w:=⟨Below.refl _ _,fun _ _ _ h _ _ _=>h⟩
theorem Kq.trans {w1 w2:World} (h:Kq lo w w1) (h2:Kq lo w1 w2):Kq lo w w2:=⟨h.below.trans h2.below,fun k t cs hb h3 h4 h5=>h2.other k t cs (h.other k t cs hb h3 h4 h5) h3 h4 h5⟩
theorem Kq.kp (h:Kp lo w w'):Kq lo w w':=⟨h.below,fun k t cs hb h3 h4 _=>h.other k t cs hb h3 h4⟩
theorem Kq.all (h:Below w.heap.size w w') (hlo:lo≤w.heap.size):Kq lo w w':=Kq.kp (Kp.all h hlo)
theorem Kq.drewN (h:Kq lo w w') (k:Nat):Kq lo w (w'.drewN k):=⟨below_drewN h.below k,h.other⟩
theorem Kq.Nd {M:Nat} {cs:Array Value} (hM:aj w M 194 cs) (hl:lo≤M) (i:Nat) (u:Value):Kq lo w (w.setCell ⟨M,i,none⟩ u) :=
  ⟨(Below.refl _ _).setCell hl _,fun _ _ _ hb _ _ h5=>hb.other hM h5 i u⟩
theorem dz.steps (h:dz lo w M b A Z l hs Ar nr cr Ah nh ch cS s p) (s':Int):dz lo (w.setCell ⟨M,5,none⟩ (.int .i64 s')) M b A Z l hs Ar nr cr Ah nh ch cS s' p∧Kq lo w (w.setCell ⟨M,5,none⟩ (.int .i64 s')):=by
 have hb:Below lo w (w.setCell ⟨M,5,none⟩ (.int .i64 s')):=(Below.refl _ _).setCell h.ge _;exact⟨⟨h.ge,h.blk.put 5 _,h.buf.Nd h.blk 5 _,h.rules.keep (fM hb (fun _ h=>h)) (fun _ _=>aL.keep (fM hb (fun _ h=>h))),h.heads.keep (fM hb (fun _ h=>h)) (fun _ _=>gM.keep (fM hb (fun _ h=>h)))⟩,Kq.Nd h.blk h.ge _ _⟩
theorem dz.Ud (h:dz lo w M b A Z l hs Ar nr cr Ah nh ch cS s p) (p':Int):dz lo (w.setCell ⟨M,6,none⟩ (.int .i64 p')) M b A Z l hs Ar nr cr Ah nh ch cS s p'∧Kq lo w (w.setCell ⟨M,6,none⟩ (.int .i64 p')):=by
 have hb:Below lo w (w.setCell ⟨M,6,none⟩ (.int .i64 p')):=(Below.refl _ _).setCell h.ge _;exact⟨⟨h.ge,h.blk.put 6 _,h.buf.Nd h.blk 6 _,h.rules.keep (fM hb (fun _ h=>h)) (fun _ _=>aL.keep (fM hb (fun _ h=>h))),h.heads.keep (fM hb (fun _ h=>h)) (fun _ _=>gM.keep (fM hb (fun _ h=>h)))⟩,Kq.Nd h.blk h.ge _ _⟩
theorem dz.rule (h:dz lo w M b A Z l hs Ar nr cr Ah nh ch cS s p) {k:Nat} {r:ai} (hk:l[k]? = some r) :
    ∃ (rb ro:Nat) (A2 A4:Option Addr) (c2 c4:Nat),Ar=some ⟨rb,ro,none⟩∧k<nr∧w.cell? ⟨rb,ro+k*7+3,none⟩=some (.slice A2 r.source.length c2)∧w.cell? ⟨rb,ro+k*7+5,none⟩=some (.slice A4 r.target.length c4) ∧
      w.cell? ⟨rb,ro+k*7+6,none⟩=some (.int .i64 r.ag)∧cE w (fun x=>x<lo) 1 A4 r.target.length (runeCells r.target):=by
 obtain⟨rb,ro,A1,A2,A3,A4,n1,c1,n2,c2,n3,c3,n4,c4,e,_,ha⟩:=Gk h.rules hk;have h2:=ha.s2.list.len;have h4:=ha.s4.1;rw [runeCells_length]at h4;obtain rfl:r.source.length=n2:=h2;obtain rfl:r.target.length=n4:=(by omega);have hl:l.length=nr:=h.rules.len;exact⟨rb,ro,A2,A4,c2,c4,e,by have:=(List.getElem?_eq_some_iff.1 hk).1;omega,ha.d3,ha.d5,ha.d6,ha.s4⟩
end
theorem F6 {lo:Nat} {w:World} {M b:Nat} {A Z:List Int} {l:List ai} {hs:List bI} {Ar:Option Addr} {nr cr:Nat} {Ah:Option Addr} {nh ch:Nat} {cS s p:Nat} (h:dz lo w M b A Z l hs Ar nr cr Ah nh ch cS s p) (hs1:s=cS) (qS:cS≤100000) :
    Calls Tryz.prog 126 #[.pointer (some ⟨M,0,none⟩)] w fun e w'=>e=.returned (.tuple #[.int .i64 0,.int .i64 9])∧∃ k,w'=w.drewN k:=by
 have c3:w.cell? ⟨M,3,none⟩=some (.int .i64 cS):=h.blk.cell 3;have c5:w.cell? ⟨M,5,none⟩=some (.int .i64 s):=h.blk.cell 5;subst hs1;clear h;go_enter Tryz.func126,Tryz.ntmps126;go_wp2_with fail;go_quiet (fail);go_wp2_with fail;go_ret2;exact⟨rfl,_,rfl⟩
theorem Cg {lo:Nat} {w:World} {M b:Nat} {A Z:List Int} {l:List ai} {hs:List bI} {Ar:Option Addr} {nr cr:Nat} {Ah:Option Addr} {nh ch:Nat} {cS s p:Nat} (h:dz lo w M b A Z l hs Ar nr cr Ah nh ch cS s p) (z:Int) (Z':List Int) (hZ:Z=z::Z') (x:Int) (hx:(A++Z)[A.length]? = some x) (hx0:0≤x∧x≤1114111) (hT:(A++Z).length≤4000) (NM:nh≤400) (pT:fY l hs 1114112) (hR:∀ r∈l,bQ r) (hlen:l.length≤200) (qS:cS≤100000)  (hs1:s<cS) (qR:bM l (A++Z) A.length = -1) :
    Calls Tryz.prog 126 #[.pointer (some ⟨M,0,none⟩)] w fun e w'=>e=.returned (.tuple #[.int .i64 (-1),.int .i64 0])∧dz lo w' M b (A++[z]) Z' l hs Ar nr cr Ah nh ch cS ((s:Int)+1) p∧Kq lo w w':=by
 have UI:=qqh (show(A++Z).take (A.length+1)=A++[z]∧(A++Z).drop (A.length+1)=Z' by
  have e:A++z::Z'=(A++[z])++Z':=(by simp);rw [hZ,e];exact⟨List.take_left' (by simp),List.drop_left' (by simp)⟩)
 have hzl:Z.length=Z'.length+1:=(by rw [hZ];rfl);have hAl:A.length≤4000:=(by rw [List.length_append]at hT;omega);have hwr:IntKind.i64.wrap ((A.length:Int)+1)=(A.length:Int)+1:=(by rw [IntKind.wrap_i64];omega);have hge:=h.ge;have c3:w.cell? ⟨M,3,none⟩=some (.int .i64 cS):=h.blk.cell 3;have c5:w.cell? ⟨M,5,none⟩=some (.int .i64 s):=h.blk.cell 5;have f5:=h.blk.frozen 5;have qx:lo≤w.heap.size:=Nat.le_trans h.ge (Nat.le_of_lt h.blk.lt);have hd:((s:Int) ==(cS:Int))=false:=(by rw [beq_eq_false_iff_ne];omega);have H:=qqh h;have HX:=qqh hx;have i4:=qqh hR;have Nu:=qqh pT;clear h hx pT hR;go_enter Tryz.func126,Tryz.ntmps126;go_wp2_with fail;go_quiet (fail);have d5:(w.drewN nq).cell? ⟨M,5,none⟩=some (.int .i64 s):=c5;have g5:(w.drewN nq).frozen? ⟨M,5,none⟩=false:=f5;have hst:=(H.out.below (below_drewN (Below.refl _ _) nq)).steps ((s:Int)+1);have fD:=qqh hst.1;have NL:=qqh (((Kq.refl lo w).drewN nq).trans hst.2);have J4:=qqh (sC fD.out x HX.out hx0 (by omega) NM Nu.out i4.out hlen);clear hst c3 c5 f5;go_wp2_with fail;refine J4.out.mono ?_;rintro e w2 ⟨rfl,aU⟩;rw [qR];have jx:=qqh (fD.out.below aU);have bD:=qqh (NL.out.trans (Kq.all aU (Nat.le_trans qx NL.out.below.size)));clear aU d5 g5 J4;have e0:w2.cell? ⟨M,0,none⟩=some (.pointer (some ⟨b,0,none⟩)):=jx.out.blk.cell 0;have uh:=qqh (show Calls Tryz.prog 141 #[.pointer (some ⟨b,0,none⟩),.int .i64 ((A.length:Int)+1)] w2.drew _ from Ct (jx.out.buf.below (aC (Below.refl w2.heap.size w2))) (A.length+1) (by omega));go_upto_region 6 with fail;refine ay (S:=fun w'=>w'.cell? ⟨M,0,none⟩=some (.pointer (some ⟨b,0,none⟩))) [3,7] (by kernel_rfl) e0 (fun bg=>?_);refine tq 0 30 ?_
 (try simp only [zp,za,z0,zs]);refine tq 1 31 ?_;(try simp only [zp,za,z0,zs]);refine tq 2 32 ?_;(try simp only [zp,za,z0,zs]);refine tu 3 33 ?_;(try simp only [zp,za,z0,zs]);refine tq 4 34 ?_;(try simp only [zp,za,z0,zs]);refine tq 5 35 ?_;(try simp only [zp,za,z0,zs]);refine tq 6 36 ?_;(try simp only [zp,za,z0,zs]);refine tu 7 37 ?_;(try simp only [zp,za,z0,zs]);refine aD (i:=8) (o:=⟨some 38,_,_,_,_,_⟩) (by kernel_rfl) rfl (fun K hK=>?_);go_simp;go_at_call 124;refine(rT (jx.out.buf.below (aC (Below.refl w2.heap.size w2)))).mono ?_;rintro e w3 ⟨rfl,rfl⟩;(try dsimp only);refine hK.out _ _ ?_ (fun bg=>?_);exact e0;clear hK K;(try simp only [zp,za,z0,zs]);refine tq 9 39 ?_;(try simp only [zp,za,z0,zs]);refine aA (i:=10) (by kernel_rfl) rfl (by kernel_rfl) (fun K hK=>?_);go_simp;go_at_call 141;refine uh.out.mono ?_;rintro e w3 ⟨rfl,qA,hkp⟩;have yu:=qqh qA;have oC:=qqh (((Kp.refl lo w2).drew).trans hkp);clear qA hkp uh;(try dsimp only);refine hK.out _ _ ?_;clear hK K;(try simp only [Act.put,List.setIfInBounds_toArray,List.set_cons_zero,List.set_cons_succ]);refine aJ (by kernel_rfl) ?_ _;go_simp;go_wp2_with fail;go_ret2;refine⟨rfl,?_,bD.out.trans (Kq.kp oC.out)⟩;have hm:=jx.out.kp oC.out yu.out;rwa [UI.out.1,UI.out.2]at hm
theorem IE {lo:Nat} {w:World} {M b:Nat} {A Z:List Int} {l:List ai} {hs:List bI} {Ar:Option Addr} {nr cr:Nat} {Ah:Option Addr} {nh ch:Nat} {cS s p:Nat} (h:dz lo w M b A Z l hs Ar nr cr Ah nh ch cS s p) (k:Nat) (r:ai) (hk:l[k]? = some r) (x:Int) (hx:(A++Z)[A.length]? = some x) (hx0:0≤x∧x≤1114111) (hT:(A++Z).length≤4000) (NM:nh≤400) (pT:fY l hs 1114112) (hR:∀ r∈l,bQ r) (hlen:l.length≤200) (qS:cS≤100000)  (hpb:p≤100000) (hs1:s<cS) (qR:bM l (A++Z) A.length=(k:Int)) (hfit:r.source.length≤Z.length) (vL:4000+r.source.length<A.length+Z.length+r.target.length) :
    Calls Tryz.prog 126 #[.pointer (some ⟨M,0,none⟩)] w fun e w'=>e=.returned (.tuple #[.int .i64 0,.int .i64 4])∧Below lo w w':=by
 have HK:=qqh hk;have pG:=hR r (List.mem_of_getElem? hk);have abi:=(pG.sets r.source (by simp [cB])).1;have V2:=pG.tgt.1;have FF:=pG.cur;have S7:(A++Z).length=A.length+Z.length:=List.length_append;clear hk pG;have hgt:decide ((4000:Int)<((A.length+Z.length:Nat):Int) - (r.source.length:Int)+(r.target.length:Int))=true:=decide_eq_true (by omega);have hge:=h.ge;have c3:w.cell? ⟨M,3,none⟩=some (.int .i64 cS):=h.blk.cell 3;have c5:w.cell? ⟨M,5,none⟩=some (.int .i64 s):=h.blk.cell 5;have f5:=h.blk.frozen 5;have qx:lo≤w.heap.size:=Nat.le_trans h.ge (Nat.le_of_lt h.blk.lt);have hd:((s:Int) ==(cS:Int))=false:=(by rw [beq_eq_false_iff_ne];omega);have H:=qqh h;have HX:=qqh hx;have i4:=qqh hR;have Nu:=qqh pT;clear h hx pT hR;go_enter Tryz.func126,Tryz.ntmps126;go_wp2_with fail;go_quiet (fail);have d5:(w.drewN nq).cell? ⟨M,5,none⟩=some (.int .i64 s):=c5;have g5:(w.drewN nq).frozen? ⟨M,5,none⟩=false:=f5;have hst:=(H.out.below (below_drewN (Below.refl _ _) nq)).steps ((s:Int)+1);have fD:=qqh hst.1;have NL:=qqh (((Kq.refl lo w).drewN nq).trans hst.2);have J4:=qqh (sC fD.out x HX.out hx0 (by omega) NM Nu.out i4.out hlen);clear hst c3 c5 f5;go_wp2_with fail;refine J4.out.mono ?_;rintro e w2 ⟨rfl,aU⟩;rw [qR];have jx:=qqh (fD.out.below aU);have bD:=qqh (NL.out.trans (Kq.all aU (Nat.le_trans qx NL.out.below.size)));clear aU d5 g5 J4;have rP:=jx.out;have u6:w2.cell? ⟨M,6,none⟩=some (.int .i64 p):=rP.blk.cell 6;have v6:=rP.blk.frozen 6;obtain⟨rb,ro,A2,A4,c2,c4,rfl,Ux,_⟩:=rP.rule HK.out;have u1:w2.cell? ⟨M,1,none⟩=some (.slice (some ⟨rb,ro,none⟩) nr cr):=rP.blk.cell 1;have hpt:=rP.Ud ((p:Int)+1);have iL:=qqh hpt.1;have bG:=qqh (bD.out.trans hpt.2)
 clear hpt rP;have WT:decide ((k:Int)<0)=false:=decide_eq_false (by omega);generalize PT:w2.setCell ⟨M,6,none⟩ (.int .i64 ((p:Int)+1))=W3 at iL bG;have HW3:=qqh PT;have t0:W3.cell? ⟨M,0,none⟩=some (.pointer (some ⟨b,0,none⟩)):=iL.out.blk.cell 0;have t1:W3.cell? ⟨M,1,none⟩=some (.slice (some ⟨rb,ro,none⟩) nr cr):=iL.out.blk.cell 1;obtain⟨rb',ro',A2,A4,c2,c4,e9,_,t3,t5,_,_⟩:=iL.out.rule HK.out;cases e9;have aQ:=qqh (fun(q:Nat)=>uQ (iL.out.buf.below (below_drewN (Below.refl W3.heap.size W3) q)));have uf:=qqh (fun(q:Nat)=>rT (iL.out.buf.below (below_drewN (Below.refl W3.heap.size W3) q)));clear PT;go_upto_region 10 with fail;rw [HW3.out];clear u1 u6 v6;go_quiet (first | (go_at_call 125;exact Calls.quiet_of (aQ.out _)));go_wp2_with fail;go_ret2;exact⟨rfl,below_drewN bG.out.below nq⟩
theorem Cs {lo:Nat} {w:World} {M b:Nat} {A Z:List Int} {l:List ai} {hs:List bI} {Ar:Option Addr} {nr cr:Nat} {Ah:Option Addr} {nh ch:Nat} {cS s p:Nat} (h:dz lo w M b A Z l hs Ar nr cr Ah nh ch cS s p) (k:Nat) (r:ai) (hk:l[k]? = some r) (x:Int) (hx:(A++Z)[A.length]? = some x) (hx0:0≤x∧x≤1114111) (hT:(A++Z).length≤4000) (NM:nh≤400) (pT:fY l hs 1114112) (hR:∀ r∈l,bQ r) (hlen:l.length≤200) (qS:cS≤100000)  (hpb:p≤100000) (hs1:s<cS) (qR:bM l (A++Z) A.length=(k:Int)) (hfit:r.source.length≤Z.length) (vL:A.length+Z.length+r.target.length≤4000+r.source.length) :
    Calls Tryz.prog 126 #[.pointer (some ⟨M,0,none⟩)] w fun e w'=>e=.returned (.tuple #[.int .i64 k,.int .i64 0]) ∧
      dz lo w' M b ((A++r.target++Z.drop r.source.length).take (A.length+r.ag.toNat)) ((A++r.target++Z.drop r.source.length).drop (A.length+r.ag.toNat)) l hs Ar nr cr Ah nh ch cS ((s:Int)+1) ((p:Int)+1)∧Kq lo w w':=by
 have HK:=qqh hk;have pG:=hR r (List.mem_of_getElem? hk);have abi:=(pG.sets r.source (by simp [cB])).1;have V2:=pG.tgt.1;have FF:=pG.cur;have S7:(A++Z).length=A.length+Z.length:=List.length_append;clear hk pG;have hgt:decide ((4000:Int)<((A.length+Z.length:Nat):Int) - (r.source.length:Int)+(r.target.length:Int))=false:=decide_eq_false (by omega);have hwr:IntKind.i64.wrap ((A.length:Int)+r.ag)=(A.length:Int)+r.ag:=(by rw [IntKind.wrap_i64];omega);have hge:=h.ge;have c3:w.cell? ⟨M,3,none⟩=some (.int .i64 cS):=h.blk.cell 3;have c5:w.cell? ⟨M,5,none⟩=some (.int .i64 s):=h.blk.cell 5;have f5:=h.blk.frozen 5;have qx:lo≤w.heap.size:=Nat.le_trans h.ge (Nat.le_of_lt h.blk.lt);have hd:((s:Int) ==(cS:Int))=false:=(by rw [beq_eq_false_iff_ne];omega);have H:=qqh h;have HX:=qqh hx;have i4:=qqh hR;have Nu:=qqh pT;clear h hx pT hR;go_enter Tryz.func126,Tryz.ntmps126;go_wp2_with fail;go_quiet (fail);have d5:(w.drewN nq).cell? ⟨M,5,none⟩=some (.int .i64 s):=c5;have g5:(w.drewN nq).frozen? ⟨M,5,none⟩=false:=f5;have hst:=(H.out.below (below_drewN (Below.refl _ _) nq)).steps ((s:Int)+1);have fD:=qqh hst.1;have NL:=qqh (((Kq.refl lo w).drewN nq).trans hst.2);have J4:=qqh (sC fD.out x HX.out hx0 (by omega) NM Nu.out i4.out hlen);clear hst c3 c5 f5;go_wp2_with fail;refine J4.out.mono ?_;rintro e w2 ⟨rfl,aU⟩;rw [qR];have jx:=qqh (fD.out.below aU);have bD:=qqh (NL.out.trans (Kq.all aU (Nat.le_trans qx NL.out.below.size)));clear aU d5 g5 J4;have rP:=jx.out;have u6:w2.cell? ⟨M,6,none⟩=some (.int .i64 p):=rP.blk.cell 6;have v6:=rP.blk.frozen 6;obtain⟨rb,ro,A2,A4,c2,c4,rfl,Ux,_⟩:=rP.rule HK.out
 have u1:w2.cell? ⟨M,1,none⟩=some (.slice (some ⟨rb,ro,none⟩) nr cr):=rP.blk.cell 1;have hpt:=rP.Ud ((p:Int)+1);have iL:=qqh hpt.1;have bG:=qqh (bD.out.trans hpt.2);clear hpt rP;have WT:decide ((k:Int)<0)=false:=decide_eq_false (by omega);generalize PT:w2.setCell ⟨M,6,none⟩ (.int .i64 ((p:Int)+1))=W3 at iL bG;have HW3:=qqh PT;have t0:W3.cell? ⟨M,0,none⟩=some (.pointer (some ⟨b,0,none⟩)):=iL.out.blk.cell 0;have t1:W3.cell? ⟨M,1,none⟩=some (.slice (some ⟨rb,ro,none⟩) nr cr):=iL.out.blk.cell 1;obtain⟨rb',ro',A2,A4,c2,c4,e9,_,t3,t5,_,_⟩:=iL.out.rule HK.out;cases e9;have aQ:=qqh (fun(q:Nat)=>uQ (iL.out.buf.below (below_drewN (Below.refl W3.heap.size W3) q)));have uf:=qqh (fun(q:Nat)=>rT (iL.out.buf.below (below_drewN (Below.refl W3.heap.size W3) q)));clear PT;go_upto_region 10 with fail;rw [HW3.out];clear u1 u6 v6;go_quiet (first | (go_at_call 125;exact Calls.quiet_of (aQ.out _)));go_wp2_with fail;refine(uf.out nq).mono ?_;rintro e w4 ⟨rfl,rfl⟩;have Tt:=qqh (iL.out.below (below_drewN (Below.refl W3.heap.size W3) nq));have dI:=qqh (bG.out.drewN nq);have x0:(W3.drewN nq).cell? ⟨M,0,none⟩=some (.pointer (some ⟨b,0,none⟩)):=t0;have x3:(W3.drewN nq).cell? ⟨rb,ro+k*7+3,none⟩=some (.slice A2 r.source.length c2):=t3;generalize hW4:W3.drewN nq=W4 at *;have XX:=qqh (PL (Tt.out.buf.below (aC (Below.refl W4.heap.size W4))) r.source.length hfit);clear hW4 t0 t1 t3 t5 uf aQ hgt;go_upto_region 13 with fail;refine ay (S:=fun w'=>w'.cell? ⟨M,0,none⟩=some (.pointer (some ⟨b,0,none⟩))∧w'.cell? ⟨rb,ro+k*7+3,none⟩=some (.slice A2 r.source.length c2)) [3,7] (by kernel_rfl) ⟨x0,x3⟩ (fun bg=>?_);refine tq 0 80 ?_;(try simp only [zp,za,z0,zs]);refine tq 1 81 ?_;(try simp only [zp,za,z0,zs])
 refine tq 2 82 ?_;(try simp only [zp,za,z0,zs]);refine tu 3 83 ?_;(try simp only [zp,za,z0,zs]);refine tq 4 84 ?_;(try simp only [zp,za,z0,zs]);refine tq 5 85 ?_;(try simp only [zp,za,z0,zs]);refine tq 6 86 ?_;(try simp only [zp,za,z0,zs]);refine tu 7 87 ?_;(try simp only [zp,za,z0,zs]);refine tq 8 88 ?_;(try simp only [zp,za,z0,zs]);refine aA (i:=9) (by kernel_rfl) rfl (by kernel_rfl) (fun K hK=>?_);go_simp;go_at_call 142;refine XX.out.mono ?_;rintro e w5 ⟨rfl,qA,hkp⟩;have FY:=qqh (Tt.out.kp ((Kp.refl lo W4).drew.trans hkp) qA);have dn:=qqh (dI.out.trans (Kq.kp ((Kp.refl lo W4).drew.trans hkp)));clear qA hkp XX;(try dsimp only);refine hK.out _ _ ?_;clear hK K;(try simp only [Act.put,List.setIfInBounds_toArray,List.set_cons_zero,List.set_cons_succ]);refine aJ (by kernel_rfl) ?_ _;go_simp;obtain⟨rb',ro',B2,B4,d2,d4,e9,_,_,x5,_,Z8⟩:=FY.out.rule HK.out;cases e9;have x0:w5.cell? ⟨M,0,none⟩=some (.pointer (some ⟨b,0,none⟩)):=FY.out.blk.cell 0;have VX:=qqh (OL (c2:=d4) (FY.out.buf.below (aC (Below.refl w5.heap.size w5))) r.target B4 r.target.length (Z8.keep (aa.any (aC (Below.refl _ _)))) V2 (by rw [List.length_drop];omega));clear Z8 x3;go_upto_region 14 with fail;refine ay (S:=fun w'=>w'.cell? ⟨M,0,none⟩=some (.pointer (some ⟨b,0,none⟩))∧w'.cell? ⟨rb,ro+k*7+5,none⟩=some (.slice B4 r.target.length d4)) [3,7] (by kernel_rfl) ⟨x0,x5⟩ (fun bg=>?_);refine tq 0 90 ?_;(try simp only [zp,za,z0,zs]);refine tq 1 91 ?_;(try simp only [zp,za,z0,zs]);refine tq 2 92 ?_;(try simp only [zp,za,z0,zs]);refine tu 3 93 ?_;(try simp only [zp,za,z0,zs]);refine tq 4 94 ?_;(try simp only [zp,za,z0,zs]);refine tq 5 95 ?_;(try simp only [zp,za,z0,zs]);refine tq 6 96 ?_;(try simp only [zp,za,z0,zs]);refine tu 7 97 ?_;(try simp only [zp,za,z0,zs])
 refine aA (i:=8) (by kernel_rfl) rfl (by kernel_rfl) (fun K hK=>?_);go_simp;go_at_call 143;refine VX.out.mono ?_;rintro e w6 ⟨rfl,qA,hkp⟩;have Ln:=qqh (FY.out.kp ((Kp.refl lo w5).drew.trans hkp) qA);have fG:=qqh (dn.out.trans (Kq.kp ((Kp.refl lo w5).drew.trans hkp)));clear qA hkp VX;(try dsimp only);refine hK.out _ _ ?_;clear hK K;(try simp only [Act.put,List.setIfInBounds_toArray,List.set_cons_zero,List.set_cons_succ]);refine aJ (by kernel_rfl) ?_ _;go_simp;obtain⟨rb',ro',C2,C4,g2,g4,e9,_,_,_,x6,_⟩:=Ln.out.rule HK.out;cases e9;have x0:w6.cell? ⟨M,0,none⟩=some (.pointer (some ⟨b,0,none⟩)):=Ln.out.blk.cell 0;obtain⟨cu,AQ⟩:∃ cu:Nat,r.ag=(cu:Int):=⟨r.ag.toNat,by omega⟩;have uh:=qqh (show Calls Tryz.prog 141 #[.pointer (some ⟨b,0,none⟩),.int .i64 ((A.length:Int)+r.ag)] w6.drew _ by
  have:=Ct (Ln.out.buf.below (aC (Below.refl w6.heap.size w6))) (A.length+r.ag.toNat) (by rw [List.length_append,List.length_drop];omega);rwa [show((A.length+r.ag.toNat:Nat):Int)=(A.length:Int)+r.ag by omega]at this)
 clear x5 AQ;go_upto_region 15 with fail;refine ay (S:=fun w'=>w'.cell? ⟨M,0,none⟩=some (.pointer (some ⟨b,0,none⟩))∧w'.cell? ⟨rb,ro+k*7+6,none⟩=some (.int .i64 r.ag)) [3,8] (by kernel_rfl) ⟨x0,x6⟩ (fun bg=>?_);refine tq 0 99 ?_;(try simp only [zp,za,z0,zs]);refine tq 1 100 ?_;(try simp only [zp,za,z0,zs]);refine tq 2 101 ?_;(try simp only [zp,za,z0,zs]);refine tu 3 102 ?_;(try simp only [zp,za,z0,zs]);refine tq 4 103 ?_;(try simp only [zp,za,z0,zs]);refine tq 5 104 ?_;(try simp only [zp,za,z0,zs]);refine tq 6 105 ?_;(try simp only [zp,za,z0,zs]);refine tq 7 106 ?_;(try simp only [zp,za,z0,zs]);refine tu 8 107 ?_;(try simp only [zp,za,z0,zs]);refine tq 9 108 ?_;(try simp only [zp,za,z0,zs]);refine aA (i:=10) (by kernel_rfl) rfl (by kernel_rfl) (fun K hK=>?_);go_simp;go_at_call 141;refine uh.out.mono ?_;rintro e w7 ⟨rfl,qA,hkp⟩;have LW:=qqh (Ln.out.kp ((Kp.refl lo w6).drew.trans hkp) qA);have iU:=qqh (fG.out.trans (Kq.kp ((Kp.refl lo w6).drew.trans hkp)));clear qA hkp uh;(try dsimp only);refine hK.out _ _ ?_;clear hK K;(try simp only [Act.put,List.setIfInBounds_toArray,List.set_cons_zero,List.set_cons_succ]);refine aJ (by kernel_rfl) ?_ _;go_simp;go_wp2_with fail;go_ret2;exact⟨rfl,LW.out,iU.out⟩
theorem Iy {lo:Nat} {w:World} {M b:Nat} {A Z:List Int} {l:List ai} {hs:List bI} {Ar:Option Addr} {nr cr:Nat} {Ah:Option Addr} {nh ch:Nat} {cS s p:Nat} (h:dz lo w M b A Z l hs Ar nr cr Ah nh ch cS s p) (z:Int) (Z':List Int) (hZ:Z=z::Z') (x:Int) (hx:(A++Z)[A.length]? = some x) (hx0:0≤x∧x≤1114111) (hT:(A++Z).length≤4000) (NM:nh≤400) (pT:fY l hs 1114112) (hR:∀ r∈l,bQ r) (hlen:l.length≤200) (qS:cS≤100000)  (hs1:s<cS) (qR:bM l (A++Z) A.length = -1) :
    Calls Tryz.prog 126 #[.pointer (some ⟨M,0,none⟩)] w fun e w'=>e=.returned (.tuple #[.int .i64 (-1),.int .i64 0])∧dz lo w' M b (A++[z]) Z' l hs Ar nr cr Ah nh ch cS ((s:Int)+1) p∧Below lo w w' :=
  (Cg h z Z' hZ x hx hx0 hT NM pT hR hlen qS hs1 qR).mono fun _ _ ⟨e,h1,h2⟩=>⟨e,h1,h2.below⟩
theorem Ix {lo:Nat} {w:World} {M b:Nat} {A Z:List Int} {l:List ai} {hs:List bI} {Ar:Option Addr} {nr cr:Nat} {Ah:Option Addr} {nh ch:Nat} {cS s p:Nat} (h:dz lo w M b A Z l hs Ar nr cr Ah nh ch cS s p) (k:Nat) (r:ai) (hk:l[k]? = some r) (x:Int) (hx:(A++Z)[A.length]? = some x) (hx0:0≤x∧x≤1114111) (hT:(A++Z).length≤4000) (NM:nh≤400) (pT:fY l hs 1114112) (hR:∀ r∈l,bQ r) (hlen:l.length≤200) (qS:cS≤100000)  (hpb:p≤100000) (hs1:s<cS) (qR:bM l (A++Z) A.length=(k:Int)) (hfit:r.source.length≤Z.length) (vL:A.length+Z.length+r.target.length≤4000+r.source.length) :
    Calls Tryz.prog 126 #[.pointer (some ⟨M,0,none⟩)] w fun e w'=>e=.returned (.tuple #[.int .i64 k,.int .i64 0]) ∧
      dz lo w' M b ((A++r.target++Z.drop r.source.length).take (A.length+r.ag.toNat)) ((A++r.target++Z.drop r.source.length).drop (A.length+r.ag.toNat)) l hs Ar nr cr Ah nh ch cS ((s:Int)+1) ((p:Int)+1)∧Below lo w w' :=
  (Cs h k r hk x hx hx0 hT NM pT hR hlen qS hpb hs1 qR hfit vL).mono fun _ _ ⟨e,h1,h2⟩=>⟨e,h1,h2.below⟩
structure Cf where
  text:List Int
  steps:Nat
  put:Nat
def fo:Cf:=⟨[],0,0⟩
def bK (l:List ai):Nat→List Int→List Int→Nat→Nat→Cf × Int
  | _,done,[],s,p=>(⟨done,s,p⟩,0)
  | 0,_,_::_,_,_=>(fo,9)
  | left+1,done,z::rest,s,p=>
    if bM l (done++z::rest) done.length<0 then bK l left (done++[z]) rest (s+1) p
    else match l[(bM l (done++z::rest) done.length).toNat]? with
      | none=>(fo,0)
      | some r=>
        if 4000<done.length+(r.target++(z::rest).drop r.source.length).length then (fo,4)
        else bK l left (done++(r.target++(z::rest).drop r.source.length).take r.ag.toNat) ((r.target++(z::rest).drop r.source.length).drop r.ag.toNat) (s+1) (p+1)
def dW (t:List Int):Int:=if 4000<t.length then 4 else if cK t=true then 3 else 0
def jK (o:Cf × Int):Cf × (Int × Int):=if o.2≠0 then (fo,(o.2,0))else (o.1,(0,0))
theorem iZ (l:List ai) (left:Nat) (done:List Int) (s p:Nat):bK l left done [] s p=(⟨done,s,p⟩,0):=by cases left <;> rfl
theorem vB (l:List ai) {Z:List Int} (done:List Int) (s p:Nat) (h:Z ≠ []):bK l 0 done Z s p=(fo,9):=by
 cases Z with
 | nil=>exact absurd rfl h
 | cons z Z=>rfl
theorem kM {l:List ai} {left:Nat} {done rest:List Int} {z:Int} {s p:Nat} (h:bM l (done++z::rest) done.length = -1):bK l (left+1) done (z::rest) s p=bK l left (done++[z]) rest (s+1) p:=by
 rw [bK,if_pos (by rw [h];decide)]
theorem pN {l:List ai} {left:Nat} {done rest:List Int} {z:Int} {s p k:Nat} {r:ai} (h:bM l (done++z::rest) done.length=(k:Int)) (hk:l[k]? = some r) (hm:4000<done.length+(r.target++(z::rest).drop r.source.length).length) :
    bK l (left+1) done (z::rest) s p=(fo,4):=by
 rw [bK,if_neg (by rw [h];omega),h,Int.toNat_natCast,hk];simp only;rw [if_pos hm]
theorem mF {l:List ai} {left:Nat} {done rest:List Int} {z:Int} {s p k:Nat} {r:ai} (h:bM l (done++z::rest) done.length=(k:Int)) (hk:l[k]? = some r) (hm:¬ 4000<done.length+(r.target++(z::rest).drop r.source.length).length) :
    bK l (left+1) done (z::rest) s p=bK l left (done++(r.target++(z::rest).drop r.source.length).take r.ag.toNat) ((r.target++(z::rest).drop r.source.length).drop r.ag.toNat) (s+1) (p+1):=by
 rw [bK,if_neg (by rw [h];omega),h,Int.toNat_natCast,hk];simp only;rw [if_neg hm]
theorem yT {r:ai} {A Z:List Int} (h:ec r (A++Z) A.length=true):r.source.length≤Z.length:=by
 have h1:jR (A++Z) A.length r.source=true:=by
  unfold ec at h;simp only [Bool.and_eq_true]at h;exact h.1.1.1.1
 unfold jR at h1;split at h1
 ·cases h1
 rename_i hn;rw [not_or,List.length_append]at hn;omega
def Runes (t:List Int):Prop:=∀ x∈t,0≤x∧x≤1114111
theorem wQ {t:List Int} (h:cK t=false):Runes t:=by
 intro x hx;unfold cK at h;have h2:b7 x=true:=by
  have:=List.any_eq_false.1 h x hx;simpa using this
 unfold b7 at h2;simp at h2;omega
theorem EO (x:Int) (w:World):Calls Tryz.prog 49 #[.int .i32 x] w fun e w'=>e=.returned (.bool (!b7 x))∧w'=w:=by
 go_enter Tryz.func49,Tryz.ntmps49;go_wp2_with fail;refine(gw _ _).mono ?_;rintro e w1 ⟨rfl,rfl⟩;go_wp2_with fail;go_ret;exact⟨rfl,rfl⟩
theorem Ku (A:Option Addr) (n c:Nat) (l:List Int) (w:World) (hn:n≤9223372036854775807) (hl:lX w w.heap.size A n l) :
    Calls Tryz.prog 83 #[.slice A n c,.func (.func 49) #[] #[]] w fun e w'=>(∃ k:Int,e=.returned (.int .i64 k)∧decide (0≤k)=cK l)∧Below w.heap.size w w':=by
 have aQ:=qqh hl.len;have HL:=qqh hl;clear hl;go_enter Tryz.func83,Tryz.ntmps83;go_wp2_with fail;go_loopw [8] (Qb w l n) (fun i _=>n - (intOf i).toNat);(case atStart=>exact⟨0,Nat.zero_le _,rfl,rfl,Below.refl _ _⟩);obtain⟨j,hj,rfl,aV,hb⟩:=hrel;by_cases hlt:j<n
 ·obtain⟨x,hx⟩:∃ z,l[j]? = some z:=⟨_,List.getElem?_eq_getElem (by rw [aQ.out];exact hlt)⟩;obtain⟨b,off,rfl,cH,c0⟩:=HL.out.at hlt;rw [show l.getD j 0=x by simp [List.getD,hx]]at c0;have d0:=(hb.cell (p:=⟨b,off+j,none⟩) cH).trans c0;rw [cW hx,show cK (x::l.drop (j+1))=(!b7 x || cK (l.drop (j+1))) from rfl]at aV;have HG:=qqh aV;have HX:=qqh hx;clear aV hx c0;go_wp2_with fail;refine(EO _ _).mono ?_;rintro e w1 ⟨rfl,rfl⟩;cases hr:b7 x
  ·have HR:=qqh hr;clear hr;go_wp2_with fail;go_ret;refine⟨⟨_,rfl,?_⟩,hb⟩;rw [HG.out,HR.out];simp
  have HR:=qqh hr;clear hr;go_wp2_with fail;exact⟨⟨j+1,by omega,by go_num,by rw [HG.out,HR.out];rfl,hb⟩,by simp [intOf];omega⟩
 obtain rfl:j=n:=(by omega);rw [List.drop_of_length_le (by rw [aQ.out];omega)]at aV;have HG:=qqh (aV.trans (show cK [] = false from rfl));clear aV;go_wp2_with fail;go_ret;exact⟨⟨_,rfl,by rw [HG.out];rfl⟩,hb⟩
theorem CA (A:Option Addr) (n c:Nat) (l:List Int) (w:World) (hn:n≤9223372036854775807) (hl:lX w w.heap.size A n l) :
    Calls Tryz.prog 48 #[.slice A n c,.func (.func 49) #[] #[]] w fun e w'=>e=.returned (.bool (cK l))∧Below w.heap.size w w':=by
 have H:=qqh (Ku A n c l w hn hl);clear hl;go_enter Tryz.func48,Tryz.ntmps48;go_wp2_with fail;refine H.out.mono ?_;rintro e w1 ⟨⟨k,rfl,hk⟩,hb⟩;have HK:=qqh hk;clear hk;go_wp2_with fail;go_ret;refine⟨?_,hb⟩;rw [← HK.out];rfl
theorem qg (A:Option Addr) (n c:Nat) (t:List Int) (w:World) (hn:n≤maxLen) (ht:lX w w.heap.size A n t) :
    Calls Tryz.prog 18 #[.slice A n c] w fun e w'=>e=.returned (.int .i64 (dW t))∧Below w.heap.size w w':=by
 have hl:=ht.len;simp only [maxLen]at hn;have HC:=qqh (CA A n c t w (by omega) ht);clear ht;by_cases h4:4000<n
 ·have HP:=qqh (show dW t=4 by unfold dW;rw [if_pos (by rw [hl];exact h4)]);clear hl;go_enter Tryz.func18,Tryz.ntmps18;go_wp2_with fail;go_ret;rw [HP.out];exact⟨rfl,Below.refl _ _⟩
 have HP:=qqh (show dW t=if cK t=true then 3 else 0 by unfold dW;rw [if_neg (by rw [hl];exact h4)]);clear hl;go_enter Tryz.func18,Tryz.ntmps18;go_wp2_with fail;refine HC.out.mono ?_;rintro e w1 ⟨rfl,hb⟩;have HB:=qqh hb;clear hb;cases Vu:cK t
 ·have j4:=qqh (show dW t=0 by rw [HP.out,Vu];rfl);go_wp2_with fail;go_ret;rw [j4.out];exact⟨rfl,HB.out⟩
 have j4:=qqh (show dW t=3 by rw [HP.out,Vu];rfl);go_wp2_with fail;go_ret;rw [j4.out];exact⟨rfl,HB.out⟩
theorem zn (n:Nat) (hn:n≤4000) (w:World):Calls Tryz.prog 35 #[.int .i64 n] w fun e w'=>e=.returned (.int .i64 (8*n+40:Nat))∧w'=w:=by
 have h:((8*n+40:Nat):Int)=8*(n:Int)+40:=(by omega);rw [h];clear h;go_enter Tryz.func35,Tryz.ntmps35;go_wp2_with fail;go_ret;exact⟨rfl,rfl⟩
def vV (w:World) (X:Nat→Prop) (l:List af) (xs:List Value):Prop:=xs.length=l.length∧∀ (i:Nat) (s:af) (u:Value),l[i]? = some s→xs[i]? = some u→jr w X s u
theorem vV.keep {w w':World} {X X':Nat→Prop} {l:List af} {xs:List Value} (hk:aa w X w' X') (h:vV w X l xs):vV w' X' l xs:=⟨h.1,fun i s u h1 h2=>(h.2 i s u h1 h2).keep hk⟩
end Go.Proofs.YtkggjgeihhialaaGreatDoor
