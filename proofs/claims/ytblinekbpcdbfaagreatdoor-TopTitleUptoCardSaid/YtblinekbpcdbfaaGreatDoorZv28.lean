/- MachAll + RunP + RefMatch -/
import Derived.Test.YtblinekbpcdbfaaGreatDoorZv27
import Derived.Test.YtblinekbpcdbfaaGreatDoorZv26
import Derived.Test.YtblinekbpcdbfaaGreatDoorZv17
import Derived.Test.YtblinekbpcdbfaaGreatDoorZv16
import Derived.BigRegion
set_option maxHeartbeats 6400000
set_option maxRecDepth 100000
namespace Go.Proofs.YtblinekbpcdbfaaGreatDoor
open Go.RowKit
theorem qO {t:TypeId} {name:String} {path:List FieldStep} {f:FuncId} (h:(Tryz.prog.info? t).map (fun i=>(i.methods.find? (·.name == name)).map fun m=>(m.path.toList,m.func))=some (some (path,some (f,true)))) :
    ∃ i,Tryz.prog.info? t=some i∧∃ m,i.methods.find? (·.name == name)=some m∧m.path.toList=path∧m.func=some (f,true):=by
 obtain⟨i,hi,h2⟩:=Option.map_eq_some_iff.1 h;obtain⟨m,hm,h3⟩:=Option.map_eq_some_iff.1 h2;simp only [Prod.mk.injEq]at h3;exact⟨i,hi,m,hm,h3.1,h3.2⟩
theorem MO (M:Nat) (w:World) (v:Value) (h:w.cell? ⟨M,0,none⟩=some v):(method 402 202 (.pointer (some ⟨M,0,none⟩)) "Len").run Tryz.prog w=.ok (132,v) w:=by
 obtain⟨i,hi,m,hm,hp,hf⟩:=qO (t:=202) (name:="Len") (path:=[⟨207,0,true⟩]) (f:=132) (by kernel_rfl);unfold method;simp [go_sem,typeInfo,hi,hm,hp,hf,follow,receiverAt,Place.get,loadVar,h]
theorem Je (M:Nat) (w:World) (v:Value) (h:w.cell? ⟨M,0,none⟩=some v):(method 402 202 (.pointer (some ⟨M,0,none⟩)) "Rune").run Tryz.prog w=.ok (164,v) w:=by
 obtain⟨i,hi,m,hm,hp,hf⟩:=qO (t:=202) (name:="Rune") (path:=[⟨207,0,true⟩]) (f:=164) (by kernel_rfl);unfold method;simp [go_sem,typeInfo,hi,hm,hp,hf,follow,receiverAt,Place.get,loadVar,h]
theorem Gb:∀ args w,(callFunc 132 args).run Tryz.prog w=.ok (.enter 132 args) w:=enters_of Tryz.func132 (by kernel_rfl) rfl
theorem CL:∀ args w,(callFunc 164 args).run Tryz.prog w=.ok (.enter 164 args) w:=enters_of Tryz.func164 (by kernel_rfl) rfl
def WU (lo M b:Nat) (A Z:List Int) (w:World):Prop:=w.cell? ⟨M,0,none⟩=some (.pointer (some ⟨b,0,none⟩))∧M<w.heap.size∧xP lo w b A Z
theorem Kl (lo M b:Nat) (A Z:List Int):Mz 202 (.pointer (some ⟨M,0,none⟩)) (.pointer (some ⟨b,0,none⟩)) 132 164 (A++Z) (WU lo M b A Z) where
  enterL:=Gb
  enterR:=CL
  ml:=fun w h=>MO M w _ h.1
  mr:=fun w h=>Je M w _ h.1
  len:=fun w h=>by
    have:=uP h.2.2
    rwa [← List.length_append]at this
  rune:=fun w k x h hx=>B5 h.2.2 k x hx
  keep:=fun w w' h hb=>⟨(hb.cell (p:=⟨M,0,none⟩) h.2.1).trans h.1,Nat.lt_of_lt_of_le h.2.1 hb.size,h.2.2.below hb⟩
def hereAt (l:List aB) (T:List Int) (q:Nat) (k:Int):Bool:=match l[k.toNat]? with | some r=>fW r T q | none=>false
def eZ (l:List aB) (T:List Int) (q:Nat):List Int→Int
  | []=>-1
  | k::ks=>if hereAt l T q k=true then k else eZ l T q ks
def upTo (n:Nat):List Int:=(List.range n).map fun i:Nat=>(i:Int)
def ij (l:List aB) (T:List Int) (q:Nat):Int:=eZ l T q (upTo l.length)
theorem wJ (l:List aB) (T:List Int) (q:Nat) (m:Nat→Bool):∀ (ks:List Nat),(∀ k∈ks,m k=false→hereAt l T q (k:Int)=false)→eZ l T q ((ks.filter m).map fun i:Nat=>(i:Int))=eZ l T q (ks.map fun i:Nat=>(i:Int)):=by
 intro ks;induction ks with
 | nil=>intro _;rfl
 | cons k ks ih=>
  intro h;have h2:=ih (fun x hx=>h x (by simp [hx]));cases hm:m k
  ·rw [List.filter_cons_of_neg (by simp [hm]),h2,List.map_cons,eZ,if_neg (by rw [h k (by simp) hm];decide)]
  rw [List.filter_cons_of_pos hm,List.map_cons,List.map_cons,eZ,eZ,h2]
theorem E2 {r:aB} {T:List Int} {q:Nat} {x:Int} (hs:r.source ≠ []) (hx:T[q]? = some x) (h:aO (bI r) x=false):fW r T q=false:=by
 have h1:mD T q r.source=false:=by
  cases hr:r.source with
  | nil=>exact absurd hr hs
  | cons s l=>
   unfold mD;split;rfl;have:bI r=s:=(by unfold bI;rw [hr];rfl);rw [this]at h;rw [Int.toNat_natCast,cT hx,mT,h,Bool.false_and]
 unfold fW;rw [h1];simp
theorem Cs {l:List aB} {T:List Int} {q:Nat} {x:Int} (hs:∀ r∈l,r.source ≠ []) (hx:T[q]? = some x):eZ l T q (cE l x)=ij l T q:=by
 unfold cE cY ij upTo;refine wJ l T q _ _ (fun k hk hm=>?_);unfold hereAt;rw [Int.toNat_natCast];cases hl:l[k]? with
 | none=>rfl
 | some r=>
  unfold uv at hm;rw [hl]at hm;exact E2 (hs r (List.mem_of_getElem? hl)) hx hm
theorem yT (l:List aB) (T:List Int) (q:Nat):∀ ks:List Int,(∀ k∈ks,0≤k)→eZ l T q ks = -1∨∃ (k:Nat) (r:aB),eZ l T q ks=(k:Int)∧l[k]? = some r∧fW r T q=true:=by
 intro ks;induction ks with
 | nil=>intro _;exact .inl rfl
 | cons k ks ih=>
  intro h;rw [eZ];by_cases hk:hereAt l T q k=true
  ·rw [if_pos hk];right;unfold hereAt at hk;cases hl:l[k.toNat]? with
   | none=>rw [hl]at hk;cases hk
   | some r=>
    rw [hl]at hk;exact⟨k.toNat,r,by have:=h k (by simp);omega,hl,hk⟩
  rw [if_neg hk];exact ih (fun x hx=>h x (by simp [hx]))
theorem AU (l:List aB) (T:List Int) (q:Nat):ij l T q = -1∨∃ (k:Nat) (r:aB),ij l T q=(k:Int)∧l[k]? = some r∧fW r T q=true :=
  yT l T q _ (fun k hk=>by
    unfold upTo at hk
    obtain⟨i,_,rfl⟩:=List.mem_map.1 hk
    omega)
theorem yV (gm gr M blk off n c i:Nat) (r y:Int) (w:World) (hi:i<n) (hm:w.cell? ⟨gm,0,none⟩=some (.pointer (some ⟨M,0,none⟩))) (ha:w.cell? ⟨M,2,none⟩=some (.slice (some ⟨blk,off,none⟩) n c)) (hr:w.cell? ⟨gr,0,none⟩=some (.int .i32 r)) (hc:w.cell? ⟨blk,off+i*3+1,none⟩=some (.int .i32 y)) :
    Calls Tryz.prog 165 (#[.int .i64 i] ++ #[.pointer (some ⟨gm,0,none⟩),.pointer (some ⟨gr,0,none⟩)]) w fun e w'=>e=.returned (.bool (decide (r≤y)))∧Below w.heap.size w w':=by
 have hiz:(i:Int)<(n:Int):=(by omega);go_enter Tryz.func165,Tryz.ntmps165;go_wp2_with fail;go_quiet (fail);go_wp2_with fail;go_ret;exact⟨rfl,below_drewN qqb _⟩
theorem AS:∀ args w,(callFunc 165 args).run Tryz.prog w=.ok (.enter 165 args) w:=enters_of Tryz.func165 (by kernel_rfl) rfl
def lS (b:Nat) (Ar:Option Addr) (nr cr:Nat) (Ah:Option Addr) (nh ch:Nat) (ez s p:Int):Array Value:=#[.pointer (some ⟨b,0,none⟩),.slice Ar nr cr,.slice Ah nh ch,.int .i64 ez,.slice none 0 0,.int .i64 s,.int .i64 p]
structure cX (lo:Nat) (w:World) (M b:Nat) (A Z:List Int) (l:List aB) (hs:List bB) (Ar:Option Addr) (nr cr:Nat) (Ah:Option Addr) (nh ch:Nat) (ez s p:Int):Prop where
  ge:lo≤M
  blk:aj w M 207 (lS b Ar nr cr Ah nh ch ez s p)
  buf:xP lo w b A Z
  rules:ck (bC w (fun x=>x<lo)) w (fun x=>x<lo) 7 Ar nr l
  heads:ck (hJ w (fun x=>x<lo)) w (fun x=>x<lo) 3 Ah nh hs
theorem cX.below {lo:Nat} {w w':World} {M b:Nat} {A Z:List Int} {l:List aB} {hs:List bB} {Ar:Option Addr} {nr cr:Nat} {Ah:Option Addr} {nh ch:Nat} {ez s p:Int} (h:cX lo w M b A Z l hs Ar nr cr Ah nh ch ez s p) (hb:Below w.heap.size w w'):cX lo w' M b A Z l hs Ar nr cr Ah nh ch ez s p :=
  ⟨h.ge,aj.below h.blk hb h.blk.lt,h.buf.below hb,h.rules.keep (ag.any hb) (fun _ _=>bC.keep (ag.any hb)),h.heads.keep (ag.any hb) (fun _ _=>hJ.keep (ag.any hb))⟩
theorem so {lo:Nat} {w:World} {M b:Nat} {A Z:List Int} {l:List aB} {hs:List bB} {Ar:Option Addr} {nr cr:Nat} {Ah:Option Addr} {nh ch:Nat} {ez s p:Int} (h:cX lo w M b A Z l hs Ar nr cr Ah nh ch ez s p)
    (x:Int) (hx:(A++Z)[A.length]? = some x) (hx0:0≤x∧x≤1114111) (hT:(A++Z).length≤100000) (Ox:nh≤400) (qq:fS l hs 1114112) (hR:∀ r∈l,gH r) (hlen:l.length≤200) :
    Calls Tryz.prog 144 #[.pointer (some ⟨M,0,none⟩)] w fun e w'=>e=.returned (.int .i64 (ij l (A++Z) A.length))∧Below w.heap.size w w':=by
 have fq:=(Below.refl w.heap.size w).alloc qql (.cells #[.pointer (some ⟨M,0,none⟩)] 202);have H:=qqh h;have HX:=qqh hx;have Vi:=qqh qq;have lH:=qqh hR;have Xx:=qqh (show hs.length=nh from h.heads.len);have YB:=qqh (show l.length=nr from h.rules.len);have E6:=qqh (h.below fq);have HG:=qqh (aj.new w 202 #[.pointer (some ⟨M,0,none⟩)]);have ep:=qqh fq;clear h hx qq hR fq;go_enter Tryz.func144,Tryz.ntmps144;go_wp2_with fail;generalize U1:w.alloc (.cells #[.pointer (some ⟨M,0,none⟩)] 202)=W1 at *;have g0:=HG.out.cell 0;have c0:=E6.out.blk.cell 0;have Qd:=HG.out.lt;have hml:=E6.out.blk.lt;have uz:=qqh (fun(W:World) (hb:Below W1.heap.size W1 W)=>sG (E6.out.buf.below hb));have lV:=qqh (fun(W:World) (hb:Below W1.heap.size W1 W)=>B5 (E6.out.buf.below hb) A.length x HX.out);clear U1;have HC:=qqh (fun(W:World) (hb:Below W1.heap.size W1 W)=>show W.cell? ⟨w.heap.size,0,none⟩=some (.pointer (some ⟨M,0,none⟩))∧W.cell? ⟨M,0,none⟩=some (.pointer (some ⟨b,0,none⟩)) from⟨(hb.cell (p:=⟨w.heap.size,0,none⟩) Qd).trans g0,(hb.cell (p:=⟨M,0,none⟩) hml).trans c0⟩);go_upto_region 1 with fail;go_cut [3] (fun s3 wx=>∃ G,s3=.pointer (some ⟨G,0,none⟩)∧aj wx G 21 #[.int .i32 x]∧Below W1.heap.size W1 wx);case first=>
  refine ay (S:=fun w'=>w'.cell? ⟨w.heap.size,0,none⟩=some (.pointer (some ⟨M,0,none⟩))∧w'.cell? ⟨M,0,none⟩=some (.pointer (some ⟨b,0,none⟩))) [0,3,4,7] (by kernel_rfl) ⟨g0,c0⟩ (fun aU=>?_);refine tu 0 7 ?_;(try simp only [zp,za,z0,zs]);refine tq 1 8 ?_;(try simp only [zp,za,z0,zs]);refine tq 2 9 ?_;(try simp only [zp,za,z0,zs]);refine tu 3 10 ?_;(try simp only [zp,za,z0,zs]);refine tu 4 11 ?_;(try simp only [zp,za,z0,zs]);refine tq 5 12 ?_;(try simp only [zp,za,z0,zs]);refine tq 6 13 ?_;(try simp only [zp,za,z0,zs]);refine tu 7 14 ?_;(try simp only [zp,za,z0,zs]);refine eM (i:=8) (j:=10) (o:=⟨some 15,_,_,_,_,_⟩) (o2:=⟨some 3,_,_,_,_,_⟩) (by kernel_rfl) rfl rfl (fun K hK=>?_) (fun K hK=>?_)
  ·go_simp;go_at_call 131;refine(uz.out _ (aE (Below.refl W1.heap.size W1))).mono ?_;rintro e w2 ⟨rfl,rfl⟩;(try dsimp only);refine hK.out _ _ ?_ (fun aU=>?_);exact HC.out _ (aE (Below.refl W1.heap.size W1));clear hK K;(try simp only [zp,za,z0,zs]);refine eM (i:=9) (j:=10) (o:=⟨some 16,_,_,_,_,_⟩) (o2:=⟨some 3,_,_,_,_,_⟩) (by kernel_rfl) rfl rfl (fun K hK=>?_) (fun K hK=>?_)
   ·go_simp;go_at_call 164;refine(lV.out _ (aE (Below.refl W1.heap.size W1))).mono ?_;rintro e w2 ⟨rfl,k2,CS⟩;have bL:=qqh (show Below W1.heap.size W1 w2 by rw [CS];exact below_drewN (aE (Below.refl W1.heap.size W1)) k2);clear CS;(try dsimp only);refine hK.out _ _ ?_ (fun aU=>?_);exact HC.out _ bL.out;clear hK K;(try simp only [zp,za,z0,zs]);refine aD (i:=10) (o:=⟨some 3,_,_,_,_,_⟩) (by kernel_rfl) rfl (fun K hK=>?_);go_simp;(try dsimp only);refine hK.out _ _ ?_ (fun aU=>?_);exact HC.out _ (bL.out.alloc bL.out.size _);clear hK K;(try simp only [zp,za,z0,zs]);refine aC (i:=11) (by kernel_rfl) rfl (by kernel_rfl) (fun K hK=>?_);go_simp;(try dsimp only);refine hK.out _ _ ?_;clear hK K;refine aK (by kernel_rfl) ?_ _;go_simp;go_wp2_with fail;go_meet;exact⟨w2.heap.size,rfl,aj.new _ _ _,bL.out.alloc bL.out.size _⟩
   go_simp;(try dsimp only);refine hK.out _ _ ?_ (fun aU=>?_);exact HC.out _ (aE ((Below.refl W1.heap.size W1).alloc qql (.cells #[.int .i32 0] 21)));clear hK K;(try simp only [Act.put,List.setIfInBounds_toArray,List.set_cons_zero,List.set_cons_succ]);refine aD (i:=9) (o:=⟨some 16,_,_,_,_,_⟩) (by kernel_rfl) rfl (fun K hK=>?_);go_simp;go_at_call 164;refine(lV.out _ (aE ((Below.refl W1.heap.size W1).alloc qql (.cells #[.int .i32 0] 21)))).mono ?_;rintro e w2 ⟨rfl,k2,CS⟩;have bL:=qqh (show Below W1.heap.size W1 w2 by rw [CS];exact below_drewN (aE ((Below.refl W1.heap.size W1).alloc qql (.cells #[.int .i32 0] 21))) k2);have Mj:=qqh (show aj w2 W1.heap.size 21 #[.int .i32 0] by rw [CS];exact aj.new W1 21 #[.int .i32 0]);clear CS;(try dsimp only);refine hK.out _ _ ?_ (fun aU=>?_);exact HC.out _ bL.out;clear hK K;(try simp only [zp,za,z0,zs]);refine aC (i:=11) (by kernel_rfl) rfl (by kernel_rfl) (fun K hK=>?_);have z0:=Mj.out.cell 0;have z1:=Mj.out.frozen 0;go_simp;(try dsimp only);refine hK.out _ _ ?_;clear hK K;refine aK (by kernel_rfl) ?_ _;go_simp;go_wp2_with fail;go_meet;exact⟨W1.heap.size,rfl,Mj.out.put 0 _,bL.out.setCell qql _⟩
  go_simp;(try dsimp only);refine hK.out _ _ ?_ (fun aU=>?_);exact HC.out _ (aE ((Below.refl W1.heap.size W1).alloc qql (.cells #[.int .i32 0] 21)));clear hK K;(try simp only [Act.put,List.setIfInBounds_toArray,List.set_cons_zero,List.set_cons_succ]);refine aD (i:=8) (o:=⟨some 15,_,_,_,_,_⟩) (by kernel_rfl) rfl (fun K hK=>?_);go_simp;go_at_call 131;refine(uz.out _ (aE ((Below.refl W1.heap.size W1).alloc qql (.cells #[.int .i32 0] 21)))).mono ?_;rintro e w2 ⟨rfl,rfl⟩;(try dsimp only);refine hK.out _ _ ?_ (fun aU=>?_);exact HC.out _ (aE ((Below.refl W1.heap.size W1).alloc qql (.cells #[.int .i32 0] 21)));clear hK K;(try simp only [zp,za,z0,zs]);refine aD (i:=9) (o:=⟨some 16,_,_,_,_,_⟩) (by kernel_rfl) rfl (fun K hK=>?_);go_simp;go_at_call 164;refine(lV.out _ (aE ((Below.refl W1.heap.size W1).alloc qql (.cells #[.int .i32 0] 21)))).mono ?_;rintro e w2 ⟨rfl,k2,CS⟩;have bL:=qqh (show Below W1.heap.size W1 w2 by rw [CS];exact below_drewN (aE ((Below.refl W1.heap.size W1).alloc qql (.cells #[.int .i32 0] 21))) k2);have Mj:=qqh (show aj w2 W1.heap.size 21 #[.int .i32 0] by rw [CS];exact aj.new W1 21 #[.int .i32 0]);clear CS;(try dsimp only);refine hK.out _ _ ?_ (fun aU=>?_);exact HC.out _ bL.out;clear hK K;(try simp only [zp,za,z0,zs]);refine aC (i:=11) (by kernel_rfl) rfl (by kernel_rfl) (fun K hK=>?_);have z0:=Mj.out.cell 0;have z1:=Mj.out.frozen 0;go_simp;(try dsimp only);refine hK.out _ _ ?_;clear hK K;refine aK (by kernel_rfl) ?_ _;go_simp;go_wp2_with fail;go_meet;exact⟨W1.heap.size,rfl,Mj.out.put 0 _,bL.out.setCell qql _⟩
 obtain⟨G,rfl,hGx,iD⟩:=hcut;have xY:=qqh iD;have N7:=qqh hGx;have Yu:=qqh (E6.out.below iD);have HF:=qqh (aj.below HG.out iD Qd);have t0:=HF.out.cell 0;have t2:wc.cell? ⟨M,2,none⟩=some (.slice Ah nh ch):=Yu.out.blk.cell 2
 have OA:=qqh (tD 165 #[.pointer (some ⟨w.heap.size,0,none⟩),.pointer (some ⟨G,0,none⟩)] nh (fun i=>decide (x≤(hs[i]?.getD ⟨0,0,[]⟩).high)) wc AS (by omega)
   (fun w' i hb hi=>by
     obtain⟨y,hy⟩:∃ z,hs[i]? = some z:=⟨_,List.getElem?_eq_getElem (by rw [Xx.out];exact hi)⟩
     obtain⟨hb',hoff,A',c',rfl,_,ey,_,c1,_⟩:=Hx (Yu.out.below hb).heads hy
     rw [hy]
     exact yV w.heap.size G M hb' hoff nh ch i x y.high w' hi ((aj.below HF.out hb HF.out.lt).cell 0) ((Yu.out.below hb).blk.cell 2) ((aj.below N7.out hb N7.out.lt).cell 0) c1)
   (fun a b hab hb h=>by
     obtain⟨y,hy⟩:∃ z,hs[a]? = some z:=⟨_,List.getElem?_eq_getElem (by rw [Xx.out];omega)⟩
     obtain⟨z,hz⟩:∃ z,hs[b]? = some z:=⟨_,List.getElem?_eq_getElem (by rw [Xx.out];omega)⟩
     simp only [hy,hz,Option.getD_some,decide_eq_true_eq]at h ⊢
     have:=Vi.out.Wk a b y z hab hy hz
     omega))
 clear hGx iD g0 c0;go_wp2_with fail;refine OA.out.mono ?_;rintro e w2 ⟨k,rfl,hk,h1,h2,hb⟩;obtain⟨y,hy,hyr⟩:=Vi.out.head (r:=x) (k:=k) (fun t z ht hz=>by
  have:=h1 t ht;rw [hz]at this;simpa using this) (fun t z ht hz=>by
  have:=h2 t ht (by rw [← Xx.out];exact(List.getElem?_eq_some_iff.1 hz).1);rw [hz]at this;simpa using this) hx0.1 hx0.2
 have hkn:k<nh:=(by rw [← Xx.out];exact(List.getElem?_eq_some_iff.1 hy).1);have ZS:=qqh (Yu.out.below hb);have KN:=qqh (aj.below HF.out hb HF.out.lt);have HBD:=qqh (ep.out.trans ((xY.out.trans (hb.mono xY.out.size)).mono ep.out.size));obtain⟨hb',hoff,Ab,cb,rfl,_,ey,_,_,e2,hri,_,fq⟩:=Hx ZS.out.heads hy;rw [hyr]at e2 hri fq;have d0:=KN.out.cell 0;have d2:w2.cell? ⟨M,2,none⟩=some (.slice (some ⟨hb',hoff,none⟩) nh ch):=ZS.out.blk.cell 2;have HRI:=qqh hri;have HWI:=qqh (Cs (l:=l) (T:=A++Z) (q:=A.length) (fun r hr=>(lH.out r hr).src) HX.out);have ZG:=qqh (show ∀ k∈cE l x,∃ q:Nat,k=(q:Int)∧q<l.length from fun k hk=>by
  unfold cE cY at hk;obtain⟨q,hq,rfl⟩:=List.mem_map.1 hk;exact⟨q,rfl,List.mem_range.1 (List.mem_filter.1 hq).1⟩)
 have afb:(cE l x).length≤200:=Nat.le_trans (Ic l x) hlen;generalize hBB:cE l x=BB at *;generalize Ka:BB.length=bn at *;have HBN:=qqh Ka;clear h1 h2 hb hy hyr hri hBB Ka OA t0 t2;go_wp2_with fail;go_loopw [33] (fun i wr=>∃ j:Nat,j≤bn∧i=.int .i64 j∧eZ l (A++Z) A.length BB=eZ l (A++Z) A.length (BB.drop j)∧Below w2.heap.size w2 wr) (fun i _=>bn - (intOf i).toNat);(case atStart=>exact⟨0,Nat.zero_le _,rfl,rfl,qqb⟩);obtain⟨j,hj,rfl,aZ,hb⟩:=hrel;have Eg:=qqh (ZS.out.below hb);have Ob:=qqh (HBD.out.trans (hb.mono HBD.out.size));have HBJ:=qqh hb;by_cases hlt:j<bn
 ·obtain⟨kk,hkk⟩:∃ z,BB[j]? = some z:=⟨_,List.getElem?_eq_getElem (by rw [HBN.out];exact hlt)⟩;obtain⟨kn,rfl,Oa⟩:=ZG.out kk (List.mem_of_getElem? hkk);obtain⟨r,hr⟩:∃ z,l[kn]? = some z:=⟨_,List.getElem?_eq_getElem Oa⟩;obtain⟨vb,vo,rfl,SB,hvc⟩:=HRI.out.at hkk;have v0:=(HBJ.out.cell (p:=⟨vb,vo+j,none⟩) SB).trans hvc;obtain⟨rb,ro,A1,A2,A3,A4,n1,c1,n2,c2,n3,c3,n4,c4,rfl,_,rU⟩:=GL Eg.out.rules hr;have HHR:=qqh (Ey (Kl lo M b A Z) (fun x=>x<lo) r rb (ro+kn*7) A1 A2 A3 A4 n1 c1 n2 c2 n3 c3 n4 c4 A.length wr.drew hT (by rw [List.length_append];omega) (lH.out r (List.mem_of_getElem? hr)) (rU.below (aE qqb)) ⟨Eg.out.blk.cell 0,Eg.out.blk.lt,Eg.out.buf.below (aE (Below.refl wr.heap.size wr))⟩);have HH:=qqh (show hereAt l (A++Z) A.length (kn:Int)=fW r (A++Z) A.length by unfold hereAt;rw [Int.toNat_natCast,hr]);have eU:=qqh (aZ.trans (show eZ l (A++Z) A.length (BB.drop j)=if hereAt l (A++Z) A.length (kn:Int)=true then (kn:Int)else eZ l (A++Z) A.length (BB.drop (j+1)) by rw [cT hkk,eZ]));have Wy:kn<nr:=(by rw [← YB.out];exact Oa);have u0:=(aj.below KN.out hb KN.out.lt).cell 0;have u1:wr.cell? ⟨M,0,none⟩=some (.pointer (some ⟨b,0,none⟩)):=Eg.out.blk.cell 0;have u2:wr.cell? ⟨M,1,none⟩=some (.slice (some ⟨rb,ro,none⟩) nr cr):=Eg.out.blk.cell 1;clear hkk hr hvc rU aZ hb;go_upto_region 6 with fail;refine ay (S:=fun w'=>w'.cell? ⟨w.heap.size,0,none⟩=some (.pointer (some ⟨M,0,none⟩))∧w'.cell? ⟨M,0,none⟩=some (.pointer (some ⟨b,0,none⟩))∧w'.cell? ⟨M,1,none⟩=some (.slice (some ⟨rb,ro,none⟩) nr cr)) [0,3,6,8,11] (by kernel_rfl) ⟨u0,u1,u2⟩ (fun aU=>?_);refine tu 0 37 ?_;(try simp only [zp,za,z0,zs]);refine tq 1 38 ?_;(try simp only [zp,za,z0,zs]);refine tq 2 39 ?_;(try simp only [zp,za,z0,zs])
  refine tu 3 40 ?_;(try simp only [zp,za,z0,zs]);refine tq 4 41 ?_;(try simp only [zp,za,z0,zs]);refine tq 5 42 ?_;(try simp only [zp,za,z0,zs]);refine tu 6 43 ?_;(try simp only [zp,za,z0,zs]);refine tq 7 44 ?_;(try simp only [zp,za,z0,zs]);refine tu 8 45 ?_;(try simp only [zp,za,z0,zs]);refine tq 9 46 ?_;(try simp only [zp,za,z0,zs]);refine tq 10 47 ?_;(try simp only [zp,za,z0,zs]);refine tu 11 48 ?_;(try simp only [zp,za,z0,zs]);refine aD (i:=12) (o:=⟨some 49,_,_,_,_,_⟩) (by kernel_rfl) rfl (fun K hK=>?_);go_simp;go_at_call 131;refine(sG (Eg.out.buf.below (aE (Below.refl wr.heap.size wr)))).mono ?_;rintro e w2 ⟨rfl,rfl⟩;(try dsimp only);refine hK.out _ _ ?_ (fun aU=>?_);exact⟨u0,u1,u2⟩;clear hK K;(try simp only [zp,za,z0,zs]);refine aC (i:=13) (o:=⟨some 50,_,_,_,_,_⟩) (by kernel_rfl) rfl (by kernel_rfl) (fun K hK=>?_);go_simp;go_at_call 166;refine HHR.out.mono ?_;rintro e w3 ⟨rfl,bP⟩;have Sn:Below wr.heap.size wr w3:=(aE (Below.refl wr.heap.size wr)).trans bP;have bM:=qqh (Ob.out.trans (Sn.mono Ob.out.size));have dS:=qqh (HBJ.out.trans (Sn.mono HBJ.out.size));clear bP Sn HHR;(try dsimp only);refine hK.out _ _ ?_;clear hK K;(try simp only [zp,za,z0,zs]);refine aK (by kernel_rfl) ?_ _;cases hh:fW r (A++Z) A.length
  ·have kY:=qqh (eU.out.trans (if_neg (by rw [HH.out,hh];decide)));clear hh;go_simp;go_wp2_with fail;exact⟨⟨j+1,by omega,by go_num,kY.out,dS.out⟩,by simp [intOf];omega⟩
  have kY:=qqh (eU.out.trans (if_pos (by rw [HH.out,hh])));clear hh;go_simp;go_wp2_with fail;go_ret;rw [← HWI.out,kY.out];exact⟨rfl,bM.out⟩
 obtain rfl:j=bn:=(by omega);rw [List.drop_of_length_le (by rw [HBN.out];exact qql)]at aZ;have kY:=qqh (HWI.out.symm.trans aZ);clear aZ hb;go_wp2_with fail;go_ret;rw [kY.out];exact⟨rfl,Ob.out⟩
section
variable {lo : Nat} {w w' : World} {M b : Nat} {A Z A' Z' : List Int} {l : List aB} {hs : List bB} {Ar : Option Addr} {nr cr : Nat} {Ah : Option Addr} {nh ch : Nat} {ez s p : Int}
theorem fI {X:Nat→Prop} (hb:Below lo w w') (hX:∀ x,X x→x<lo):ag w X w' X:=fun x hx hl=>⟨hb.block x (hX x hx),hx,Nat.lt_of_lt_of_le hl hb.size⟩
theorem cX.kp (h:cX lo w M b A Z l hs Ar nr cr Ah nh ch ez s p) (hk:Kp lo w w') (hb:xP lo w' b A' Z'):cX lo w' M b A' Z' l hs Ar nr cr Ah nh ch ez s p :=
  ⟨h.ge,hk.other M _ _ h.blk (by decide) (by decide),hb,h.rules.keep (fI hk.below (fun _ h=>h)) (fun _ _=>bC.keep (fI hk.below (fun _ h=>h))),h.heads.keep (fI hk.below (fun _ h=>h)) (fun _ _=>hJ.keep (fI hk.below (fun _ h=>h)))⟩
theorem xP.Lg (h:xP lo w b A Z) {cs:Array Value} (hM:aj w M 207 cs) (i:Nat) (u:Value):xP lo (w.setCell ⟨M,i,none⟩ u) b A Z:=by
 obtain⟨L,n,D,f,t,h1,h2⟩:=h;exact⟨L,n,D,f,t,⟨h1.buf.other hM (by decide) i u,h1.row.other hM (by decide) i u,h1.len,h1.le,h1.end_,h1.small⟩,h2⟩
structure Kq (lo:Nat) (w w':World):Prop where
  below:Below lo w w'
  other:∀ k t cs,aj w k t cs→t ≠ 21 → t ≠ 221 → t ≠ 207 → aj w' k t cs
theorem Kq.refl (lo:Nat) (w:World):Kq lo w w:=⟨qqb,fun _ _ _ h _ _ _=>h⟩
theorem Kq.trans {w1 w2:World} (h:Kq lo w w1) (h2:Kq lo w1 w2):Kq lo w w2:=⟨h.below.trans h2.below,fun k t cs hb h3 h4 h5=>h2.other k t cs (h.other k t cs hb h3 h4 h5) h3 h4 h5⟩
theorem Kq.kp (h:Kp lo w w'):Kq lo w w':=⟨h.below,fun k t cs hb h3 h4 _=>h.other k t cs hb h3 h4⟩
theorem Kq.all (h:Below w.heap.size w w') (hlo:lo≤w.heap.size):Kq lo w w':=Kq.kp (Kp.all h hlo)
theorem Kq.drewN (h:Kq lo w w') (k:Nat):Kq lo w (w'.drewN k):=⟨below_drewN h.below k,h.other⟩
theorem Kq.Lg {M:Nat} {cs:Array Value} (hM:aj w M 207 cs) (hl:lo≤M) (i:Nat) (u:Value):Kq lo w (w.setCell ⟨M,i,none⟩ u) :=
  ⟨qqb.setCell hl _,fun _ _ _ hb _ _ h5=>hb.other hM h5 i u⟩
theorem cX.steps (h:cX lo w M b A Z l hs Ar nr cr Ah nh ch ez s p) (s':Int):cX lo (w.setCell ⟨M,5,none⟩ (.int .i64 s')) M b A Z l hs Ar nr cr Ah nh ch ez s' p∧Kq lo w (w.setCell ⟨M,5,none⟩ (.int .i64 s')):=by
 have hb:Below lo w (w.setCell ⟨M,5,none⟩ (.int .i64 s')):=qqb.setCell h.ge _;exact⟨⟨h.ge,h.blk.put 5 _,h.buf.Lg h.blk 5 _,h.rules.keep (fI hb (fun _ h=>h)) (fun _ _=>bC.keep (fI hb (fun _ h=>h))),h.heads.keep (fI hb (fun _ h=>h)) (fun _ _=>hJ.keep (fI hb (fun _ h=>h)))⟩,Kq.Lg h.blk h.ge _ _⟩
theorem cX.Vm (h:cX lo w M b A Z l hs Ar nr cr Ah nh ch ez s p) (p':Int):cX lo (w.setCell ⟨M,6,none⟩ (.int .i64 p')) M b A Z l hs Ar nr cr Ah nh ch ez s p'∧Kq lo w (w.setCell ⟨M,6,none⟩ (.int .i64 p')):=by
 have hb:Below lo w (w.setCell ⟨M,6,none⟩ (.int .i64 p')):=qqb.setCell h.ge _;exact⟨⟨h.ge,h.blk.put 6 _,h.buf.Lg h.blk 6 _,h.rules.keep (fI hb (fun _ h=>h)) (fun _ _=>bC.keep (fI hb (fun _ h=>h))),h.heads.keep (fI hb (fun _ h=>h)) (fun _ _=>hJ.keep (fI hb (fun _ h=>h)))⟩,Kq.Lg h.blk h.ge _ _⟩
theorem cX.rule (h:cX lo w M b A Z l hs Ar nr cr Ah nh ch ez s p) {k:Nat} {r:aB} (hk:l[k]? = some r) :
    ∃ (rb ro:Nat) (A2 A4:Option Addr) (c2 c4:Nat),Ar=some ⟨rb,ro,none⟩∧k<nr∧w.cell? ⟨rb,ro+k*7+3,none⟩=some (.slice A2 r.source.length c2)∧w.cell? ⟨rb,ro+k*7+5,none⟩=some (.slice A4 r.target.length c4) ∧
      w.cell? ⟨rb,ro+k*7+6,none⟩=some (.int .i64 r.af)∧cV w (fun x=>x<lo) 1 A4 r.target.length (runeCells r.target):=by
 obtain⟨rb,ro,A1,A2,A3,A4,n1,c1,n2,c2,n3,c3,n4,c4,e,_,ha⟩:=GL h.rules hk;have h2:=ha.s2.list.len;have h4:=ha.s4.1;rw [runeCells_length]at h4;obtain rfl:r.source.length=n2:=h2;obtain rfl:r.target.length=n4:=(by omega);have hl:l.length=nr:=h.rules.len;exact⟨rb,ro,A2,A4,c2,c4,e,by have:=(List.getElem?_eq_some_iff.1 hk).1;omega,ha.d3,ha.d5,ha.d6,ha.s4⟩
end
theorem Fq {lo:Nat} {w:World} {M b:Nat} {A Z:List Int} {l:List aB} {hs:List bB} {Ar:Option Addr} {nr cr:Nat} {Ah:Option Addr} {nh ch:Nat} {ez s p:Nat} (h:cX lo w M b A Z l hs Ar nr cr Ah nh ch ez s p) (hs1:s=ez) (wP:ez≤100000) :
    Calls Tryz.prog 133 #[.pointer (some ⟨M,0,none⟩)] w fun e w'=>e=.returned (.tuple #[.int .i64 0,.int .i64 9])∧∃ k,w'=w.drewN k:=by
 have c3:w.cell? ⟨M,3,none⟩=some (.int .i64 ez):=h.blk.cell 3;have c5:w.cell? ⟨M,5,none⟩=some (.int .i64 s):=h.blk.cell 5;subst hs1;clear h;go_enter Tryz.func133,Tryz.ntmps133;go_wp2_with fail;go_quiet (fail);go_wp2_with fail;go_ret2;exact⟨rfl,_,rfl⟩
theorem C1 {lo:Nat} {w:World} {M b:Nat} {A Z:List Int} {l:List aB} {hs:List bB} {Ar:Option Addr} {nr cr:Nat} {Ah:Option Addr} {nh ch:Nat} {ez s p:Nat} (h:cX lo w M b A Z l hs Ar nr cr Ah nh ch ez s p) (z:Int) (Z':List Int) (hZ:Z=z::Z') (x:Int) (hx:(A++Z)[A.length]? = some x) (hx0:0≤x∧x≤1114111) (hT:(A++Z).length≤4000) (Ox:nh≤400) (qq:fS l hs 1114112) (hR:∀ r∈l,gH r) (hlen:l.length≤200) (wP:ez≤100000)  (hs1:s<ez) (zF:ij l (A++Z) A.length = -1) :
    Calls Tryz.prog 133 #[.pointer (some ⟨M,0,none⟩)] w fun e w'=>e=.returned (.tuple #[.int .i64 (-1),.int .i64 0])∧cX lo w' M b (A++[z]) Z' l hs Ar nr cr Ah nh ch ez ((s:Int)+1) p∧Kq lo w w':=by
 have VN:=qqh (show(A++Z).take (A.length+1)=A++[z]∧(A++Z).drop (A.length+1)=Z' by
  have e:A++z::Z'=(A++[z])++Z':=(by simp);rw [hZ,e];exact⟨List.take_left' (by simp),List.drop_left' (by simp)⟩)
 have hzl:Z.length=Z'.length+1:=(by rw [hZ];rfl);have hAl:A.length≤4000:=(by rw [List.length_append]at hT;omega);have hwr:IntKind.i64.wrap ((A.length:Int)+1)=(A.length:Int)+1:=(by rw [IntKind.wrap_i64];omega);have hge:=h.ge;have c3:w.cell? ⟨M,3,none⟩=some (.int .i64 ez):=h.blk.cell 3;have c5:w.cell? ⟨M,5,none⟩=some (.int .i64 s):=h.blk.cell 5;have f5:=h.blk.frozen 5;have rz:lo≤w.heap.size:=Nat.le_trans h.ge (Nat.le_of_lt h.blk.lt);have hd:((s:Int) ==(ez:Int))=false:=(by rw [beq_eq_false_iff_ne];omega);have H:=qqh h;have HX:=qqh hx;have lH:=qqh hR;have Oj:=qqh qq;clear h hx qq hR;go_enter Tryz.func133,Tryz.ntmps133;go_wp2_with fail;go_quiet (fail);have d5:(w.drewN nq).cell? ⟨M,5,none⟩=some (.int .i64 s):=c5;have g5:(w.drewN nq).frozen? ⟨M,5,none⟩=false:=f5;have hst:=(H.out.below (below_drewN qqb nq)).steps ((s:Int)+1);have fF:=qqh hst.1;have K9:=qqh (((Kq.refl lo w).drewN nq).trans hst.2);have KN:=qqh (so fF.out x HX.out hx0 (by omega) Ox Oj.out lH.out hlen);clear hst c3 c5 f5;go_wp2_with fail;refine KN.out.mono ?_;rintro e w2 ⟨rfl,aX⟩;rw [zF];have jS:=qqh (fF.out.below aX);have bL:=qqh (K9.out.trans (Kq.all aX (Nat.le_trans rz K9.out.below.size)));clear aX d5 g5 KN;have e0:w2.cell? ⟨M,0,none⟩=some (.pointer (some ⟨b,0,none⟩)):=jS.out.blk.cell 0;have uC:=qqh (show Calls Tryz.prog 145 #[.pointer (some ⟨b,0,none⟩),.int .i64 ((A.length:Int)+1)] w2.drew _ from Ch (jS.out.buf.below (aE (Below.refl w2.heap.size w2))) (A.length+1) (by omega));go_upto_region 6 with fail;refine ay (S:=fun w'=>w'.cell? ⟨M,0,none⟩=some (.pointer (some ⟨b,0,none⟩))) [3,7] (by kernel_rfl) e0 (fun aU=>?_);refine tq 0 30 ?_
 (try simp only [zp,za,z0,zs]);refine tq 1 31 ?_;(try simp only [zp,za,z0,zs]);refine tq 2 32 ?_;(try simp only [zp,za,z0,zs]);refine tu 3 33 ?_;(try simp only [zp,za,z0,zs]);refine tq 4 34 ?_;(try simp only [zp,za,z0,zs]);refine tq 5 35 ?_;(try simp only [zp,za,z0,zs]);refine tq 6 36 ?_;(try simp only [zp,za,z0,zs]);refine tu 7 37 ?_;(try simp only [zp,za,z0,zs]);refine aD (i:=8) (o:=⟨some 38,_,_,_,_,_⟩) (by kernel_rfl) rfl (fun K hK=>?_);go_simp;go_at_call 131;refine(sG (jS.out.buf.below (aE (Below.refl w2.heap.size w2)))).mono ?_;rintro e w3 ⟨rfl,rfl⟩;(try dsimp only);refine hK.out _ _ ?_ (fun aU=>?_);exact e0;clear hK K;(try simp only [zp,za,z0,zs]);refine tq 9 39 ?_;(try simp only [zp,za,z0,zs]);refine aC (i:=10) (by kernel_rfl) rfl (by kernel_rfl) (fun K hK=>?_);go_simp;go_at_call 145;refine uC.out.mono ?_;rintro e w3 ⟨rfl,rm,hkp⟩;have Jm:=qqh rm;have oV:=qqh (((Kp.refl lo w2).drew).trans hkp);clear rm hkp uC;(try dsimp only);refine hK.out _ _ ?_;clear hK K;(try simp only [Act.put,List.setIfInBounds_toArray,List.set_cons_zero,List.set_cons_succ]);refine aK (by kernel_rfl) ?_ _;go_simp;go_wp2_with fail;go_ret2;refine⟨rfl,?_,bL.out.trans (Kq.kp oV.out)⟩;have hm:=jS.out.kp oV.out Jm.out;rwa [VN.out.1,VN.out.2]at hm
theorem Jh {lo:Nat} {w:World} {M b:Nat} {A Z:List Int} {l:List aB} {hs:List bB} {Ar:Option Addr} {nr cr:Nat} {Ah:Option Addr} {nh ch:Nat} {ez s p:Nat} (h:cX lo w M b A Z l hs Ar nr cr Ah nh ch ez s p) (k:Nat) (r:aB) (hk:l[k]? = some r) (x:Int) (hx:(A++Z)[A.length]? = some x) (hx0:0≤x∧x≤1114111) (hT:(A++Z).length≤4000) (Ox:nh≤400) (qq:fS l hs 1114112) (hR:∀ r∈l,gH r) (hlen:l.length≤200) (wP:ez≤100000)  (hpb:p≤100000) (hs1:s<ez) (zF:ij l (A++Z) A.length=(k:Int)) (hfit:r.source.length≤Z.length) (wK:4000+r.source.length<A.length+Z.length+r.target.length) :
    Calls Tryz.prog 133 #[.pointer (some ⟨M,0,none⟩)] w fun e w'=>e=.returned (.tuple #[.int .i64 0,.int .i64 4])∧Below lo w w':=by
 have HK:=qqh hk;have GR:=hR r (List.mem_of_getElem? hk);have ZZ:=(GR.sets r.source (by simp [eE])).1;have Xo:=GR.tgt.1;have xy:=GR.cur;have TG:(A++Z).length=A.length+Z.length:=List.length_append;clear hk GR;have hgt:decide ((4000:Int)<((A.length+Z.length:Nat):Int) - (r.source.length:Int)+(r.target.length:Int))=true:=decide_eq_true (by omega);have hge:=h.ge;have c3:w.cell? ⟨M,3,none⟩=some (.int .i64 ez):=h.blk.cell 3;have c5:w.cell? ⟨M,5,none⟩=some (.int .i64 s):=h.blk.cell 5;have f5:=h.blk.frozen 5;have rz:lo≤w.heap.size:=Nat.le_trans h.ge (Nat.le_of_lt h.blk.lt);have hd:((s:Int) ==(ez:Int))=false:=(by rw [beq_eq_false_iff_ne];omega);have H:=qqh h;have HX:=qqh hx;have lH:=qqh hR;have Oj:=qqh qq;clear h hx qq hR;go_enter Tryz.func133,Tryz.ntmps133;go_wp2_with fail;go_quiet (fail);have d5:(w.drewN nq).cell? ⟨M,5,none⟩=some (.int .i64 s):=c5;have g5:(w.drewN nq).frozen? ⟨M,5,none⟩=false:=f5;have hst:=(H.out.below (below_drewN qqb nq)).steps ((s:Int)+1);have fF:=qqh hst.1;have K9:=qqh (((Kq.refl lo w).drewN nq).trans hst.2);have KN:=qqh (so fF.out x HX.out hx0 (by omega) Ox Oj.out lH.out hlen);clear hst c3 c5 f5;go_wp2_with fail;refine KN.out.mono ?_;rintro e w2 ⟨rfl,aX⟩;rw [zF];have jS:=qqh (fF.out.below aX);have bL:=qqh (K9.out.trans (Kq.all aX (Nat.le_trans rz K9.out.below.size)));clear aX d5 g5 KN;have rZ:=jS.out;have u6:w2.cell? ⟨M,6,none⟩=some (.int .i64 p):=rZ.blk.cell 6;have v6:=rZ.blk.frozen 6;obtain⟨rb,ro,A2,A4,c2,c4,rfl,Wy,_⟩:=rZ.rule HK.out;have u1:w2.cell? ⟨M,1,none⟩=some (.slice (some ⟨rb,ro,none⟩) nr cr):=rZ.blk.cell 1;have hpt:=rZ.Vm ((p:Int)+1);have iX:=qqh hpt.1;have bM:=qqh (bL.out.trans hpt.2)
 clear hpt rZ;have VD:decide ((k:Int)<0)=false:=decide_eq_false (by omega);generalize QG:w2.setCell ⟨M,6,none⟩ (.int .i64 ((p:Int)+1))=W3 at iX bM;have HW3:=qqh QG;have t0:W3.cell? ⟨M,0,none⟩=some (.pointer (some ⟨b,0,none⟩)):=iX.out.blk.cell 0;have t1:W3.cell? ⟨M,1,none⟩=some (.slice (some ⟨rb,ro,none⟩) nr cr):=iX.out.blk.cell 1;obtain⟨rb',ro',A2,A4,c2,c4,e9,_,t3,t5,_,_⟩:=iX.out.rule HK.out;cases e9;have aW:=qqh (fun(q:Nat)=>uP (iX.out.buf.below (below_drewN (Below.refl W3.heap.size W3) q)));have uz:=qqh (fun(q:Nat)=>sG (iX.out.buf.below (below_drewN (Below.refl W3.heap.size W3) q)));clear QG;go_upto_region 10 with fail;rw [HW3.out];clear u1 u6 v6;go_quiet (first | (go_at_call 132;exact Calls.quiet_of (aW.out _)));go_wp2_with fail;go_ret2;exact⟨rfl,below_drewN bM.out.below nq⟩
theorem Dn {lo:Nat} {w:World} {M b:Nat} {A Z:List Int} {l:List aB} {hs:List bB} {Ar:Option Addr} {nr cr:Nat} {Ah:Option Addr} {nh ch:Nat} {ez s p:Nat} (h:cX lo w M b A Z l hs Ar nr cr Ah nh ch ez s p) (k:Nat) (r:aB) (hk:l[k]? = some r) (x:Int) (hx:(A++Z)[A.length]? = some x) (hx0:0≤x∧x≤1114111) (hT:(A++Z).length≤4000) (Ox:nh≤400) (qq:fS l hs 1114112) (hR:∀ r∈l,gH r) (hlen:l.length≤200) (wP:ez≤100000)  (hpb:p≤100000) (hs1:s<ez) (zF:ij l (A++Z) A.length=(k:Int)) (hfit:r.source.length≤Z.length) (wK:A.length+Z.length+r.target.length≤4000+r.source.length) :
    Calls Tryz.prog 133 #[.pointer (some ⟨M,0,none⟩)] w fun e w'=>e=.returned (.tuple #[.int .i64 k,.int .i64 0]) ∧
      cX lo w' M b ((A++r.target++Z.drop r.source.length).take (A.length+r.af.toNat)) ((A++r.target++Z.drop r.source.length).drop (A.length+r.af.toNat)) l hs Ar nr cr Ah nh ch ez ((s:Int)+1) ((p:Int)+1)∧Kq lo w w':=by
 have HK:=qqh hk;have GR:=hR r (List.mem_of_getElem? hk);have ZZ:=(GR.sets r.source (by simp [eE])).1;have Xo:=GR.tgt.1;have xy:=GR.cur;have TG:(A++Z).length=A.length+Z.length:=List.length_append;clear hk GR;have hgt:decide ((4000:Int)<((A.length+Z.length:Nat):Int) - (r.source.length:Int)+(r.target.length:Int))=false:=decide_eq_false (by omega);have hwr:IntKind.i64.wrap ((A.length:Int)+r.af)=(A.length:Int)+r.af:=(by rw [IntKind.wrap_i64];omega);have hge:=h.ge;have c3:w.cell? ⟨M,3,none⟩=some (.int .i64 ez):=h.blk.cell 3;have c5:w.cell? ⟨M,5,none⟩=some (.int .i64 s):=h.blk.cell 5;have f5:=h.blk.frozen 5;have rz:lo≤w.heap.size:=Nat.le_trans h.ge (Nat.le_of_lt h.blk.lt);have hd:((s:Int) ==(ez:Int))=false:=(by rw [beq_eq_false_iff_ne];omega);have H:=qqh h;have HX:=qqh hx;have lH:=qqh hR;have Oj:=qqh qq;clear h hx qq hR;go_enter Tryz.func133,Tryz.ntmps133;go_wp2_with fail;go_quiet (fail);have d5:(w.drewN nq).cell? ⟨M,5,none⟩=some (.int .i64 s):=c5;have g5:(w.drewN nq).frozen? ⟨M,5,none⟩=false:=f5;have hst:=(H.out.below (below_drewN qqb nq)).steps ((s:Int)+1);have fF:=qqh hst.1;have K9:=qqh (((Kq.refl lo w).drewN nq).trans hst.2);have KN:=qqh (so fF.out x HX.out hx0 (by omega) Ox Oj.out lH.out hlen);clear hst c3 c5 f5;go_wp2_with fail;refine KN.out.mono ?_;rintro e w2 ⟨rfl,aX⟩;rw [zF];have jS:=qqh (fF.out.below aX);have bL:=qqh (K9.out.trans (Kq.all aX (Nat.le_trans rz K9.out.below.size)));clear aX d5 g5 KN;have rZ:=jS.out;have u6:w2.cell? ⟨M,6,none⟩=some (.int .i64 p):=rZ.blk.cell 6;have v6:=rZ.blk.frozen 6;obtain⟨rb,ro,A2,A4,c2,c4,rfl,Wy,_⟩:=rZ.rule HK.out
 have u1:w2.cell? ⟨M,1,none⟩=some (.slice (some ⟨rb,ro,none⟩) nr cr):=rZ.blk.cell 1;have hpt:=rZ.Vm ((p:Int)+1);have iX:=qqh hpt.1;have bM:=qqh (bL.out.trans hpt.2);clear hpt rZ;have VD:decide ((k:Int)<0)=false:=decide_eq_false (by omega);generalize QG:w2.setCell ⟨M,6,none⟩ (.int .i64 ((p:Int)+1))=W3 at iX bM;have HW3:=qqh QG;have t0:W3.cell? ⟨M,0,none⟩=some (.pointer (some ⟨b,0,none⟩)):=iX.out.blk.cell 0;have t1:W3.cell? ⟨M,1,none⟩=some (.slice (some ⟨rb,ro,none⟩) nr cr):=iX.out.blk.cell 1;obtain⟨rb',ro',A2,A4,c2,c4,e9,_,t3,t5,_,_⟩:=iX.out.rule HK.out;cases e9;have aW:=qqh (fun(q:Nat)=>uP (iX.out.buf.below (below_drewN (Below.refl W3.heap.size W3) q)));have uz:=qqh (fun(q:Nat)=>sG (iX.out.buf.below (below_drewN (Below.refl W3.heap.size W3) q)));clear QG;go_upto_region 10 with fail;rw [HW3.out];clear u1 u6 v6;go_quiet (first | (go_at_call 132;exact Calls.quiet_of (aW.out _)));go_wp2_with fail;refine(uz.out nq).mono ?_;rintro e w4 ⟨rfl,rfl⟩;have Rb:=qqh (iX.out.below (below_drewN (Below.refl W3.heap.size W3) nq));have dS:=qqh (bM.out.drewN nq);have x0:(W3.drewN nq).cell? ⟨M,0,none⟩=some (.pointer (some ⟨b,0,none⟩)):=t0;have x3:(W3.drewN nq).cell? ⟨rb,ro+k*7+3,none⟩=some (.slice A2 r.source.length c2):=t3;generalize SW:W3.drewN nq=W4 at *;have Vq:=qqh (O0 (Rb.out.buf.below (aE (Below.refl W4.heap.size W4))) r.source.length hfit);clear SW t0 t1 t3 t5 uz aW hgt;go_upto_region 13 with fail;refine ay (S:=fun w'=>w'.cell? ⟨M,0,none⟩=some (.pointer (some ⟨b,0,none⟩))∧w'.cell? ⟨rb,ro+k*7+3,none⟩=some (.slice A2 r.source.length c2)) [3,7] (by kernel_rfl) ⟨x0,x3⟩ (fun aU=>?_);refine tq 0 80 ?_;(try simp only [zp,za,z0,zs]);refine tq 1 81 ?_;(try simp only [zp,za,z0,zs])
 refine tq 2 82 ?_;(try simp only [zp,za,z0,zs]);refine tu 3 83 ?_;(try simp only [zp,za,z0,zs]);refine tq 4 84 ?_;(try simp only [zp,za,z0,zs]);refine tq 5 85 ?_;(try simp only [zp,za,z0,zs]);refine tq 6 86 ?_;(try simp only [zp,za,z0,zs]);refine tu 7 87 ?_;(try simp only [zp,za,z0,zs]);refine tq 8 88 ?_;(try simp only [zp,za,z0,zs]);refine aC (i:=9) (by kernel_rfl) rfl (by kernel_rfl) (fun K hK=>?_);go_simp;go_at_call 146;refine Vq.out.mono ?_;rintro e w5 ⟨rfl,rm,hkp⟩;have TV:=qqh (Rb.out.kp ((Kp.refl lo W4).drew.trans hkp) rm);have dG:=qqh (dS.out.trans (Kq.kp ((Kp.refl lo W4).drew.trans hkp)));clear rm hkp Vq;(try dsimp only);refine hK.out _ _ ?_;clear hK K;(try simp only [Act.put,List.setIfInBounds_toArray,List.set_cons_zero,List.set_cons_succ]);refine aK (by kernel_rfl) ?_ _;go_simp;obtain⟨rb',ro',B2,B4,d2,d4,e9,_,_,x5,_,hx4⟩:=TV.out.rule HK.out;cases e9;have x0:w5.cell? ⟨M,0,none⟩=some (.pointer (some ⟨b,0,none⟩)):=TV.out.blk.cell 0;have WT:=qqh (PO (c2:=d4) (TV.out.buf.below (aE (Below.refl w5.heap.size w5))) r.target B4 r.target.length (hx4.keep (ag.any (aE qqb))) Xo (by rw [List.length_drop];omega));clear hx4 x3;go_upto_region 14 with fail;refine ay (S:=fun w'=>w'.cell? ⟨M,0,none⟩=some (.pointer (some ⟨b,0,none⟩))∧w'.cell? ⟨rb,ro+k*7+5,none⟩=some (.slice B4 r.target.length d4)) [3,7] (by kernel_rfl) ⟨x0,x5⟩ (fun aU=>?_);refine tq 0 90 ?_;(try simp only [zp,za,z0,zs]);refine tq 1 91 ?_;(try simp only [zp,za,z0,zs]);refine tq 2 92 ?_;(try simp only [zp,za,z0,zs]);refine tu 3 93 ?_;(try simp only [zp,za,z0,zs]);refine tq 4 94 ?_;(try simp only [zp,za,z0,zs]);refine tq 5 95 ?_;(try simp only [zp,za,z0,zs]);refine tq 6 96 ?_;(try simp only [zp,za,z0,zs]);refine tu 7 97 ?_;(try simp only [zp,za,z0,zs])
 refine aC (i:=8) (by kernel_rfl) rfl (by kernel_rfl) (fun K hK=>?_);go_simp;go_at_call 147;refine WT.out.mono ?_;rintro e w6 ⟨rfl,rm,hkp⟩;have TY:=qqh (TV.out.kp ((Kp.refl lo w5).drew.trans hkp) rm);have gT:=qqh (dG.out.trans (Kq.kp ((Kp.refl lo w5).drew.trans hkp)));clear rm hkp WT;(try dsimp only);refine hK.out _ _ ?_;clear hK K;(try simp only [Act.put,List.setIfInBounds_toArray,List.set_cons_zero,List.set_cons_succ]);refine aK (by kernel_rfl) ?_ _;go_simp;obtain⟨rb',ro',C2,C4,g2,g4,e9,_,_,_,x6,_⟩:=TY.out.rule HK.out;cases e9;have x0:w6.cell? ⟨M,0,none⟩=some (.pointer (some ⟨b,0,none⟩)):=TY.out.blk.cell 0;obtain⟨cu,U4⟩:∃ cu:Nat,r.af=(cu:Int):=⟨r.af.toNat,by omega⟩;have uC:=qqh (show Calls Tryz.prog 145 #[.pointer (some ⟨b,0,none⟩),.int .i64 ((A.length:Int)+r.af)] w6.drew _ by
  have:=Ch (TY.out.buf.below (aE (Below.refl w6.heap.size w6))) (A.length+r.af.toNat) (by rw [List.length_append,List.length_drop];omega);rwa [show((A.length+r.af.toNat:Nat):Int)=(A.length:Int)+r.af by omega]at this)
 clear x5 U4;go_upto_region 15 with fail;refine ay (S:=fun w'=>w'.cell? ⟨M,0,none⟩=some (.pointer (some ⟨b,0,none⟩))∧w'.cell? ⟨rb,ro+k*7+6,none⟩=some (.int .i64 r.af)) [3,8] (by kernel_rfl) ⟨x0,x6⟩ (fun aU=>?_);refine tq 0 99 ?_;(try simp only [zp,za,z0,zs]);refine tq 1 100 ?_;(try simp only [zp,za,z0,zs]);refine tq 2 101 ?_;(try simp only [zp,za,z0,zs]);refine tu 3 102 ?_;(try simp only [zp,za,z0,zs]);refine tq 4 103 ?_;(try simp only [zp,za,z0,zs]);refine tq 5 104 ?_;(try simp only [zp,za,z0,zs]);refine tq 6 105 ?_;(try simp only [zp,za,z0,zs]);refine tq 7 106 ?_;(try simp only [zp,za,z0,zs]);refine tu 8 107 ?_;(try simp only [zp,za,z0,zs]);refine tq 9 108 ?_;(try simp only [zp,za,z0,zs]);refine aC (i:=10) (by kernel_rfl) rfl (by kernel_rfl) (fun K hK=>?_);go_simp;go_at_call 145;refine uC.out.mono ?_;rintro e w7 ⟨rfl,rm,hkp⟩;have HM7:=qqh (TY.out.kp ((Kp.refl lo w6).drew.trans hkp) rm);have kR:=qqh (gT.out.trans (Kq.kp ((Kp.refl lo w6).drew.trans hkp)));clear rm hkp uC;(try dsimp only);refine hK.out _ _ ?_;clear hK K;(try simp only [Act.put,List.setIfInBounds_toArray,List.set_cons_zero,List.set_cons_succ]);refine aK (by kernel_rfl) ?_ _;go_simp;go_wp2_with fail;go_ret2;exact⟨rfl,HM7.out,kR.out⟩
theorem Ks {lo:Nat} {w:World} {M b:Nat} {A Z:List Int} {l:List aB} {hs:List bB} {Ar:Option Addr} {nr cr:Nat} {Ah:Option Addr} {nh ch:Nat} {ez s p:Nat} (h:cX lo w M b A Z l hs Ar nr cr Ah nh ch ez s p) (z:Int) (Z':List Int) (hZ:Z=z::Z') (x:Int) (hx:(A++Z)[A.length]? = some x) (hx0:0≤x∧x≤1114111) (hT:(A++Z).length≤4000) (Ox:nh≤400) (qq:fS l hs 1114112) (hR:∀ r∈l,gH r) (hlen:l.length≤200) (wP:ez≤100000)  (hs1:s<ez) (zF:ij l (A++Z) A.length = -1) :
    Calls Tryz.prog 133 #[.pointer (some ⟨M,0,none⟩)] w fun e w'=>e=.returned (.tuple #[.int .i64 (-1),.int .i64 0])∧cX lo w' M b (A++[z]) Z' l hs Ar nr cr Ah nh ch ez ((s:Int)+1) p∧Below lo w w' :=
  (C1 h z Z' hZ x hx hx0 hT Ox qq hR hlen wP hs1 zF).mono fun _ _ ⟨e,h1,h2⟩=>⟨e,h1,h2.below⟩
theorem I1 {lo:Nat} {w:World} {M b:Nat} {A Z:List Int} {l:List aB} {hs:List bB} {Ar:Option Addr} {nr cr:Nat} {Ah:Option Addr} {nh ch:Nat} {ez s p:Nat} (h:cX lo w M b A Z l hs Ar nr cr Ah nh ch ez s p) (k:Nat) (r:aB) (hk:l[k]? = some r) (x:Int) (hx:(A++Z)[A.length]? = some x) (hx0:0≤x∧x≤1114111) (hT:(A++Z).length≤4000) (Ox:nh≤400) (qq:fS l hs 1114112) (hR:∀ r∈l,gH r) (hlen:l.length≤200) (wP:ez≤100000)  (hpb:p≤100000) (hs1:s<ez) (zF:ij l (A++Z) A.length=(k:Int)) (hfit:r.source.length≤Z.length) (wK:A.length+Z.length+r.target.length≤4000+r.source.length) :
    Calls Tryz.prog 133 #[.pointer (some ⟨M,0,none⟩)] w fun e w'=>e=.returned (.tuple #[.int .i64 k,.int .i64 0]) ∧
      cX lo w' M b ((A++r.target++Z.drop r.source.length).take (A.length+r.af.toNat)) ((A++r.target++Z.drop r.source.length).drop (A.length+r.af.toNat)) l hs Ar nr cr Ah nh ch ez ((s:Int)+1) ((p:Int)+1)∧Below lo w w' :=
  (Dn h k r hk x hx hx0 hT Ox qq hR hlen wP hpb hs1 zF hfit wK).mono fun _ _ ⟨e,h1,h2⟩=>⟨e,h1,h2.below⟩
structure Ke where
  text:List Int
  steps:Nat
  put:Nat
def i6:Ke:=⟨[],0,0⟩
def fA (l:List aB):Nat→List Int→List Int→Nat→Nat→Ke × Int
  | _,done,[],s,p=>(⟨done,s,p⟩,0)
  | 0,_,_::_,_,_=>(i6,9)
  | left+1,done,z::rest,s,p=>
    if ij l (done++z::rest) done.length<0 then fA l left (done++[z]) rest (s+1) p
    else match l[(ij l (done++z::rest) done.length).toNat]? with
      | none=>(i6,0)
      | some r=>
        if 4000<done.length+(r.target++(z::rest).drop r.source.length).length then (i6,4)
        else fA l left (done++(r.target++(z::rest).drop r.source.length).take r.af.toNat) ((r.target++(z::rest).drop r.source.length).drop r.af.toNat) (s+1) (p+1)
def cm (t:List Int):Int:=if 4000<t.length then 4 else if cI t=true then 3 else 0
def CV (o:Ke × Int):Ke × (Int × Int):=if o.2≠0 then (i6,(o.2,0))else (o.1,(0,0))
theorem sg (l:List aB) (left:Nat) (done:List Int) (s p:Nat):fA l left done [] s p=(⟨done,s,p⟩,0):=by cases left <;> rfl
theorem F6 (l:List aB) {Z:List Int} (done:List Int) (s p:Nat) (h:Z ≠ []):fA l 0 done Z s p=(i6,9):=by
 cases Z with
 | nil=>exact absurd rfl h
 | cons z Z=>rfl
theorem EV {l:List aB} {left:Nat} {done rest:List Int} {z:Int} {s p:Nat} (h:ij l (done++z::rest) done.length = -1):fA l (left+1) done (z::rest) s p=fA l left (done++[z]) rest (s+1) p:=by
 rw [fA,if_pos (by rw [h];decide)]
theorem Fo {l:List aB} {left:Nat} {done rest:List Int} {z:Int} {s p k:Nat} {r:aB} (h:ij l (done++z::rest) done.length=(k:Int)) (hk:l[k]? = some r) (hm:4000<done.length+(r.target++(z::rest).drop r.source.length).length) :
    fA l (left+1) done (z::rest) s p=(i6,4):=by
 rw [fA,if_neg (by rw [h];omega),h,Int.toNat_natCast,hk];simp only;rw [if_pos hm]
theorem Gl {l:List aB} {left:Nat} {done rest:List Int} {z:Int} {s p k:Nat} {r:aB} (h:ij l (done++z::rest) done.length=(k:Int)) (hk:l[k]? = some r) (hm:¬ 4000<done.length+(r.target++(z::rest).drop r.source.length).length) :
    fA l (left+1) done (z::rest) s p=fA l left (done++(r.target++(z::rest).drop r.source.length).take r.af.toNat) ((r.target++(z::rest).drop r.source.length).drop r.af.toNat) (s+1) (p+1):=by
 rw [fA,if_neg (by rw [h];omega),h,Int.toNat_natCast,hk];simp only;rw [if_neg hm]
theorem IB {r:aB} {A Z:List Int} (h:fW r (A++Z) A.length=true):r.source.length≤Z.length:=by
 have h1:mD (A++Z) A.length r.source=true:=by
  unfold fW at h;simp only [Bool.and_eq_true]at h;exact h.1.1.1.1
 unfold mD at h1;split at h1
 ·cases h1
 rename_i hn;rw [not_or,List.length_append]at hn;omega
def Runes (t:List Int):Prop:=∀ x∈t,0≤x∧x≤1114111
theorem Ck {t:List Int} (h:cI t=false):Runes t:=by
 intro x hx;unfold cI at h;have h2:bE x=true:=by
  have:=List.any_eq_false.1 h x hx;simpa using this
 unfold bE at h2;simp at h2;omega
theorem EW (x:Int) (w:World):Calls Tryz.prog 42 #[.int .i32 x] w fun e w'=>e=.returned (.bool (!bE x))∧w'=w:=by
 go_enter Tryz.func42,Tryz.ntmps42;go_wp2_with fail;refine(gx _ _).mono ?_;rintro e w1 ⟨rfl,rfl⟩;go_wp2_with fail;go_ret;exact⟨rfl,rfl⟩
theorem Nn (A:Option Addr) (n c:Nat) (l:List Int) (w:World) (hn:n≤9223372036854775807) (hl:nK w w.heap.size A n l) :
    Calls Tryz.prog 72 #[.slice A n c,.func (.func 42) #[] #[]] w fun e w'=>(∃ k:Int,e=.returned (.int .i64 k)∧decide (0≤k)=cI l)∧Below w.heap.size w w':=by
 have aW:=qqh hl.len;have HL:=qqh hl;clear hl;go_enter Tryz.func72,Tryz.ntmps72;go_wp2_with fail;go_loopw [8] (QV w l n) (fun i _=>n - (intOf i).toNat);(case atStart=>exact⟨0,Nat.zero_le _,rfl,rfl,qqb⟩);obtain⟨j,hj,rfl,aZ,hb⟩:=hrel;by_cases hlt:j<n
 ·obtain⟨x,hx⟩:∃ z,l[j]? = some z:=⟨_,List.getElem?_eq_getElem (by rw [aW.out];exact hlt)⟩;obtain⟨b,off,rfl,ey,c0⟩:=HL.out.at hlt;rw [show l.getD j 0=x by simp [List.getD,hx]]at c0;have d0:=(hb.cell (p:=⟨b,off+j,none⟩) ey).trans c0;rw [cT hx,show cI (x::l.drop (j+1))=(!bE x || cI (l.drop (j+1))) from rfl]at aZ;have HG:=qqh aZ;have HX:=qqh hx;clear aZ hx c0;go_wp2_with fail;refine(EW _ _).mono ?_;rintro e w1 ⟨rfl,rfl⟩;cases hr:bE x
  ·have HR:=qqh hr;clear hr;go_wp2_with fail;go_ret;refine⟨⟨_,rfl,?_⟩,hb⟩;rw [HG.out,HR.out];simp
  have HR:=qqh hr;clear hr;go_wp2_with fail;exact⟨⟨j+1,by omega,by go_num,by rw [HG.out,HR.out];rfl,hb⟩,by simp [intOf];omega⟩
 obtain rfl:j=n:=(by omega);rw [List.drop_of_length_le (by rw [aW.out];omega)]at aZ;have HG:=qqh (aZ.trans (show cI [] = false from rfl));clear aZ;go_wp2_with fail;go_ret;exact⟨⟨_,rfl,by rw [HG.out];rfl⟩,hb⟩
theorem C3 (A:Option Addr) (n c:Nat) (l:List Int) (w:World) (hn:n≤9223372036854775807) (hl:nK w w.heap.size A n l) :
    Calls Tryz.prog 41 #[.slice A n c,.func (.func 42) #[] #[]] w fun e w'=>e=.returned (.bool (cI l))∧Below w.heap.size w w':=by
 have H:=qqh (Nn A n c l w hn hl);clear hl;go_enter Tryz.func41,Tryz.ntmps41;go_wp2_with fail;refine H.out.mono ?_;rintro e w1 ⟨⟨k,rfl,hk⟩,hb⟩;have HK:=qqh hk;clear hk;go_wp2_with fail;go_ret;refine⟨?_,hb⟩;rw [← HK.out];rfl
theorem mN (A:Option Addr) (n c:Nat) (t:List Int) (w:World) (hn:n≤maxLen) (ht:nK w w.heap.size A n t) :
    Calls Tryz.prog 20 #[.slice A n c] w fun e w'=>e=.returned (.int .i64 (cm t))∧Below w.heap.size w w':=by
 have hl:=ht.len;simp only [maxLen]at hn;have HC:=qqh (C3 A n c t w (by omega) ht);clear ht;by_cases h4:4000<n
 ·have HP:=qqh (show cm t=4 by unfold cm;rw [if_pos (by rw [hl];exact h4)]);clear hl;go_enter Tryz.func20,Tryz.ntmps20;go_wp2_with fail;go_ret;rw [HP.out];exact⟨rfl,qqb⟩
 have HP:=qqh (show cm t=if cI t=true then 3 else 0 by unfold cm;rw [if_neg (by rw [hl];exact h4)]);clear hl;go_enter Tryz.func20,Tryz.ntmps20;go_wp2_with fail;refine HC.out.mono ?_;rintro e w1 ⟨rfl,hb⟩;have HB:=qqh hb;clear hb;cases V7:cI t
 ·have oF:=qqh (show cm t=0 by rw [HP.out,V7];rfl);go_wp2_with fail;go_ret;rw [oF.out];exact⟨rfl,HB.out⟩
 have oF:=qqh (show cm t=3 by rw [HP.out,V7];rfl);go_wp2_with fail;go_ret;rw [oF.out];exact⟨rfl,HB.out⟩
theorem J1 (n:Nat) (hn:n≤4000) (w:World):Calls Tryz.prog 130 #[.int .i64 n] w fun e w'=>e=.returned (.int .i64 (8*n+40:Nat))∧w'=w:=by
 have h:((8*n+40:Nat):Int)=8*(n:Int)+40:=(by omega);rw [h];clear h;go_enter Tryz.func130,Tryz.ntmps130;go_wp2_with fail;go_ret;exact⟨rfl,rfl⟩
def xo (w:World) (X:Nat→Prop) (l:List aa) (xs:List Value):Prop:=xs.length=l.length∧∀ (i:Nat) (s:aa) (u:Value),l[i]? = some s→xs[i]? = some u→jq w X s u
theorem xo.keep {w w':World} {X X':Nat→Prop} {l:List aa} {xs:List Value} (hk:ag w X w' X') (h:xo w X l xs):xo w' X' l xs:=⟨h.1,fun i s u h1 h2=>(h.2 i s u h1 h2).keep hk⟩
end Go.Proofs.YtblinekbpcdbfaaGreatDoor
