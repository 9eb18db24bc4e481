/- MachAll + RunP + RefMatch -/
import Derived.Test.YthgkedoildcbcaaGreatDoorZt26
import Derived.Test.YthgkedoildcbcaaGreatDoorZt25
import Derived.Test.YthgkedoildcbcaaGreatDoorZt17
import Derived.Test.YthgkedoildcbcaaGreatDoorZt16
import Derived.BigRegion
set_option maxHeartbeats 6400000
set_option maxRecDepth 100000
namespace Go.Proofs.YthgkedoildcbcaaGreatDoor
open Go.RowKit
theorem sn {t:TypeId} {name:String} {path:List FieldStep} {f:FuncId} (h:(Tryz.prog.info? t).map (fun i=>(i.methods.find? (·.name == name)).map fun m=>(m.path.toList,m.func))=some (some (path,some (f,true)))) :
    ∃ i,Tryz.prog.info? t=some i∧∃ m,i.methods.find? (·.name == name)=some m∧m.path.toList=path∧m.func=some (f,true):=by
 obtain⟨i,hi,h2⟩:=Option.map_eq_some_iff.1 h;obtain⟨m,hm,h3⟩:=Option.map_eq_some_iff.1 h2;simp only [Prod.mk.injEq]at h3;exact⟨i,hi,m,hm,h3.1,h3.2⟩
theorem Ln (M:Nat) (w:World) (v:Value) (h:w.cell? ⟨M,0,none⟩=some v):(method 392 177 (.pointer (some ⟨M,0,none⟩)) "Len").run Tryz.prog w=.ok (101,v) w:=by
 obtain⟨i,hi,m,hm,hp,hf⟩:=sn (t:=177) (name:="Len") (path:=[⟨181,0,true⟩]) (f:=101) (by kernel_rfl);unfold method;simp [go_sem,typeInfo,hi,hm,hp,hf,follow,receiverAt,Place.get,loadVar,h]
theorem JH (M:Nat) (w:World) (v:Value) (h:w.cell? ⟨M,0,none⟩=some v):(method 392 177 (.pointer (some ⟨M,0,none⟩)) "Rune").run Tryz.prog w=.ok (137,v) w:=by
 obtain⟨i,hi,m,hm,hp,hf⟩:=sn (t:=177) (name:="Rune") (path:=[⟨181,0,true⟩]) (f:=137) (by kernel_rfl);unfold method;simp [go_sem,typeInfo,hi,hm,hp,hf,follow,receiverAt,Place.get,loadVar,h]
theorem Gn:∀ args w,(callFunc 101 args).run Tryz.prog w=.ok (.enter 101 args) w:=enters_of Tryz.func101 (by kernel_rfl) rfl
theorem CL:∀ args w,(callFunc 137 args).run Tryz.prog w=.ok (.enter 137 args) w:=enters_of Tryz.func137 (by kernel_rfl) rfl
def Wo (lo M b:Nat) (A Z:List Int) (w:World):Prop:=w.cell? ⟨M,0,none⟩=some (.pointer (some ⟨b,0,none⟩))∧M<w.heap.size∧wY lo w b A Z
theorem KB (lo M b:Nat) (A Z:List Int):Ie 177 (.pointer (some ⟨M,0,none⟩)) (.pointer (some ⟨b,0,none⟩)) 101 137 (A++Z) (Wo lo M b A Z) where
  enterL:=Gn
  enterR:=CL
  ml:=fun w h=>Ln M w _ h.1
  mr:=fun w h=>JH M w _ h.1
  len:=fun w h=>by
    have:=sU h.2.2
    rwa [← List.length_append]at this
  rune:=fun w k x h hx=>DN h.2.2 k x hx
  keep:=fun w w' h hb=>⟨(hb.cell (p:=⟨M,0,none⟩) h.2.1).trans h.1,Nat.lt_of_lt_of_le h.2.1 hb.size,h.2.2.below hb⟩
def hereAt (l:List aj) (T:List Int) (q:Nat) (k:Int):Bool:=match l[k.toNat]? with | some r=>dM r T q | none=>false
def dn (l:List aj) (T:List Int) (q:Nat):List Int→Int
  | []=>-1
  | k::ks=>if hereAt l T q k=true then k else dn l T q ks
def upTo (n:Nat):List Int:=(List.range n).map fun i:Nat=>(i:Int)
def dm (l:List aj) (T:List Int) (q:Nat):Int:=dn l T q (upTo l.length)
theorem xy (l:List aj) (T:List Int) (q:Nat) (m:Nat→Bool):∀ (ks:List Nat),(∀ k∈ks,m k=false→hereAt l T q (k:Int)=false)→dn l T q ((ks.filter m).map fun i:Nat=>(i:Int))=dn l T q (ks.map fun i:Nat=>(i:Int)):=by
 intro ks;induction ks with
 | nil=>intro _;rfl
 | cons k ks ih=>
  intro h;have h2:=ih (fun x hx=>h x (by simp [hx]));cases hm:m k
  ·rw [List.filter_cons_of_neg (by simp [hm]),h2,List.map_cons,dn,if_neg (by rw [h k (by simp) hm];decide)]
  rw [List.filter_cons_of_pos hm,List.map_cons,List.map_cons,dn,dn,h2]
theorem Fw {r:aj} {T:List Int} {q:Nat} {x:Int} (hs:r.source ≠ []) (hx:T[q]? = some x) (h:bF (bA r) x=false):dM r T q=false:=by
 have h1:mD T q r.source=false:=by
  cases hr:r.source with
  | nil=>exact absurd hr hs
  | cons s l=>
   unfold mD;split;rfl;have:bA r=s:=(by unfold bA;rw [hr];rfl);rw [this]at h;rw [Int.toNat_natCast,cB hx,j7,h,Bool.false_and]
 unfold dM;rw [h1];simp
theorem ES {l:List aj} {T:List Int} {q:Nat} {x:Int} (hs:∀ r∈l,r.source ≠ []) (hx:T[q]? = some x):dn l T q (bZ l x)=dm l T q:=by
 unfold bZ dK dm upTo;refine xy l T q _ _ (fun k hk hm=>?_);unfold hereAt;rw [Int.toNat_natCast];cases hl:l[k]? with
 | none=>rfl
 | some r=>
  unfold vF at hm;rw [hl]at hm;exact Fw (hs r (List.mem_of_getElem? hl)) hx hm
theorem zM (l:List aj) (T:List Int) (q:Nat):∀ ks:List Int,(∀ k∈ks,0≤k)→dn l T q ks = -1∨∃ (k:Nat) (r:aj),dn l T q ks=(k:Int)∧l[k]? = some r∧dM r T q=true:=by
 intro ks;induction ks with
 | nil=>intro _;exact .inl rfl
 | cons k ks ih=>
  intro h;rw [dn];by_cases hk:hereAt l T q k=true
  ·rw [if_pos hk];right;unfold hereAt at hk;cases hl:l[k.toNat]? with
   | none=>rw [hl]at hk;cases hk
   | some r=>
    rw [hl]at hk;exact⟨k.toNat,r,by have:=h k (by simp);omega,hl,hk⟩
  rw [if_neg hk];exact ih (fun x hx=>h x (by simp [hx]))
theorem fW (l:List aj) (T:List Int) (q:Nat):dm l T q = -1∨∃ (k:Nat) (r:aj),dm l T q=(k:Int)∧l[k]? = some r∧dM r T q=true :=
  zM l T q _ (fun k hk=>by
    unfold upTo at hk
    obtain⟨i,_,rfl⟩:=List.mem_map.1 hk
    omega)
theorem zE (gm gr M blk off n c i:Nat) (r y:Int) (w:World) (hi:i<n) (hm:w.cell? ⟨gm,0,none⟩=some (.pointer (some ⟨M,0,none⟩))) (ha:w.cell? ⟨M,2,none⟩=some (.slice (some ⟨blk,off,none⟩) n c)) (hr:w.cell? ⟨gr,0,none⟩=some (.int .i32 r)) (hc:w.cell? ⟨blk,off+i*3+1,none⟩=some (.int .i32 y)) :
    Calls Tryz.prog 138 (#[.int .i64 i] ++ #[.pointer (some ⟨gm,0,none⟩),.pointer (some ⟨gr,0,none⟩)]) w fun e w'=>e=.returned (.bool (decide (r≤y)))∧Below w.heap.size w w':=by
 have hiz:(i:Int)<(n:Int):=(by omega);go_enter Tryz.func138,Tryz.ntmps138;go_wp2_with fail;go_quiet (fail);go_wp2_with fail;go_ret;exact⟨rfl,below_drewN (Below.refl _ _) _⟩
theorem Cl:∀ args w,(callFunc 138 args).run Tryz.prog w=.ok (.enter 138 args) w:=enters_of Tryz.func138 (by kernel_rfl) rfl
def eZ (b:Nat) (Ar:Option Addr) (nr cr:Nat) (Ah:Option Addr) (nh ch:Nat) (bO s p:Int):Array Value:=#[.pointer (some ⟨b,0,none⟩),.slice Ar nr cr,.slice Ah nh ch,.int .i64 bO,.slice none 0 0,.int .i64 s,.int .i64 p]
structure cK (lo:Nat) (w:World) (M b:Nat) (A Z:List Int) (l:List aj) (hs:List bt) (Ar:Option Addr) (nr cr:Nat) (Ah:Option Addr) (nh ch:Nat) (bO s p:Int):Prop where
  ge:lo≤M
  blk:ai w M 181 (eZ b Ar nr cr Ah nh ch bO s p)
  buf:wY lo w b A Z
  rules:aZ (aO w (fun x=>x<lo)) w (fun x=>x<lo) 7 Ar nr l
  heads:aZ (fS w (fun x=>x<lo)) w (fun x=>x<lo) 3 Ah nh hs
theorem cK.below {lo:Nat} {w w':World} {M b:Nat} {A Z:List Int} {l:List aj} {hs:List bt} {Ar:Option Addr} {nr cr:Nat} {Ah:Option Addr} {nh ch:Nat} {bO s p:Int} (h:cK lo w M b A Z l hs Ar nr cr Ah nh ch bO s p) (hb:Below w.heap.size w w'):cK lo w' M b A Z l hs Ar nr cr Ah nh ch bO s p :=
  ⟨h.ge,ai.below h.blk hb h.blk.lt,h.buf.below hb,h.rules.keep (af.any hb) (fun _ _=>aO.keep (af.any hb)),h.heads.keep (af.any hb) (fun _ _=>fS.keep (af.any hb))⟩
theorem sZ {lo:Nat} {w:World} {M b:Nat} {A Z:List Int} {l:List aj} {hs:List bt} {Ar:Option Addr} {nr cr:Nat} {Ah:Option Addr} {nh ch:Nat} {bO s p:Int} (h:cK lo w M b A Z l hs Ar nr cr Ah nh ch bO s p)
    (x:Int) (hx:(A++Z)[A.length]? = some x) (hx0:0≤x∧x≤1114111) (hT:(A++Z).length≤100000) (N3:nh≤400) (ru:fT l hs 1114112) (hR:∀ r∈l,ef r) (hlen:l.length≤200) :
    Calls Tryz.prog 122 #[.pointer (some ⟨M,0,none⟩)] w fun e w'=>e=.returned (.int .i64 (dm l (A++Z) A.length))∧Below w.heap.size w w':=by
 have eX:=(Below.refl w.heap.size w).alloc (Nat.le_refl _) (.cells #[.pointer (some ⟨M,0,none⟩)] 177);have H:=qqh h;have HX:=qqh hx;have Wf:=qqh ru;have ko:=qqh hR;have V5:=qqh (show hs.length=nh from h.heads.len);have No:=qqh (show l.length=nr from h.rules.len);have E8:=qqh (h.below eX);have HG:=qqh (ai.new w 177 #[.pointer (some ⟨M,0,none⟩)]);have dO:=qqh eX;clear h hx ru hR eX;go_enter Tryz.func122,Tryz.ntmps122;go_wp2_with fail;generalize hW1:w.alloc (.cells #[.pointer (some ⟨M,0,none⟩)] 177)=W1 at *;have g0:=HG.out.cell 0;have c0:=E8.out.blk.cell 0;have KA:=HG.out.lt;have hml:=E8.out.blk.lt;have rG:=qqh (fun(W:World) (hb:Below W1.heap.size W1 W)=>rB (E8.out.buf.below hb));have lZ:=qqh (fun(W:World) (hb:Below W1.heap.size W1 W)=>DN (E8.out.buf.below hb) A.length x HX.out);clear hW1;have HC:=qqh (fun(W:World) (hb:Below W1.heap.size W1 W)=>show W.cell? ⟨w.heap.size,0,none⟩=some (.pointer (some ⟨M,0,none⟩))∧W.cell? ⟨M,0,none⟩=some (.pointer (some ⟨b,0,none⟩)) from⟨(hb.cell (p:=⟨w.heap.size,0,none⟩) KA).trans g0,(hb.cell (p:=⟨M,0,none⟩) hml).trans c0⟩);go_upto_region 1 with fail;go_cut [3] (fun s3 wx=>∃ G,s3=.pointer (some ⟨G,0,none⟩)∧ai wx G 21 #[.int .i32 x]∧Below W1.heap.size W1 wx);case first=>
  refine ay (S:=fun w'=>w'.cell? ⟨w.heap.size,0,none⟩=some (.pointer (some ⟨M,0,none⟩))∧w'.cell? ⟨M,0,none⟩=some (.pointer (some ⟨b,0,none⟩))) [0,3,4,7] (by kernel_rfl) ⟨g0,c0⟩ (fun bH=>?_);refine tu 0 7 ?_;(try simp only [zp,za,z0,zs]);refine tq 1 8 ?_;(try simp only [zp,za,z0,zs]);refine tq 2 9 ?_;(try simp only [zp,za,z0,zs]);refine tu 3 10 ?_;(try simp only [zp,za,z0,zs]);refine tu 4 11 ?_;(try simp only [zp,za,z0,zs]);refine tq 5 12 ?_;(try simp only [zp,za,z0,zs]);refine tq 6 13 ?_;(try simp only [zp,za,z0,zs]);refine tu 7 14 ?_;(try simp only [zp,za,z0,zs]);refine gi (i:=8) (j:=10) (o:=⟨some 15,_,_,_,_,_⟩) (o2:=⟨some 3,_,_,_,_,_⟩) (by kernel_rfl) rfl rfl (fun K hK=>?_) (fun K hK=>?_)
  ·go_simp;go_at_call 100;refine(rG.out _ (aD (Below.refl W1.heap.size W1))).mono ?_;rintro e w2 ⟨rfl,rfl⟩;(try dsimp only);refine hK.out _ _ ?_ (fun bH=>?_);exact HC.out _ (aD (Below.refl W1.heap.size W1));clear hK K;(try simp only [zp,za,z0,zs]);refine gi (i:=9) (j:=10) (o:=⟨some 16,_,_,_,_,_⟩) (o2:=⟨some 3,_,_,_,_,_⟩) (by kernel_rfl) rfl rfl (fun K hK=>?_) (fun K hK=>?_)
   ·go_simp;go_at_call 137;refine(lZ.out _ (aD (Below.refl W1.heap.size W1))).mono ?_;rintro e w2 ⟨rfl,k2,E5⟩;have bG:=qqh (show Below W1.heap.size W1 w2 by rw [E5];exact below_drewN (aD (Below.refl W1.heap.size W1)) k2);clear E5;(try dsimp only);refine hK.out _ _ ?_ (fun bH=>?_);exact HC.out _ bG.out;clear hK K;(try simp only [zp,za,z0,zs]);refine aG (i:=10) (o:=⟨some 3,_,_,_,_,_⟩) (by kernel_rfl) rfl (fun K hK=>?_);go_simp;(try dsimp only);refine hK.out _ _ ?_ (fun bH=>?_);exact HC.out _ (bG.out.alloc bG.out.size _);clear hK K;(try simp only [zp,za,z0,zs]);refine aA (i:=11) (by kernel_rfl) rfl (by kernel_rfl) (fun K hK=>?_);go_simp;(try dsimp only);refine hK.out _ _ ?_;clear hK K;refine aJ (by kernel_rfl) ?_ _;go_simp;go_wp2_with fail;go_meet;exact⟨w2.heap.size,rfl,ai.new _ _ _,bG.out.alloc bG.out.size _⟩
   go_simp;(try dsimp only);refine hK.out _ _ ?_ (fun bH=>?_);exact HC.out _ (aD ((Below.refl W1.heap.size W1).alloc (Nat.le_refl _) (.cells #[.int .i32 0] 21)));clear hK K;(try simp only [Act.put,List.setIfInBounds_toArray,List.set_cons_zero,List.set_cons_succ]);refine aG (i:=9) (o:=⟨some 16,_,_,_,_,_⟩) (by kernel_rfl) rfl (fun K hK=>?_);go_simp;go_at_call 137;refine(lZ.out _ (aD ((Below.refl W1.heap.size W1).alloc (Nat.le_refl _) (.cells #[.int .i32 0] 21)))).mono ?_;rintro e w2 ⟨rfl,k2,E5⟩;have bG:=qqh (show Below W1.heap.size W1 w2 by rw [E5];exact below_drewN (aD ((Below.refl W1.heap.size W1).alloc (Nat.le_refl _) (.cells #[.int .i32 0] 21))) k2);have Sh:=qqh (show ai w2 W1.heap.size 21 #[.int .i32 0] by rw [E5];exact ai.new W1 21 #[.int .i32 0]);clear E5;(try dsimp only);refine hK.out _ _ ?_ (fun bH=>?_);exact HC.out _ bG.out;clear hK K;(try simp only [zp,za,z0,zs]);refine aA (i:=11) (by kernel_rfl) rfl (by kernel_rfl) (fun K hK=>?_);have z0:=Sh.out.cell 0;have z1:=Sh.out.frozen 0;go_simp;(try dsimp only);refine hK.out _ _ ?_;clear hK K;refine aJ (by kernel_rfl) ?_ _;go_simp;go_wp2_with fail;go_meet;exact⟨W1.heap.size,rfl,Sh.out.put 0 _,bG.out.setCell (Nat.le_refl _) _⟩
  go_simp;(try dsimp only);refine hK.out _ _ ?_ (fun bH=>?_);exact HC.out _ (aD ((Below.refl W1.heap.size W1).alloc (Nat.le_refl _) (.cells #[.int .i32 0] 21)));clear hK K;(try simp only [Act.put,List.setIfInBounds_toArray,List.set_cons_zero,List.set_cons_succ]);refine aG (i:=8) (o:=⟨some 15,_,_,_,_,_⟩) (by kernel_rfl) rfl (fun K hK=>?_);go_simp;go_at_call 100;refine(rG.out _ (aD ((Below.refl W1.heap.size W1).alloc (Nat.le_refl _) (.cells #[.int .i32 0] 21)))).mono ?_;rintro e w2 ⟨rfl,rfl⟩;(try dsimp only);refine hK.out _ _ ?_ (fun bH=>?_);exact HC.out _ (aD ((Below.refl W1.heap.size W1).alloc (Nat.le_refl _) (.cells #[.int .i32 0] 21)));clear hK K;(try simp only [zp,za,z0,zs]);refine aG (i:=9) (o:=⟨some 16,_,_,_,_,_⟩) (by kernel_rfl) rfl (fun K hK=>?_);go_simp;go_at_call 137;refine(lZ.out _ (aD ((Below.refl W1.heap.size W1).alloc (Nat.le_refl _) (.cells #[.int .i32 0] 21)))).mono ?_;rintro e w2 ⟨rfl,k2,E5⟩;have bG:=qqh (show Below W1.heap.size W1 w2 by rw [E5];exact below_drewN (aD ((Below.refl W1.heap.size W1).alloc (Nat.le_refl _) (.cells #[.int .i32 0] 21))) k2);have Sh:=qqh (show ai w2 W1.heap.size 21 #[.int .i32 0] by rw [E5];exact ai.new W1 21 #[.int .i32 0]);clear E5;(try dsimp only);refine hK.out _ _ ?_ (fun bH=>?_);exact HC.out _ bG.out;clear hK K;(try simp only [zp,za,z0,zs]);refine aA (i:=11) (by kernel_rfl) rfl (by kernel_rfl) (fun K hK=>?_);have z0:=Sh.out.cell 0;have z1:=Sh.out.frozen 0;go_simp;(try dsimp only);refine hK.out _ _ ?_;clear hK K;refine aJ (by kernel_rfl) ?_ _;go_simp;go_wp2_with fail;go_meet;exact⟨W1.heap.size,rfl,Sh.out.put 0 _,bG.out.setCell (Nat.le_refl _) _⟩
 obtain⟨G,rfl,hGx,iS⟩:=hcut;have BE:=qqh iS;have NQ:=qqh hGx;have YO:=qqh (E8.out.below iS);have HF:=qqh (ai.below HG.out iS KA);have t0:=HF.out.cell 0;have t2:wc.cell? ⟨M,2,none⟩=some (.slice Ah nh ch):=YO.out.blk.cell 2
 have N8:=qqh (uL 138 #[.pointer (some ⟨w.heap.size,0,none⟩),.pointer (some ⟨G,0,none⟩)] nh (fun i=>decide (x≤(hs[i]?.getD ⟨0,0,[]⟩).high)) wc Cl (by omega)
   (fun w' i hb hi=>by
     obtain⟨y,hy⟩:∃ z,hs[i]? = some z:=⟨_,List.getElem?_eq_getElem (by rw [V5.out];exact hi)⟩
     obtain⟨hb',hoff,A',c',rfl,_,dL,_,c1,_⟩:=Io (YO.out.below hb).heads hy
     rw [hy]
     exact zE w.heap.size G M hb' hoff nh ch i x y.high w' hi ((ai.below HF.out hb HF.out.lt).cell 0) ((YO.out.below hb).blk.cell 2) ((ai.below NQ.out hb NQ.out.lt).cell 0) c1)
   (fun a b hab hb h=>by
     obtain⟨y,hy⟩:∃ z,hs[a]? = some z:=⟨_,List.getElem?_eq_getElem (by rw [V5.out];omega)⟩
     obtain⟨z,hz⟩:∃ z,hs[b]? = some z:=⟨_,List.getElem?_eq_getElem (by rw [V5.out];omega)⟩
     simp only [hy,hz,Option.getD_some,decide_eq_true_eq]at h ⊢
     have:=Wf.out.We a b y z hab hy hz
     omega))
 clear hGx iS g0 c0;go_wp2_with fail;refine N8.out.mono ?_;rintro e w2 ⟨k,rfl,hk,h1,h2,hb⟩;obtain⟨y,hy,hyr⟩:=Wf.out.head (r:=x) (k:=k) (fun t z ht hz=>by
  have:=h1 t ht;rw [hz]at this;simpa using this) (fun t z ht hz=>by
  have:=h2 t ht (by rw [← V5.out];exact(List.getElem?_eq_some_iff.1 hz).1);rw [hz]at this;simpa using this) hx0.1 hx0.2
 have hkn:k<nh:=(by rw [← V5.out];exact(List.getElem?_eq_some_iff.1 hy).1);have HMD:=qqh (YO.out.below hb);have KG:=qqh (ai.below HF.out hb HF.out.lt);have HBD:=qqh (dO.out.trans ((BE.out.trans (hb.mono BE.out.size)).mono dO.out.size));obtain⟨hb',hoff,Ab,cb,rfl,_,dL,_,_,e2,hri,_,eX⟩:=Io HMD.out.heads hy;rw [hyr]at e2 hri eX;have d0:=KG.out.cell 0;have d2:w2.cell? ⟨M,2,none⟩=some (.slice (some ⟨hb',hoff,none⟩) nh ch):=HMD.out.blk.cell 2;have HRI:=qqh hri;have HWI:=qqh (ES (l:=l) (T:=A++Z) (q:=A.length) (fun r hr=>(ko.out r hr).src) HX.out);have Zv:=qqh (show ∀ k∈bZ l x,∃ q:Nat,k=(q:Int)∧q<l.length from fun k hk=>by
  unfold bZ dK at hk;obtain⟨q,hq,rfl⟩:=List.mem_map.1 hk;exact⟨q,rfl,List.mem_range.1 (List.mem_filter.1 hq).1⟩)
 have agc:(bZ l x).length≤200:=Nat.le_trans (AA l x) hlen;generalize hBB:bZ l x=BB at *;generalize I5:BB.length=bn at *;have HBN:=qqh I5;clear h1 h2 hb hy hyr hri hBB I5 N8 t0 t2;go_wp2_with fail;go_loopw [33] (fun i wr=>∃ j:Nat,j≤bn∧i=.int .i64 j∧dn l (A++Z) A.length BB=dn l (A++Z) A.length (BB.drop j)∧Below w2.heap.size w2 wr) (fun i _=>bn - (intOf i).toNat);(case atStart=>exact⟨0,Nat.zero_le _,rfl,rfl,Below.refl _ _⟩);obtain⟨j,hj,rfl,aX,hb⟩:=hrel;have O2:=qqh (HMD.out.below hb);have WR:=qqh (HBD.out.trans (hb.mono HBD.out.size));have ZW:=qqh hb;by_cases hlt:j<bn
 ·obtain⟨kk,hkk⟩:∃ z,BB[j]? = some z:=⟨_,List.getElem?_eq_getElem (by rw [HBN.out];exact hlt)⟩;obtain⟨kn,rfl,Lx⟩:=Zv.out kk (List.mem_of_getElem? hkk);obtain⟨r,hr⟩:∃ z,l[kn]? = some z:=⟨_,List.getElem?_eq_getElem Lx⟩;obtain⟨vb,vo,rfl,Sy,hvc⟩:=HRI.out.at hkk;have v0:=(ZW.out.cell (p:=⟨vb,vo+j,none⟩) Sy).trans hvc;obtain⟨rb,ro,A1,A2,A3,A4,n1,c1,n2,c2,n3,c3,n4,c4,rfl,_,zv⟩:=H7 O2.out.rules hr;have HHR:=qqh (xJ (KB lo M b A Z) (fun x=>x<lo) r rb (ro+kn*7) A1 A2 A3 A4 n1 c1 n2 c2 n3 c3 n4 c4 A.length wr.drew hT (by rw [List.length_append];omega) (ko.out r (List.mem_of_getElem? hr)) (zv.below (aD (Below.refl _ _))) ⟨O2.out.blk.cell 0,O2.out.blk.lt,O2.out.buf.below (aD (Below.refl wr.heap.size wr))⟩);have HH:=qqh (show hereAt l (A++Z) A.length (kn:Int)=dM r (A++Z) A.length by unfold hereAt;rw [Int.toNat_natCast,hr]);have dY:=qqh (aX.trans (show dn l (A++Z) A.length (BB.drop j)=if hereAt l (A++Z) A.length (kn:Int)=true then (kn:Int)else dn l (A++Z) A.length (BB.drop (j+1)) by rw [cB hkk,dn]));have UZ:kn<nr:=(by rw [← No.out];exact Lx);have u0:=(ai.below KG.out hb KG.out.lt).cell 0;have u1:wr.cell? ⟨M,0,none⟩=some (.pointer (some ⟨b,0,none⟩)):=O2.out.blk.cell 0;have u2:wr.cell? ⟨M,1,none⟩=some (.slice (some ⟨rb,ro,none⟩) nr cr):=O2.out.blk.cell 1;clear hkk hr hvc zv aX hb;go_upto_region 6 with fail;refine ay (S:=fun w'=>w'.cell? ⟨w.heap.size,0,none⟩=some (.pointer (some ⟨M,0,none⟩))∧w'.cell? ⟨M,0,none⟩=some (.pointer (some ⟨b,0,none⟩))∧w'.cell? ⟨M,1,none⟩=some (.slice (some ⟨rb,ro,none⟩) nr cr)) [0,3,6,8,11] (by kernel_rfl) ⟨u0,u1,u2⟩ (fun bH=>?_);refine tu 0 37 ?_;(try simp only [zp,za,z0,zs]);refine tq 1 38 ?_;(try simp only [zp,za,z0,zs]);refine tq 2 39 ?_;(try simp only [zp,za,z0,zs])
  refine tu 3 40 ?_;(try simp only [zp,za,z0,zs]);refine tq 4 41 ?_;(try simp only [zp,za,z0,zs]);refine tq 5 42 ?_;(try simp only [zp,za,z0,zs]);refine tu 6 43 ?_;(try simp only [zp,za,z0,zs]);refine tq 7 44 ?_;(try simp only [zp,za,z0,zs]);refine tu 8 45 ?_;(try simp only [zp,za,z0,zs]);refine tq 9 46 ?_;(try simp only [zp,za,z0,zs]);refine tq 10 47 ?_;(try simp only [zp,za,z0,zs]);refine tu 11 48 ?_;(try simp only [zp,za,z0,zs]);refine aG (i:=12) (o:=⟨some 49,_,_,_,_,_⟩) (by kernel_rfl) rfl (fun K hK=>?_);go_simp;go_at_call 100;refine(rB (O2.out.buf.below (aD (Below.refl wr.heap.size wr)))).mono ?_;rintro e w2 ⟨rfl,rfl⟩;(try dsimp only);refine hK.out _ _ ?_ (fun bH=>?_);exact⟨u0,u1,u2⟩;clear hK K;(try simp only [zp,za,z0,zs]);refine aA (i:=13) (o:=⟨some 50,_,_,_,_,_⟩) (by kernel_rfl) rfl (by kernel_rfl) (fun K hK=>?_);go_simp;go_at_call 45;refine HHR.out.mono ?_;rintro e w3 ⟨rfl,bN⟩;have Tn:Below wr.heap.size wr w3:=(aD (Below.refl wr.heap.size wr)).trans bN;have bL:=qqh (WR.out.trans (Tn.mono WR.out.size));have ek:=qqh (ZW.out.trans (Tn.mono ZW.out.size));clear bN Tn HHR;(try dsimp only);refine hK.out _ _ ?_;clear hK K;(try simp only [zp,za,z0,zs]);refine aJ (by kernel_rfl) ?_ _;cases hh:dM r (A++Z) A.length
  ·have mZ:=qqh (dY.out.trans (if_neg (by rw [HH.out,hh];decide)));clear hh;go_simp;go_wp2_with fail;exact⟨⟨j+1,by omega,by go_num,mZ.out,ek.out⟩,by simp [intOf];omega⟩
  have mZ:=qqh (dY.out.trans (if_pos (by rw [HH.out,hh])));clear hh;go_simp;go_wp2_with fail;go_ret;rw [← HWI.out,mZ.out];exact⟨rfl,bL.out⟩
 obtain rfl:j=bn:=(by omega);rw [List.drop_of_length_le (by rw [HBN.out];exact Nat.le_refl _)]at aX;have mZ:=qqh (HWI.out.symm.trans aX);clear aX hb;go_wp2_with fail;go_ret;rw [mZ.out];exact⟨rfl,WR.out⟩
section
variable {lo : Nat} {w w' : World} {M b : Nat} {A Z A' Z' : List Int} {l : List aj} {hs : List bt} {Ar : Option Addr} {nr cr : Nat} {Ah : Option Addr} {nh ch : Nat} {bO s p : Int}
theorem gD {X:Nat→Prop} (hb:Below lo w w') (hX:∀ x,X x→x<lo):af w X w' X:=fun x hx hl=>⟨hb.block x (hX x hx),hx,Nat.lt_of_lt_of_le hl hb.size⟩
theorem cK.kp (h:cK lo w M b A Z l hs Ar nr cr Ah nh ch bO s p) (hk:Kp lo w w') (hb:wY lo w' b A' Z'):cK lo w' M b A' Z' l hs Ar nr cr Ah nh ch bO s p :=
  ⟨h.ge,hk.other M _ _ h.blk (by decide) (by decide),hb,h.rules.keep (gD hk.below (fun _ h=>h)) (fun _ _=>aO.keep (gD hk.below (fun _ h=>h))),h.heads.keep (gD hk.below (fun _ h=>h)) (fun _ _=>fS.keep (gD hk.below (fun _ h=>h)))⟩
theorem wY.Ny (h:wY lo w b A Z) {cs:Array Value} (hM:ai w M 181 cs) (i:Nat) (u:Value):wY lo (w.setCell ⟨M,i,none⟩ u) b A Z:=by
 obtain⟨L,n,D,f,t,h1,h2⟩:=h;exact⟨L,n,D,f,t,⟨h1.buf.other hM (by decide) i u,h1.row.other hM (by decide) i u,h1.len,h1.le,h1.end_,h1.small⟩,h2⟩
structure Kq (lo:Nat) (w w':World):Prop where
  below:Below lo w w'
  other:∀ k t cs,ai w k t cs→t ≠ 21 → t ≠ 202 → t ≠ 181 → ai w' k t cs
theorem Kq.refl (lo:Nat) (w:World):Kq lo w w:=⟨Below.refl _ _,fun _ _ _ h _ _ _=>h⟩
theorem Kq.trans {w1 w2:World} (h:Kq lo w w1) (h2:Kq lo w1 w2):Kq lo w w2:=⟨h.below.trans h2.below,fun k t cs hb h3 h4 h5=>h2.other k t cs (h.other k t cs hb h3 h4 h5) h3 h4 h5⟩
theorem Kq.kp (h:Kp lo w w'):Kq lo w w':=⟨h.below,fun k t cs hb h3 h4 _=>h.other k t cs hb h3 h4⟩
theorem Kq.all (h:Below w.heap.size w w') (hlo:lo≤w.heap.size):Kq lo w w':=Kq.kp (Kp.all h hlo)
theorem Kq.drewN (h:Kq lo w w') (k:Nat):Kq lo w (w'.drewN k):=⟨below_drewN h.below k,h.other⟩
theorem Kq.Ny {M:Nat} {cs:Array Value} (hM:ai w M 181 cs) (hl:lo≤M) (i:Nat) (u:Value):Kq lo w (w.setCell ⟨M,i,none⟩ u) :=
  ⟨(Below.refl _ _).setCell hl _,fun _ _ _ hb _ _ h5=>hb.other hM h5 i u⟩
theorem cK.steps (h:cK lo w M b A Z l hs Ar nr cr Ah nh ch bO s p) (s':Int):cK lo (w.setCell ⟨M,5,none⟩ (.int .i64 s')) M b A Z l hs Ar nr cr Ah nh ch bO s' p∧Kq lo w (w.setCell ⟨M,5,none⟩ (.int .i64 s')):=by
 have hb:Below lo w (w.setCell ⟨M,5,none⟩ (.int .i64 s')):=(Below.refl _ _).setCell h.ge _;exact⟨⟨h.ge,h.blk.put 5 _,h.buf.Ny h.blk 5 _,h.rules.keep (gD hb (fun _ h=>h)) (fun _ _=>aO.keep (gD hb (fun _ h=>h))),h.heads.keep (gD hb (fun _ h=>h)) (fun _ _=>fS.keep (gD hb (fun _ h=>h)))⟩,Kq.Ny h.blk h.ge _ _⟩
theorem cK.Wt (h:cK lo w M b A Z l hs Ar nr cr Ah nh ch bO s p) (p':Int):cK lo (w.setCell ⟨M,6,none⟩ (.int .i64 p')) M b A Z l hs Ar nr cr Ah nh ch bO s p'∧Kq lo w (w.setCell ⟨M,6,none⟩ (.int .i64 p')):=by
 have hb:Below lo w (w.setCell ⟨M,6,none⟩ (.int .i64 p')):=(Below.refl _ _).setCell h.ge _;exact⟨⟨h.ge,h.blk.put 6 _,h.buf.Ny h.blk 6 _,h.rules.keep (gD hb (fun _ h=>h)) (fun _ _=>aO.keep (gD hb (fun _ h=>h))),h.heads.keep (gD hb (fun _ h=>h)) (fun _ _=>fS.keep (gD hb (fun _ h=>h)))⟩,Kq.Ny h.blk h.ge _ _⟩
theorem cK.rule (h:cK lo w M b A Z l hs Ar nr cr Ah nh ch bO s p) {k:Nat} {r:aj} (hk:l[k]? = some r) :
    ∃ (rb ro:Nat) (A2 A4:Option Addr) (c2 c4:Nat),Ar=some ⟨rb,ro,none⟩∧k<nr∧w.cell? ⟨rb,ro+k*7+3,none⟩=some (.slice A2 r.source.length c2)∧w.cell? ⟨rb,ro+k*7+5,none⟩=some (.slice A4 r.target.length c4) ∧
      w.cell? ⟨rb,ro+k*7+6,none⟩=some (.int .i64 r.aa)∧bW w (fun x=>x<lo) 1 A4 r.target.length (runeCells r.target):=by
 obtain⟨rb,ro,A1,A2,A3,A4,n1,c1,n2,c2,n3,c3,n4,c4,e,_,ha⟩:=H7 h.rules hk;have h2:=ha.s2.list.len;have h4:=ha.s4.1;rw [runeCells_length]at h4;obtain rfl:r.source.length=n2:=h2;obtain rfl:r.target.length=n4:=(by omega);have hl:l.length=nr:=h.rules.len;exact⟨rb,ro,A2,A4,c2,c4,e,by have:=(List.getElem?_eq_some_iff.1 hk).1;omega,ha.d3,ha.d5,ha.d6,ha.s4⟩
end
theorem wX {lo:Nat} {w:World} {M b:Nat} {A Z:List Int} {l:List aj} {hs:List bt} {Ar:Option Addr} {nr cr:Nat} {Ah:Option Addr} {nh ch:Nat} {bO s p:Nat} (h:cK lo w M b A Z l hs Ar nr cr Ah nh ch bO s p) (hs1:s=bO) (oA:bO≤100000) :
    Calls Tryz.prog 102 #[.pointer (some ⟨M,0,none⟩)] w fun e w'=>e=.returned (.tuple #[.int .i64 0,.int .i64 9])∧∃ k,w'=w.drewN k:=by
 have c3:w.cell? ⟨M,3,none⟩=some (.int .i64 bO):=h.blk.cell 3;have c5:w.cell? ⟨M,5,none⟩=some (.int .i64 s):=h.blk.cell 5;subst hs1;clear h;go_enter Tryz.func102,Tryz.ntmps102;go_wp2_with fail;go_quiet (fail);go_wp2_with fail;go_ret2;exact⟨rfl,_,rfl⟩
theorem uM {lo:Nat} {w:World} {M b:Nat} {A Z:List Int} {l:List aj} {hs:List bt} {Ar:Option Addr} {nr cr:Nat} {Ah:Option Addr} {nh ch:Nat} {bO s p:Nat} (h:cK lo w M b A Z l hs Ar nr cr Ah nh ch bO s p) (z:Int) (Z':List Int) (hZ:Z=z::Z') (x:Int) (hx:(A++Z)[A.length]? = some x) (hx0:0≤x∧x≤1114111) (hT:(A++Z).length≤4000) (N3:nh≤400) (ru:fT l hs 1114112) (hR:∀ r∈l,ef r) (hlen:l.length≤200) (oA:bO≤100000)  (hs1:s<bO) (jt:dm l (A++Z) A.length = -1) :
    Calls Tryz.prog 102 #[.pointer (some ⟨M,0,none⟩)] w fun e w'=>e=.returned (.tuple #[.int .i64 (-1),.int .i64 0])∧cK lo w' M b (A++[z]) Z' l hs Ar nr cr Ah nh ch bO ((s:Int)+1) p∧Kq lo w w':=by
 have XQ:=qqh (show(A++Z).take (A.length+1)=A++[z]∧(A++Z).drop (A.length+1)=Z' by
  have e:A++z::Z'=(A++[z])++Z':=(by simp);rw [hZ,e];exact⟨List.take_left' (by simp),List.drop_left' (by simp)⟩)
 have hzl:Z.length=Z'.length+1:=(by rw [hZ];rfl);have hAl:A.length≤4000:=(by rw [List.length_append]at hT;omega);have hwr:IntKind.i64.wrap ((A.length:Int)+1)=(A.length:Int)+1:=(by rw [IntKind.wrap_i64];omega);have hge:=h.ge;have c3:w.cell? ⟨M,3,none⟩=some (.int .i64 bO):=h.blk.cell 3;have c5:w.cell? ⟨M,5,none⟩=some (.int .i64 s):=h.blk.cell 5;have f5:=h.blk.frozen 5;have sS:lo≤w.heap.size:=Nat.le_trans h.ge (Nat.le_of_lt h.blk.lt);have hd:((s:Int) ==(bO:Int))=false:=(by rw [beq_eq_false_iff_ne];omega);have H:=qqh h;have HX:=qqh hx;have ko:=qqh hR;have FP:=qqh ru;clear h hx ru hR;go_enter Tryz.func102,Tryz.ntmps102;go_wp2_with fail;go_quiet (fail);have d5:(w.drewN nq).cell? ⟨M,5,none⟩=some (.int .i64 s):=c5;have g5:(w.drewN nq).frozen? ⟨M,5,none⟩=false:=f5;have hst:=(H.out.below (below_drewN (Below.refl _ _) nq)).steps ((s:Int)+1);have fB:=qqh hst.1;have QN:=qqh (((Kq.refl lo w).drewN nq).trans hst.2);have KG:=qqh (sZ fB.out x HX.out hx0 (by omega) N3 FP.out ko.out hlen);clear hst c3 c5 f5;go_wp2_with fail;refine KG.out.mono ?_;rintro e w2 ⟨rfl,bu⟩;rw [jt];have oo:=qqh (fB.out.below bu);have bG:=qqh (QN.out.trans (Kq.all bu (Nat.le_trans sS QN.out.below.size)));clear bu d5 g5 KG;have e0:w2.cell? ⟨M,0,none⟩=some (.pointer (some ⟨b,0,none⟩)):=oo.out.blk.cell 0;have vU:=qqh (show Calls Tryz.prog 123 #[.pointer (some ⟨b,0,none⟩),.int .i64 ((A.length:Int)+1)] w2.drew _ from CQ (oo.out.buf.below (aD (Below.refl w2.heap.size w2))) (A.length+1) (by omega));go_upto_region 6 with fail;refine ay (S:=fun w'=>w'.cell? ⟨M,0,none⟩=some (.pointer (some ⟨b,0,none⟩))) [3,7] (by kernel_rfl) e0 (fun bH=>?_);refine tq 0 30 ?_
 (try simp only [zp,za,z0,zs]);refine tq 1 31 ?_;(try simp only [zp,za,z0,zs]);refine tq 2 32 ?_;(try simp only [zp,za,z0,zs]);refine tu 3 33 ?_;(try simp only [zp,za,z0,zs]);refine tq 4 34 ?_;(try simp only [zp,za,z0,zs]);refine tq 5 35 ?_;(try simp only [zp,za,z0,zs]);refine tq 6 36 ?_;(try simp only [zp,za,z0,zs]);refine tu 7 37 ?_;(try simp only [zp,za,z0,zs]);refine aG (i:=8) (o:=⟨some 38,_,_,_,_,_⟩) (by kernel_rfl) rfl (fun K hK=>?_);go_simp;go_at_call 100;refine(rB (oo.out.buf.below (aD (Below.refl w2.heap.size w2)))).mono ?_;rintro e w3 ⟨rfl,rfl⟩;(try dsimp only);refine hK.out _ _ ?_ (fun bH=>?_);exact e0;clear hK K;(try simp only [zp,za,z0,zs]);refine tq 9 39 ?_;(try simp only [zp,za,z0,zs]);refine aA (i:=10) (by kernel_rfl) rfl (by kernel_rfl) (fun K hK=>?_);go_simp;go_at_call 123;refine vU.out.mono ?_;rintro e w3 ⟨rfl,o7,hkp⟩;have lO:=qqh o7;have qp:=qqh (((Kp.refl lo w2).drew).trans hkp);clear o7 hkp vU;(try dsimp only);refine hK.out _ _ ?_;clear hK K;(try simp only [Act.put,List.setIfInBounds_toArray,List.set_cons_zero,List.set_cons_succ]);refine aJ (by kernel_rfl) ?_ _;go_simp;go_wp2_with fail;go_ret2;refine⟨rfl,?_,bG.out.trans (Kq.kp qp.out)⟩;have hm:=oo.out.kp qp.out lO.out;rwa [XQ.out.1,XQ.out.2]at hm
theorem Az {lo:Nat} {w:World} {M b:Nat} {A Z:List Int} {l:List aj} {hs:List bt} {Ar:Option Addr} {nr cr:Nat} {Ah:Option Addr} {nh ch:Nat} {bO s p:Nat} (h:cK lo w M b A Z l hs Ar nr cr Ah nh ch bO s p) (k:Nat) (r:aj) (hk:l[k]? = some r) (x:Int) (hx:(A++Z)[A.length]? = some x) (hx0:0≤x∧x≤1114111) (hT:(A++Z).length≤4000) (N3:nh≤400) (ru:fT l hs 1114112) (hR:∀ r∈l,ef r) (hlen:l.length≤200) (oA:bO≤100000)  (hpb:p≤100000) (hs1:s<bO) (jt:dm l (A++Z) A.length=(k:Int)) (hfit:r.source.length≤Z.length) (ym:4000+r.source.length<A.length+Z.length+r.target.length) :
    Calls Tryz.prog 102 #[.pointer (some ⟨M,0,none⟩)] w fun e w'=>e=.returned (.tuple #[.int .i64 0,.int .i64 4])∧Below lo w w':=by
 have HK:=qqh hk;have vG:=hR r (List.mem_of_getElem? hk);have Zs:=(vG.sets r.source (by simp [ee])).1;have Ut:=vG.tgt.1;have Gv:=vG.cur;have KI:(A++Z).length=A.length+Z.length:=List.length_append;clear hk vG;have hgt:decide ((4000:Int)<((A.length+Z.length:Nat):Int) - (r.source.length:Int)+(r.target.length:Int))=true:=decide_eq_true (by omega);have hge:=h.ge;have c3:w.cell? ⟨M,3,none⟩=some (.int .i64 bO):=h.blk.cell 3;have c5:w.cell? ⟨M,5,none⟩=some (.int .i64 s):=h.blk.cell 5;have f5:=h.blk.frozen 5;have sS:lo≤w.heap.size:=Nat.le_trans h.ge (Nat.le_of_lt h.blk.lt);have hd:((s:Int) ==(bO:Int))=false:=(by rw [beq_eq_false_iff_ne];omega);have H:=qqh h;have HX:=qqh hx;have ko:=qqh hR;have FP:=qqh ru;clear h hx ru hR;go_enter Tryz.func102,Tryz.ntmps102;go_wp2_with fail;go_quiet (fail);have d5:(w.drewN nq).cell? ⟨M,5,none⟩=some (.int .i64 s):=c5;have g5:(w.drewN nq).frozen? ⟨M,5,none⟩=false:=f5;have hst:=(H.out.below (below_drewN (Below.refl _ _) nq)).steps ((s:Int)+1);have fB:=qqh hst.1;have QN:=qqh (((Kq.refl lo w).drewN nq).trans hst.2);have KG:=qqh (sZ fB.out x HX.out hx0 (by omega) N3 FP.out ko.out hlen);clear hst c3 c5 f5;go_wp2_with fail;refine KG.out.mono ?_;rintro e w2 ⟨rfl,bu⟩;rw [jt];have oo:=qqh (fB.out.below bu);have bG:=qqh (QN.out.trans (Kq.all bu (Nat.le_trans sS QN.out.below.size)));clear bu d5 g5 KG;have ur:=oo.out;have u6:w2.cell? ⟨M,6,none⟩=some (.int .i64 p):=ur.blk.cell 6;have v6:=ur.blk.frozen 6;obtain⟨rb,ro,A2,A4,c2,c4,rfl,UZ,_⟩:=ur.rule HK.out;have u1:w2.cell? ⟨M,1,none⟩=some (.slice (some ⟨rb,ro,none⟩) nr cr):=ur.blk.cell 1;have hpt:=ur.Wt ((p:Int)+1);have iY:=qqh hpt.1;have bL:=qqh (bG.out.trans hpt.2)
 clear hpt ur;have Xz:decide ((k:Int)<0)=false:=decide_eq_false (by omega);generalize QJ:w2.setCell ⟨M,6,none⟩ (.int .i64 ((p:Int)+1))=W3 at iY bL;have HW3:=qqh QJ;have t0:W3.cell? ⟨M,0,none⟩=some (.pointer (some ⟨b,0,none⟩)):=iY.out.blk.cell 0;have t1:W3.cell? ⟨M,1,none⟩=some (.slice (some ⟨rb,ro,none⟩) nr cr):=iY.out.blk.cell 1;obtain⟨rb',ro',A2,A4,c2,c4,e9,_,t3,t5,_,_⟩:=iY.out.rule HK.out;cases e9;have aV:=qqh (fun(q:Nat)=>sU (iY.out.buf.below (below_drewN (Below.refl W3.heap.size W3) q)));have rG:=qqh (fun(q:Nat)=>rB (iY.out.buf.below (below_drewN (Below.refl W3.heap.size W3) q)));clear QJ;go_upto_region 10 with fail;rw [HW3.out];clear u1 u6 v6;go_quiet (first | (go_at_call 101;exact Calls.quiet_of (aV.out _)));go_wp2_with fail;go_ret2;exact⟨rfl,below_drewN bL.out.below nq⟩
theorem uO {lo:Nat} {w:World} {M b:Nat} {A Z:List Int} {l:List aj} {hs:List bt} {Ar:Option Addr} {nr cr:Nat} {Ah:Option Addr} {nh ch:Nat} {bO s p:Nat} (h:cK lo w M b A Z l hs Ar nr cr Ah nh ch bO s p) (k:Nat) (r:aj) (hk:l[k]? = some r) (x:Int) (hx:(A++Z)[A.length]? = some x) (hx0:0≤x∧x≤1114111) (hT:(A++Z).length≤4000) (N3:nh≤400) (ru:fT l hs 1114112) (hR:∀ r∈l,ef r) (hlen:l.length≤200) (oA:bO≤100000)  (hpb:p≤100000) (hs1:s<bO) (jt:dm l (A++Z) A.length=(k:Int)) (hfit:r.source.length≤Z.length) (ym:A.length+Z.length+r.target.length≤4000+r.source.length) :
    Calls Tryz.prog 102 #[.pointer (some ⟨M,0,none⟩)] w fun e w'=>e=.returned (.tuple #[.int .i64 k,.int .i64 0]) ∧
      cK lo w' M b ((A++r.target++Z.drop r.source.length).take (A.length+r.aa.toNat)) ((A++r.target++Z.drop r.source.length).drop (A.length+r.aa.toNat)) l hs Ar nr cr Ah nh ch bO ((s:Int)+1) ((p:Int)+1)∧Kq lo w w':=by
 have HK:=qqh hk;have vG:=hR r (List.mem_of_getElem? hk);have Zs:=(vG.sets r.source (by simp [ee])).1;have Ut:=vG.tgt.1;have Gv:=vG.cur;have KI:(A++Z).length=A.length+Z.length:=List.length_append;clear hk vG;have hgt:decide ((4000:Int)<((A.length+Z.length:Nat):Int) - (r.source.length:Int)+(r.target.length:Int))=false:=decide_eq_false (by omega);have hwr:IntKind.i64.wrap ((A.length:Int)+r.aa)=(A.length:Int)+r.aa:=(by rw [IntKind.wrap_i64];omega);have hge:=h.ge;have c3:w.cell? ⟨M,3,none⟩=some (.int .i64 bO):=h.blk.cell 3;have c5:w.cell? ⟨M,5,none⟩=some (.int .i64 s):=h.blk.cell 5;have f5:=h.blk.frozen 5;have sS:lo≤w.heap.size:=Nat.le_trans h.ge (Nat.le_of_lt h.blk.lt);have hd:((s:Int) ==(bO:Int))=false:=(by rw [beq_eq_false_iff_ne];omega);have H:=qqh h;have HX:=qqh hx;have ko:=qqh hR;have FP:=qqh ru;clear h hx ru hR;go_enter Tryz.func102,Tryz.ntmps102;go_wp2_with fail;go_quiet (fail);have d5:(w.drewN nq).cell? ⟨M,5,none⟩=some (.int .i64 s):=c5;have g5:(w.drewN nq).frozen? ⟨M,5,none⟩=false:=f5;have hst:=(H.out.below (below_drewN (Below.refl _ _) nq)).steps ((s:Int)+1);have fB:=qqh hst.1;have QN:=qqh (((Kq.refl lo w).drewN nq).trans hst.2);have KG:=qqh (sZ fB.out x HX.out hx0 (by omega) N3 FP.out ko.out hlen);clear hst c3 c5 f5;go_wp2_with fail;refine KG.out.mono ?_;rintro e w2 ⟨rfl,bu⟩;rw [jt];have oo:=qqh (fB.out.below bu);have bG:=qqh (QN.out.trans (Kq.all bu (Nat.le_trans sS QN.out.below.size)));clear bu d5 g5 KG;have ur:=oo.out;have u6:w2.cell? ⟨M,6,none⟩=some (.int .i64 p):=ur.blk.cell 6;have v6:=ur.blk.frozen 6;obtain⟨rb,ro,A2,A4,c2,c4,rfl,UZ,_⟩:=ur.rule HK.out
 have u1:w2.cell? ⟨M,1,none⟩=some (.slice (some ⟨rb,ro,none⟩) nr cr):=ur.blk.cell 1;have hpt:=ur.Wt ((p:Int)+1);have iY:=qqh hpt.1;have bL:=qqh (bG.out.trans hpt.2);clear hpt ur;have Xz:decide ((k:Int)<0)=false:=decide_eq_false (by omega);generalize QJ:w2.setCell ⟨M,6,none⟩ (.int .i64 ((p:Int)+1))=W3 at iY bL;have HW3:=qqh QJ;have t0:W3.cell? ⟨M,0,none⟩=some (.pointer (some ⟨b,0,none⟩)):=iY.out.blk.cell 0;have t1:W3.cell? ⟨M,1,none⟩=some (.slice (some ⟨rb,ro,none⟩) nr cr):=iY.out.blk.cell 1;obtain⟨rb',ro',A2,A4,c2,c4,e9,_,t3,t5,_,_⟩:=iY.out.rule HK.out;cases e9;have aV:=qqh (fun(q:Nat)=>sU (iY.out.buf.below (below_drewN (Below.refl W3.heap.size W3) q)));have rG:=qqh (fun(q:Nat)=>rB (iY.out.buf.below (below_drewN (Below.refl W3.heap.size W3) q)));clear QJ;go_upto_region 10 with fail;rw [HW3.out];clear u1 u6 v6;go_quiet (first | (go_at_call 101;exact Calls.quiet_of (aV.out _)));go_wp2_with fail;refine(rG.out nq).mono ?_;rintro e w4 ⟨rfl,rfl⟩;have TM:=qqh (iY.out.below (below_drewN (Below.refl W3.heap.size W3) nq));have ek:=qqh (bL.out.drewN nq);have x0:(W3.drewN nq).cell? ⟨M,0,none⟩=some (.pointer (some ⟨b,0,none⟩)):=t0;have x3:(W3.drewN nq).cell? ⟨rb,ro+k*7+3,none⟩=some (.slice A2 r.source.length c2):=t3;generalize YZ:W3.drewN nq=W4 at *;have U3:=qqh (O8 (TM.out.buf.below (aD (Below.refl W4.heap.size W4))) r.source.length hfit);clear YZ t0 t1 t3 t5 rG aV hgt;go_upto_region 13 with fail;refine ay (S:=fun w'=>w'.cell? ⟨M,0,none⟩=some (.pointer (some ⟨b,0,none⟩))∧w'.cell? ⟨rb,ro+k*7+3,none⟩=some (.slice A2 r.source.length c2)) [3,7] (by kernel_rfl) ⟨x0,x3⟩ (fun bH=>?_);refine tq 0 80 ?_;(try simp only [zp,za,z0,zs]);refine tq 1 81 ?_;(try simp only [zp,za,z0,zs])
 refine tq 2 82 ?_;(try simp only [zp,za,z0,zs]);refine tu 3 83 ?_;(try simp only [zp,za,z0,zs]);refine tq 4 84 ?_;(try simp only [zp,za,z0,zs]);refine tq 5 85 ?_;(try simp only [zp,za,z0,zs]);refine tq 6 86 ?_;(try simp only [zp,za,z0,zs]);refine tu 7 87 ?_;(try simp only [zp,za,z0,zs]);refine tq 8 88 ?_;(try simp only [zp,za,z0,zs]);refine aA (i:=9) (by kernel_rfl) rfl (by kernel_rfl) (fun K hK=>?_);go_simp;go_at_call 124;refine U3.out.mono ?_;rintro e w5 ⟨rfl,o7,hkp⟩;have Fz:=qqh (TM.out.kp ((Kp.refl lo W4).drew.trans hkp) o7);have dQ:=qqh (ek.out.trans (Kq.kp ((Kp.refl lo W4).drew.trans hkp)));clear o7 hkp U3;(try dsimp only);refine hK.out _ _ ?_;clear hK K;(try simp only [Act.put,List.setIfInBounds_toArray,List.set_cons_zero,List.set_cons_succ]);refine aJ (by kernel_rfl) ?_ _;go_simp;obtain⟨rb',ro',B2,B4,d2,d4,e9,_,_,x5,_,Y1⟩:=Fz.out.rule HK.out;cases e9;have x0:w5.cell? ⟨M,0,none⟩=some (.pointer (some ⟨b,0,none⟩)):=Fz.out.blk.cell 0;have UN:=qqh (Ox (c2:=d4) (Fz.out.buf.below (aD (Below.refl w5.heap.size w5))) r.target B4 r.target.length (Y1.keep (af.any (aD (Below.refl _ _)))) Ut (by rw [List.length_drop];omega));clear Y1 x3;go_upto_region 14 with fail;refine ay (S:=fun w'=>w'.cell? ⟨M,0,none⟩=some (.pointer (some ⟨b,0,none⟩))∧w'.cell? ⟨rb,ro+k*7+5,none⟩=some (.slice B4 r.target.length d4)) [3,7] (by kernel_rfl) ⟨x0,x5⟩ (fun bH=>?_);refine tq 0 90 ?_;(try simp only [zp,za,z0,zs]);refine tq 1 91 ?_;(try simp only [zp,za,z0,zs]);refine tq 2 92 ?_;(try simp only [zp,za,z0,zs]);refine tu 3 93 ?_;(try simp only [zp,za,z0,zs]);refine tq 4 94 ?_;(try simp only [zp,za,z0,zs]);refine tq 5 95 ?_;(try simp only [zp,za,z0,zs]);refine tq 6 96 ?_;(try simp only [zp,za,z0,zs]);refine tu 7 97 ?_;(try simp only [zp,za,z0,zs])
 refine aA (i:=8) (by kernel_rfl) rfl (by kernel_rfl) (fun K hK=>?_);go_simp;go_at_call 125;refine UN.out.mono ?_;rintro e w6 ⟨rfl,o7,hkp⟩;have L7:=qqh (Fz.out.kp ((Kp.refl lo w5).drew.trans hkp) o7);have gx:=qqh (dQ.out.trans (Kq.kp ((Kp.refl lo w5).drew.trans hkp)));clear o7 hkp UN;(try dsimp only);refine hK.out _ _ ?_;clear hK K;(try simp only [Act.put,List.setIfInBounds_toArray,List.set_cons_zero,List.set_cons_succ]);refine aJ (by kernel_rfl) ?_ _;go_simp;obtain⟨rb',ro',C2,C4,g2,g4,e9,_,_,_,x6,_⟩:=L7.out.rule HK.out;cases e9;have x0:w6.cell? ⟨M,0,none⟩=some (.pointer (some ⟨b,0,none⟩)):=L7.out.blk.cell 0;obtain⟨cu,G7⟩:∃ cu:Nat,r.aa=(cu:Int):=⟨r.aa.toNat,by omega⟩;have vU:=qqh (show Calls Tryz.prog 123 #[.pointer (some ⟨b,0,none⟩),.int .i64 ((A.length:Int)+r.aa)] w6.drew _ by
  have:=CQ (L7.out.buf.below (aD (Below.refl w6.heap.size w6))) (A.length+r.aa.toNat) (by rw [List.length_append,List.length_drop];omega);rwa [show((A.length+r.aa.toNat:Nat):Int)=(A.length:Int)+r.aa by omega]at this)
 clear x5 G7;go_upto_region 15 with fail;refine ay (S:=fun w'=>w'.cell? ⟨M,0,none⟩=some (.pointer (some ⟨b,0,none⟩))∧w'.cell? ⟨rb,ro+k*7+6,none⟩=some (.int .i64 r.aa)) [3,8] (by kernel_rfl) ⟨x0,x6⟩ (fun bH=>?_);refine tq 0 99 ?_;(try simp only [zp,za,z0,zs]);refine tq 1 100 ?_;(try simp only [zp,za,z0,zs]);refine tq 2 101 ?_;(try simp only [zp,za,z0,zs]);refine tu 3 102 ?_;(try simp only [zp,za,z0,zs]);refine tq 4 103 ?_;(try simp only [zp,za,z0,zs]);refine tq 5 104 ?_;(try simp only [zp,za,z0,zs]);refine tq 6 105 ?_;(try simp only [zp,za,z0,zs]);refine tq 7 106 ?_;(try simp only [zp,za,z0,zs]);refine tu 8 107 ?_;(try simp only [zp,za,z0,zs]);refine tq 9 108 ?_;(try simp only [zp,za,z0,zs]);refine aA (i:=10) (by kernel_rfl) rfl (by kernel_rfl) (fun K hK=>?_);go_simp;go_at_call 123;refine vU.out.mono ?_;rintro e w7 ⟨rfl,o7,hkp⟩;have LJ:=qqh (L7.out.kp ((Kp.refl lo w6).drew.trans hkp) o7);have od:=qqh (gx.out.trans (Kq.kp ((Kp.refl lo w6).drew.trans hkp)));clear o7 hkp vU;(try dsimp only);refine hK.out _ _ ?_;clear hK K;(try simp only [Act.put,List.setIfInBounds_toArray,List.set_cons_zero,List.set_cons_succ]);refine aJ (by kernel_rfl) ?_ _;go_simp;go_wp2_with fail;go_ret2;exact⟨rfl,LJ.out,od.out⟩
theorem I2 {lo:Nat} {w:World} {M b:Nat} {A Z:List Int} {l:List aj} {hs:List bt} {Ar:Option Addr} {nr cr:Nat} {Ah:Option Addr} {nh ch:Nat} {bO s p:Nat} (h:cK lo w M b A Z l hs Ar nr cr Ah nh ch bO s p) (z:Int) (Z':List Int) (hZ:Z=z::Z') (x:Int) (hx:(A++Z)[A.length]? = some x) (hx0:0≤x∧x≤1114111) (hT:(A++Z).length≤4000) (N3:nh≤400) (ru:fT l hs 1114112) (hR:∀ r∈l,ef r) (hlen:l.length≤200) (oA:bO≤100000)  (hs1:s<bO) (jt:dm l (A++Z) A.length = -1) :
    Calls Tryz.prog 102 #[.pointer (some ⟨M,0,none⟩)] w fun e w'=>e=.returned (.tuple #[.int .i64 (-1),.int .i64 0])∧cK lo w' M b (A++[z]) Z' l hs Ar nr cr Ah nh ch bO ((s:Int)+1) p∧Below lo w w' :=
  (uM h z Z' hZ x hx hx0 hT N3 ru hR hlen oA hs1 jt).mono fun _ _ ⟨e,h1,h2⟩=>⟨e,h1,h2.below⟩
theorem Kc {lo:Nat} {w:World} {M b:Nat} {A Z:List Int} {l:List aj} {hs:List bt} {Ar:Option Addr} {nr cr:Nat} {Ah:Option Addr} {nh ch:Nat} {bO s p:Nat} (h:cK lo w M b A Z l hs Ar nr cr Ah nh ch bO s p) (k:Nat) (r:aj) (hk:l[k]? = some r) (x:Int) (hx:(A++Z)[A.length]? = some x) (hx0:0≤x∧x≤1114111) (hT:(A++Z).length≤4000) (N3:nh≤400) (ru:fT l hs 1114112) (hR:∀ r∈l,ef r) (hlen:l.length≤200) (oA:bO≤100000)  (hpb:p≤100000) (hs1:s<bO) (jt:dm l (A++Z) A.length=(k:Int)) (hfit:r.source.length≤Z.length) (ym:A.length+Z.length+r.target.length≤4000+r.source.length) :
    Calls Tryz.prog 102 #[.pointer (some ⟨M,0,none⟩)] w fun e w'=>e=.returned (.tuple #[.int .i64 k,.int .i64 0]) ∧
      cK lo w' M b ((A++r.target++Z.drop r.source.length).take (A.length+r.aa.toNat)) ((A++r.target++Z.drop r.source.length).drop (A.length+r.aa.toNat)) l hs Ar nr cr Ah nh ch bO ((s:Int)+1) ((p:Int)+1)∧Below lo w w' :=
  (uO h k r hk x hx hx0 hT N3 ru hR hlen oA hpb hs1 jt hfit ym).mono fun _ _ ⟨e,h1,h2⟩=>⟨e,h1,h2.below⟩
structure zL where
  text:List Int
  steps:Nat
  put:Nat
def dw:zL:=⟨[],0,0⟩
def bC (l:List aj):Nat→List Int→List Int→Nat→Nat→zL × Int
  | _,done,[],s,p=>(⟨done,s,p⟩,0)
  | 0,_,_::_,_,_=>(dw,9)
  | left+1,done,z::rest,s,p=>
    if dm l (done++z::rest) done.length<0 then bC l left (done++[z]) rest (s+1) p
    else match l[(dm l (done++z::rest) done.length).toNat]? with
      | none=>(dw,0)
      | some r=>
        if 4000<done.length+(r.target++(z::rest).drop r.source.length).length then (dw,4)
        else bC l left (done++(r.target++(z::rest).drop r.source.length).take r.aa.toNat) ((r.target++(z::rest).drop r.source.length).drop r.aa.toNat) (s+1) (p+1)
def cP (t:List Int):Int:=if 4000<t.length then 4 else if cz t=true then 3 else 0
def jV (o:zL × Int):zL × (Int × Int):=if o.2≠0 then (dw,(o.2,0))else (o.1,(0,0))
theorem fI (l:List aj) (left:Nat) (done:List Int) (s p:Nat):bC l left done [] s p=(⟨done,s,p⟩,0):=by cases left <;> rfl
theorem jz (l:List aj) {Z:List Int} (done:List Int) (s p:Nat) (h:Z ≠ []):bC l 0 done Z s p=(dw,9):=by
 cases Z with
 | nil=>exact absurd rfl h
 | cons z Z=>rfl
theorem iQ {l:List aj} {left:Nat} {done rest:List Int} {z:Int} {s p:Nat} (h:dm l (done++z::rest) done.length = -1):bC l (left+1) done (z::rest) s p=bC l left (done++[z]) rest (s+1) p:=by
 rw [bC,if_pos (by rw [h];decide)]
theorem iL {l:List aj} {left:Nat} {done rest:List Int} {z:Int} {s p k:Nat} {r:aj} (h:dm l (done++z::rest) done.length=(k:Int)) (hk:l[k]? = some r) (hm:4000<done.length+(r.target++(z::rest).drop r.source.length).length) :
    bC l (left+1) done (z::rest) s p=(dw,4):=by
 rw [bC,if_neg (by rw [h];omega),h,Int.toNat_natCast,hk];simp only;rw [if_pos hm]
theorem iO {l:List aj} {left:Nat} {done rest:List Int} {z:Int} {s p k:Nat} {r:aj} (h:dm l (done++z::rest) done.length=(k:Int)) (hk:l[k]? = some r) (hm:¬ 4000<done.length+(r.target++(z::rest).drop r.source.length).length) :
    bC l (left+1) done (z::rest) s p=bC l left (done++(r.target++(z::rest).drop r.source.length).take r.aa.toNat) ((r.target++(z::rest).drop r.source.length).drop r.aa.toNat) (s+1) (p+1):=by
 rw [bC,if_neg (by rw [h];omega),h,Int.toNat_natCast,hk];simp only;rw [if_neg hm]
theorem uu {r:aj} {A Z:List Int} (h:dM r (A++Z) A.length=true):r.source.length≤Z.length:=by
 have h1:mD (A++Z) A.length r.source=true:=by
  unfold dM at h;simp only [Bool.and_eq_true]at h;exact h.1.1.1.1
 unfold mD at h1;split at h1
 ·cases h1
 rename_i hn;rw [not_or,List.length_append]at hn;omega
def Runes (t:List Int):Prop:=∀ x∈t,0≤x∧x≤1114111
theorem nc {t:List Int} (h:cz t=false):Runes t:=by
 intro x hx;unfold cz at h;have h2:bg x=true:=by
  have:=List.any_eq_false.1 h x hx;simpa using this
 unfold bg at h2;simp at h2;omega
theorem GU (x:Int) (w:World):Calls Tryz.prog 42 #[.int .i32 x] w fun e w'=>e=.returned (.bool (!bg x))∧w'=w:=by
 go_enter Tryz.func42,Tryz.ntmps42;go_wp2_with fail;refine(gY _ _).mono ?_;rintro e w1 ⟨rfl,rfl⟩;go_wp2_with fail;go_ret;exact⟨rfl,rfl⟩
theorem Na (A:Option Addr) (n c:Nat) (l:List Int) (w:World) (hn:n≤9223372036854775807) (hl:mc w w.heap.size A n l) :
    Calls Tryz.prog 73 #[.slice A n c,.func (.func 42) #[] #[]] w fun e w'=>(∃ k:Int,e=.returned (.int .i64 k)∧decide (0≤k)=cz l)∧Below w.heap.size w w':=by
 have aV:=qqh hl.len;have HL:=qqh hl;clear hl;go_enter Tryz.func73,Tryz.ntmps73;go_wp2_with fail;go_loopw [8] (Qv w l n) (fun i _=>n - (intOf i).toNat);(case atStart=>exact⟨0,Nat.zero_le _,rfl,rfl,Below.refl _ _⟩);obtain⟨j,hj,rfl,aX,hb⟩:=hrel;by_cases hlt:j<n
 ·obtain⟨x,hx⟩:∃ z,l[j]? = some z:=⟨_,List.getElem?_eq_getElem (by rw [aV.out];exact hlt)⟩;obtain⟨b,off,rfl,dL,c0⟩:=HL.out.at hlt;rw [show l.getD j 0=x by simp [List.getD,hx]]at c0;have d0:=(hb.cell (p:=⟨b,off+j,none⟩) dL).trans c0;rw [cB hx,show cz (x::l.drop (j+1))=(!bg x || cz (l.drop (j+1))) from rfl]at aX;have HG:=qqh aX;have HX:=qqh hx;clear aX hx c0;go_wp2_with fail;refine(GU _ _).mono ?_;rintro e w1 ⟨rfl,rfl⟩;cases hr:bg x
  ·have HR:=qqh hr;clear hr;go_wp2_with fail;go_ret;refine⟨⟨_,rfl,?_⟩,hb⟩;rw [HG.out,HR.out];simp
  have HR:=qqh hr;clear hr;go_wp2_with fail;exact⟨⟨j+1,by omega,by go_num,by rw [HG.out,HR.out];rfl,hb⟩,by simp [intOf];omega⟩
 obtain rfl:j=n:=(by omega);rw [List.drop_of_length_le (by rw [aV.out];omega)]at aX;have HG:=qqh (aX.trans (show cz [] = false from rfl));clear aX;go_wp2_with fail;go_ret;exact⟨⟨_,rfl,by rw [HG.out];rfl⟩,hb⟩
theorem CW (A:Option Addr) (n c:Nat) (l:List Int) (w:World) (hn:n≤9223372036854775807) (hl:mc w w.heap.size A n l) :
    Calls Tryz.prog 41 #[.slice A n c,.func (.func 42) #[] #[]] w fun e w'=>e=.returned (.bool (cz l))∧Below w.heap.size w w':=by
 have H:=qqh (Na A n c l w hn hl);clear hl;go_enter Tryz.func41,Tryz.ntmps41;go_wp2_with fail;refine H.out.mono ?_;rintro e w1 ⟨⟨k,rfl,hk⟩,hb⟩;have HK:=qqh hk;clear hk;go_wp2_with fail;go_ret;refine⟨?_,hb⟩;rw [← HK.out];rfl
theorem ld (A:Option Addr) (n c:Nat) (t:List Int) (w:World) (hn:n≤maxLen) (ht:mc w w.heap.size A n t) :
    Calls Tryz.prog 18 #[.slice A n c] w fun e w'=>e=.returned (.int .i64 (cP t))∧Below w.heap.size w w':=by
 have hl:=ht.len;simp only [maxLen]at hn;have HC:=qqh (CW A n c t w (by omega) ht);clear ht;by_cases h4:4000<n
 ·have HP:=qqh (show cP t=4 by unfold cP;rw [if_pos (by rw [hl];exact h4)]);clear hl;go_enter Tryz.func18,Tryz.ntmps18;go_wp2_with fail;go_ret;rw [HP.out];exact⟨rfl,Below.refl _ _⟩
 have HP:=qqh (show cP t=if cz t=true then 3 else 0 by unfold cP;rw [if_neg (by rw [hl];exact h4)]);clear hl;go_enter Tryz.func18,Tryz.ntmps18;go_wp2_with fail;refine HC.out.mono ?_;rintro e w1 ⟨rfl,hb⟩;have HB:=qqh hb;clear hb;cases WA:cz t
 ·have kO:=qqh (show cP t=0 by rw [HP.out,WA];rfl);go_wp2_with fail;go_ret;rw [kO.out];exact⟨rfl,HB.out⟩
 have kO:=qqh (show cP t=3 by rw [HP.out,WA];rfl);go_wp2_with fail;go_ret;rw [kO.out];exact⟨rfl,HB.out⟩
theorem tj (n:Nat) (hn:n≤4000) (w:World):Calls Tryz.prog 20 #[.int .i64 n] w fun e w'=>e=.returned (.int .i64 (8*n+40:Nat))∧w'=w:=by
 have h:((8*n+40:Nat):Int)=8*(n:Int)+40:=(by omega);rw [h];clear h;go_enter Tryz.func20,Tryz.ntmps20;go_wp2_with fail;go_ret;exact⟨rfl,rfl⟩
def oU (w:World) (X:Nat→Prop) (l:List ag) (xs:List Value):Prop:=xs.length=l.length∧∀ (i:Nat) (s:ag) (u:Value),l[i]? = some s→xs[i]? = some u→iN w X s u
theorem oU.keep {w w':World} {X X':Nat→Prop} {l:List ag} {xs:List Value} (hk:af w X w' X') (h:oU w X l xs):oU w' X' l xs:=⟨h.1,fun i s u h1 h2=>(h.2 i s u h1 h2).keep hk⟩
theorem oU.one {w:World} {X:Nat→Prop} {l:List ag} {xs:List Value} (h:oU w X l xs):∀ u∈xs,u.oneCell'=true:=by
 intro u hu;obtain⟨i,hi⟩:=List.mem_iff_getElem?.1 hu;obtain⟨s,hs⟩:∃ s,l[i]? = some s:=⟨_,List.getElem?_eq_getElem (by rw [← h.1];exact(List.getElem?_eq_some_iff.1 hi).1)⟩;obtain⟨A,n,c,rfl,_⟩:=h.2 i s u hs hi;rfl
end Go.Proofs.YthgkedoildcbcaaGreatDoor
