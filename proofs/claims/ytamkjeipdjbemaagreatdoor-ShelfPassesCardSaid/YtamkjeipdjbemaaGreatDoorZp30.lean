import Derived.Test.YtamkjeipdjbemaaGreatDoorZp7
import Derived.Test.YtamkjeipdjbemaaGreatDoorZp25
import Derived.Test.YtamkjeipdjbemaaGreatDoorZp27
set_option maxHeartbeats 6400000
set_option maxRecDepth 100000
namespace Go.Proofs.YtamkjeipdjbemaaGreatDoor
open Go.RowKit Go.Shelf
theorem nA {w:World} {X:Nat→Prop} {s:aR} {cs:List Value} (h:dW w X s cs):∃ A1 n1 c1 A2 n2 c2,cs = [.bool s.only?,.slice A1 n1 c1,.slice A2 n2 c2]:=by
 obtain⟨u,v,rfl,⟨A1,n1,c1,rfl,_⟩,⟨A2,n2,c2,rfl,_⟩⟩:=h;exact⟨_,_,_,_,_,_,rfl⟩
def AK (w:World) (sc:aR) (e:Ending) (w':World):Prop:=(∃ cs,e=.returned (.tuple #[.agg cs.toArray,.int .i64 0])∧dW w' (fun _=>True) sc cs)∧Below w.heap.size w w'
theorem KE (name text:ByteArray) (back:Bool) (k:Nat) (hk:k<18) (hp:placeOf name files 0=k) (ht:files[k*2+1]? = some text) (l:List aK) (hl:l.length≤200) (sc:aR) (hs:cY back l=(sc,(0,0))) (hne:oB sc=true)
    (hr:∀ W:World,Calls Tryz.prog 13 #[.string text] W fun e w'=>(∃ A n c,e=.returned (.tuple #[.slice A n c,.agg #[.int .i64 0,.int .i64 0]])∧iE w' (fun b=>W.heap.size≤b) A n l)∧Below W.heap.size W w')
    (hd:∀ (A:Option Addr) (n c:Nat) (W:World),n≤maxLen→DH W W.heap.size A n l→Calls Tryz.prog (if back then 15 else 14) #[.slice A n c] W fun e w'=>tj W.heap.size W.heap.size w' l back e∧Below W.heap.size W w') (w:World) :
    Calls Tryz.prog 6 #[.string name,.bool back] w (AK w sc):=by
 have HT:=qqh (fun(W:World)=>PD name text k hk hp ht W);have HR:=qqh hr;unfold tj at hd;rw [hs]at hd;have HD:=qqh hd;have HL:=qqh hl;have fW:=qqh (an.new w 29 aG);have cy:=qqh ((Below.refl w.heap.size w).alloc qql (.cells aG 29));clear hp ht hr hs hd hl hk;go_enter Tryz.func6,Tryz.ntmps6;go_wp2_with fail;refine(HT.out _).mono ?_;rintro e w1 ⟨rfl,aP⟩;have bF:=qqh (cy.out.trans (aP.mono cy.out.size));have gX:=qqh (fW.out.below aP fW.out.lt);clear aP;go_wp2_with fail;refine(HR.out _).mono ?_;rintro e w2 ⟨⟨A,n,c,rfl,hx⟩,aX⟩;have HN:=qqh (show n≤200 by rw [← hx.len];exact HL.out);have hw1:=gX.out.lt;have bf:=qqh (bF.out.trans (aX.mono bF.out.size));have iz:=qqh (gX.out.below aX hw1);have ye:=qqh (hx.rd);have ya:=iz.out.lt;have bN:=qqh (bf.out.alloc bf.out.size (.cells #[.int .i64 0,.int .i64 0] 34));have qD:=qqh (iz.out.alloc (.cells #[.int .i64 0,.int .i64 0] 34));have dV:=qqh (an.new w2 34 #[.int .i64 0,.int .i64 0]);have hba:=(Below.refl w2.heap.size w2).alloc qql (.cells #[.int .i64 0,.int .i64 0] 34);have CY:=qqh (DH.weak (gI hba hba.size) ye.out);have d0:=dV.out.cell 0;clear aX hx iz ye gX hba;cases back
 all_goals
   go_wp2_with fail
   refine(HD.out A n c _ (by have:=HN.out;simp only [maxLen];omega) CY.out).mono ?_
   rintro e w4 ⟨⟨cs,_,rfl,hcs⟩,hb4⟩
   obtain⟨A1,n1,c1,A2,n2,c2,rfl⟩:=nA hcs
   have bW:=qqh (bN.out.trans (hb4.mono bN.out.size))
   have EN:=qqh (qD.out.below hb4 qD.out.lt)
   have jr:=qqh (an.alloc (dV.out.below hb4 dV.out.lt) (.cells #[.bool sc.only?,.slice A1 n1 c1,.slice A2 n2 c2] 29))
   have zE:=qqh hcs
   have f0:=jr.out.frozen 0
   have k0:=jr.out.cell 0
   have f1:=(jr.out.put 0 (.int .i64 0)).frozen 1
   have k1:=(jr.out.put 0 (.int .i64 0)).cell 1
   clear hb4 hcs
   go_upto_region 11 with fail
   clear f0 k0 f1 k1
   have hW:((w4.alloc (.cells #[.bool sc.only?,.slice A1 n1 c1,.slice A2 n2 c2] 29)).setCell ⟨w2.heap.size,0,none⟩ (.int .i64 0)).setCell ⟨w2.heap.size,1,none⟩ (.int .i64 0)=w4.alloc (.cells #[.bool sc.only?,.slice A1 n1 c1,.slice A2 n2 c2] 29):=by
     rw [mZ jr.out rfl,mZ jr.out rfl]
   rw [hW]
   have uB:=qqh (an.new w4 29 #[.bool sc.only?,.slice A1 n1 c1,.slice A2 n2 c2])
   have eD:=qqh (bW.out.alloc bW.out.size (.cells #[.bool sc.only?,.slice A1 n1 c1,.slice A2 n2 c2] 29))
   have uL:=qqh (EN.out.alloc (.cells #[.bool sc.only?,.slice A1 n1 c1,.slice A2 n2 c2] 29))
   have sM:=qqh (show dW (w4.alloc (.cells #[.bool sc.only?,.slice A1 n1 c1,.slice A2 n2 c2] 29)) (Fr (w2.alloc (.cells #[.int .i64 0,.int .i64 0] 34)).heap.size (w2.alloc (.cells #[.int .i64 0,.int .i64 0] 34)).heap.size) sc [.bool sc.only?,.slice A1 n1 c1,.slice A2 n2 c2] from zE.out.keep (aa.below ((Below.refl w4.heap.size w4).alloc qql _) (fun _ h _=>h)))
   have n0:¬ w.heap.size=w4.heap.size:=by have:=EN.out.lt;omega
   have n1':¬ w.heap.size=w2.heap.size:=by omega
   clear hW zE
   generalize w4.alloc (.cells #[.bool sc.only?,.slice A1 n1 c1,.slice A2 n2 c2] 29)=W5 at *
   have e0:W5.cell? ⟨w4.heap.size,0,none⟩=some (.bool sc.only?):=uB.out.cell 0
   have e1:W5.cell? ⟨w4.heap.size,1,none⟩=some (.slice A1 n1 c1):=uB.out.cell 1
   have e2:W5.cell? ⟨w4.heap.size,2,none⟩=some (.slice A2 n2 c2):=uB.out.cell 2
   have g0:W5.cell? ⟨w2.heap.size,0,none⟩=some (.int .i64 0):=jr.out.cell 0
   have f0:=uL.out.frozen 0
   have f1:=uL.out.frozen 1
   have f2:=uL.out.frozen 2
   have a0:W5.cell? ⟨w.heap.size,0,none⟩=some (.bool false):=uL.out.cell 0
   have a1:W5.cell? ⟨w.heap.size,1,none⟩=some (.slice none 0 0):=uL.out.cell 1
   have a2:W5.cell? ⟨w.heap.size,2,none⟩=some (.slice none 0 0):=uL.out.cell 2
   have FP:=qqh (dW.free (g:=w.heap.size) (fun j u hu=>by
     rw [uL.out.cell]at hu
     match j,hu with
     | 0,hu=>cases hu;rfl
     | 1,hu=>cases hu;rfl
     | 2,hu=>cases hu;rfl
     | j+3,hu=>simp [aG]at hu) hne sM.out)
   clear sM hne jr uL uB
   go_region
   all_goals
     go_wp2_with fail
     have hk:aa W5 (Bn (Fr (w2.alloc (.cells #[.int .i64 0,.int .i64 0] 34)).heap.size (w2.alloc (.cells #[.int .i64 0,.int .i64 0] 34)).heap.size) w.heap.size) (((W5.setCell ⟨w.heap.size,0,none⟩ (.bool sc.only?)).setCell ⟨w.heap.size,1,none⟩ (.slice A1 n1 c1)).setCell ⟨w.heap.size,2,none⟩ (.slice A2 n2 c2)) (fun _=>True) :=
       ((aa.setCell (X':=fun b=>b≠w.heap.size) _ (fun b h=>h.2) (fun b h _=>h.2)).trans (aa.setCell (X':=fun b=>b≠w.heap.size) _ (fun b h=>h) (fun b h _=>h))).trans (aa.setCell _ (fun b h=>h) (fun b h _=>trivial))
     have Hv:=qqh (FP.out.keep (hk.trans (aa.below (qqb.drew) (X':=fun _=>True) (fun _ _ _=>trivial))))
     have iF:=qqh ((((eD.out.setCell (p:=⟨w.heap.size,0,none⟩) (by simp) (.bool sc.only?)).setCell (p:=⟨w.heap.size,1,none⟩) (by simp) (.slice A1 n1 c1)).setCell (p:=⟨w.heap.size,2,none⟩) (by simp) (.slice A2 n2 c2)).drew)
     clear hk
     refine bodyPost_ret (v:=.tuple #[.agg #[.bool sc.only?,.slice A1 n1 c1,.slice A2 n2 c2],.int .i64 0]) (by simp [results,Tryz.results6,go_sem,a0,a1,a2]) rfl ⟨⟨[.bool sc.only?,.slice A1 n1 c1,.slice A2 n2 c2],rfl,Hv.out⟩,iF.out⟩
end Go.Proofs.YtamkjeipdjbemaaGreatDoor
namespace Go.Proofs.YtamkjeipdjbemaaGreatDoor
open Go.RowKit
theorem sy {t:TypeId} {name:String} {path:List FieldStep} {f:FuncId} (h:(Tryz.prog.info? t).map (fun i=>(i.methods.find? (·.name == name)).map fun m=>(m.path.toList,m.func))=some (some (path,some (f,true)))) :
    ∃ i,Tryz.prog.info? t=some i∧∃ m,i.methods.find? (·.name == name)=some m∧m.path.toList=path∧m.func=some (f,true):=by
 obtain⟨i,hi,h2⟩:=Option.map_eq_some_iff.1 h;obtain⟨m,hm,h3⟩:=Option.map_eq_some_iff.1 h2;simp only [Prod.mk.injEq]at h3;exact⟨i,hi,m,hm,h3.1,h3.2⟩
theorem Nx (M:Nat) (w:World) (v:Value) (h:w.cell? ⟨M,0,none⟩=some v):(method 388 188 (.pointer (some ⟨M,0,none⟩)) "Len").run Tryz.prog w=.ok (133,v) w:=by
 obtain⟨i,hi,m,hm,hp,hf⟩:=sy (t:=188) (name:="Len") (path:=[⟨193,0,true⟩]) (f:=133) (by kernel_rfl);unfold method;simp [go_sem,typeInfo,hi,hm,hp,hf,follow,receiverAt,Place.get,loadVar,h]
theorem I4 (M:Nat) (w:World) (v:Value) (h:w.cell? ⟨M,0,none⟩=some v):(method 388 188 (.pointer (some ⟨M,0,none⟩)) "Rune").run Tryz.prog w=.ok (158,v) w:=by
 obtain⟨i,hi,m,hm,hp,hf⟩:=sy (t:=188) (name:="Rune") (path:=[⟨193,0,true⟩]) (f:=158) (by kernel_rfl);unfold method;simp [go_sem,typeInfo,hi,hm,hp,hf,follow,receiverAt,Place.get,loadVar,h]
theorem Ft:∀ args w,(callFunc 133 args).run Tryz.prog w=.ok (.enter 133 args) w:=enters_of Tryz.func133 (by kernel_rfl) rfl
theorem Dg:∀ args w,(callFunc 158 args).run Tryz.prog w=.ok (.enter 158 args) w:=enters_of Tryz.func158 (by kernel_rfl) rfl
def Wo (lo M b:Nat) (A Z:List Int) (w:World):Prop:=w.cell? ⟨M,0,none⟩=some (.pointer (some ⟨b,0,none⟩))∧M<w.heap.size∧xg lo w b A Z
theorem IT (lo M b:Nat) (A Z:List Int):Nj 188 (.pointer (some ⟨M,0,none⟩)) (.pointer (some ⟨b,0,none⟩)) 133 158 (A++Z) (Wo lo M b A Z) where
  enterL:=Ft
  enterR:=Dg
  ml:=fun w h=>Nx M w _ h.1
  mr:=fun w h=>I4 M w _ h.1
  len:=fun w h=>by
    have:=vc h.2.2
    rwa [← List.length_append]at this
  rune:=fun w k x h hx=>Dj h.2.2 k x hx
  keep:=fun w w' h hb=>⟨(hb.cell (p:=⟨M,0,none⟩) h.2.1).trans h.1,Nat.lt_of_lt_of_le h.2.1 hb.size,h.2.2.below hb⟩
def hereAt (l:List az) (T:List Int) (q:Nat) (k:Int):Bool:=match l[k.toNat]? with | some r=>cV r T q | none=>false
def ep (l:List az) (T:List Int) (q:Nat):List Int→Int
  | []=>-1
  | k::ks=>if hereAt l T q k=true then k else ep l T q ks
def upTo (n:Nat):List Int:=(List.range n).map fun i:Nat=>(i:Int)
def fC (l:List az) (T:List Int) (q:Nat):Int:=ep l T q (upTo l.length)
theorem wI (l:List az) (T:List Int) (q:Nat) (m:Nat→Bool):∀ (ks:List Nat),(∀ k∈ks,m k=false→hereAt l T q (k:Int)=false)→ep l T q ((ks.filter m).map fun i:Nat=>(i:Int))=ep l T q (ks.map fun i:Nat=>(i:Int)):=by
 intro ks;induction ks with
 | nil=>intro _;rfl
 | cons k ks ih=>
  intro h;have h2:=ih (fun x hx=>h x (by simp [hx]));cases hm:m k
  ·rw [List.filter_cons_of_neg (by simp [hm]),h2,List.map_cons,ep,if_neg (by rw [h k (by simp) hm];decide)]
  rw [List.filter_cons_of_pos hm,List.map_cons,List.map_cons,ep,ep,h2]
theorem F4 {r:az} {T:List Int} {q:Nat} {x:Int} (hs:r.source ≠ []) (hx:T[q]? = some x) (h:bB (bk r) x=false):cV r T q=false:=by
 have h1:je T q r.source=false:=by
  cases hr:r.source with
  | nil=>exact absurd hr hs
  | cons s l=>
   unfold je;split;rfl;have:bk r=s:=(by unfold bk;rw [hr];rfl);rw [this]at h;rw [Int.toNat_natCast,bR hx,jz,h,Bool.false_and]
 unfold cV;rw [h1];simp
theorem DR {l:List az} {T:List Int} {q:Nat} {x:Int} (hs:∀ r∈l,r.source ≠ []) (hx:T[q]? = some x):ep l T q (bJ l x)=fC l T q:=by
 unfold bJ cR fC upTo;refine wI l T q _ _ (fun k hk hm=>?_);unfold hereAt;rw [Int.toNat_natCast];cases hl:l[k]? with
 | none=>rfl
 | some r=>
  unfold rP at hm;rw [hl]at hm;exact F4 (hs r (List.mem_of_getElem? hl)) hx hm
theorem yw (l:List az) (T:List Int) (q:Nat):∀ ks:List Int,(∀ k∈ks,0≤k)→ep l T q ks = -1∨∃ (k:Nat) (r:az),ep l T q ks=(k:Int)∧l[k]? = some r∧cV r T q=true:=by
 intro ks;induction ks with
 | nil=>intro _;exact .inl rfl
 | cons k ks ih=>
  intro h;rw [ep];by_cases hk:hereAt l T q k=true
  ·rw [if_pos hk];right;unfold hereAt at hk;cases hl:l[k.toNat]? with
   | none=>rw [hl]at hk;cases hk
   | some r=>
    rw [hl]at hk;exact⟨k.toNat,r,by have:=h k (by simp);omega,hl,hk⟩
  rw [if_neg hk];exact ih (fun x hx=>h x (by simp [hx]))
theorem rJ (l:List az) (T:List Int) (q:Nat):fC l T q = -1∨∃ (k:Nat) (r:az),fC l T q=(k:Int)∧l[k]? = some r∧cV r T q=true :=
  yw l T q _ (fun k hk=>by
    unfold upTo at hk
    obtain⟨i,_,rfl⟩:=List.mem_map.1 hk
    omega)
theorem yP (gm gr M blk off n c i:Nat) (r y:Int) (w:World) (hi:i<n) (hm:w.cell? ⟨gm,0,none⟩=some (.pointer (some ⟨M,0,none⟩))) (ha:w.cell? ⟨M,2,none⟩=some (.slice (some ⟨blk,off,none⟩) n c)) (hr:w.cell? ⟨gr,0,none⟩=some (.int .i32 r)) (hc:w.cell? ⟨blk,off+i*3+1,none⟩=some (.int .i32 y)) :
    Calls Tryz.prog 159 (#[.int .i64 i] ++ #[.pointer (some ⟨gm,0,none⟩),.pointer (some ⟨gr,0,none⟩)]) w fun e w'=>e=.returned (.bool (decide (r≤y)))∧Below w.heap.size w w':=by
 have hiz:(i:Int)<(n:Int):=(by omega);go_enter Tryz.func159,Tryz.ntmps159;go_wp2_with fail;go_quiet (fail);go_wp2_with fail;go_ret;exact⟨rfl,below_drewN qqb _⟩
theorem AG:∀ args w,(callFunc 159 args).run Tryz.prog w=.ok (.enter 159 args) w:=enters_of Tryz.func159 (by kernel_rfl) rfl
def mq (b:Nat) (Ar:Option Addr) (nr cr:Nat) (Ah:Option Addr) (nh ch:Nat) (ej s p:Int):Array Value:=#[.pointer (some ⟨b,0,none⟩),.slice Ar nr cr,.slice Ah nh ch,.int .i64 ej,.slice none 0 0,.int .i64 s,.int .i64 p]
structure dK (lo:Nat) (w:World) (M b:Nat) (A Z:List Int) (l:List az) (hs:List bK) (Ar:Option Addr) (nr cr:Nat) (Ah:Option Addr) (nh ch:Nat) (ej s p:Int):Prop where
  ge:lo≤M
  blk:an w M 193 (mq b Ar nr cr Ah nh ch ej s p)
  buf:xg lo w b A Z
  rules:bS (bg w (fun x=>x<lo)) w (fun x=>x<lo) 7 Ar nr l
  heads:bS (iN w (fun x=>x<lo)) w (fun x=>x<lo) 3 Ah nh hs
theorem dK.below {lo:Nat} {w w':World} {M b:Nat} {A Z:List Int} {l:List az} {hs:List bK} {Ar:Option Addr} {nr cr:Nat} {Ah:Option Addr} {nh ch:Nat} {ej s p:Int} (h:dK lo w M b A Z l hs Ar nr cr Ah nh ch ej s p) (hb:Below w.heap.size w w'):dK lo w' M b A Z l hs Ar nr cr Ah nh ch ej s p :=
  ⟨h.ge,an.below h.blk hb h.blk.lt,h.buf.below hb,h.rules.keep (aa.any hb) (fun _ _=>bg.keep (aa.any hb)),h.heads.keep (aa.any hb) (fun _ _=>iN.keep (aa.any hb))⟩
theorem sQ {lo:Nat} {w:World} {M b:Nat} {A Z:List Int} {l:List az} {hs:List bK} {Ar:Option Addr} {nr cr:Nat} {Ah:Option Addr} {nh ch:Nat} {ej s p:Int} (h:dK lo w M b A Z l hs Ar nr cr Ah nh ch ej s p)
    (x:Int) (hx:(A++Z)[A.length]? = some x) (hx0:0≤x∧x≤1114111) (hT:(A++Z).length≤100000) (Ox:nh≤400) (qN:gN l hs 1114112) (hR:∀ r∈l,fK r) (hlen:l.length≤200) :
    Calls Tryz.prog 148 #[.pointer (some ⟨M,0,none⟩)] w fun e w'=>e=.returned (.int .i64 (fC l (A++Z) A.length))∧Below w.heap.size w w':=by
 have eP:=(Below.refl w.heap.size w).alloc qql (.cells #[.pointer (some ⟨M,0,none⟩)] 188);have H:=qqh h;have HX:=qqh hx;have VF:=qqh qN;have iT:=qqh hR;have Wm:=qqh (show hs.length=nh from h.heads.len);have Yq:=qqh (show l.length=nr from h.rules.len);have OA:=qqh (h.below eP);have HG:=qqh (an.new w 188 #[.pointer (some ⟨M,0,none⟩)]);have cy:=qqh eP;clear h hx qN hR eP;go_enter Tryz.func148,Tryz.ntmps148;go_wp2_with fail;generalize ZA:w.alloc (.cells #[.pointer (some ⟨M,0,none⟩)] 188)=W1 at *;have g0:=HG.out.cell 0;have c0:=OA.out.blk.cell 0;have Ow:=HG.out.lt;have hml:=OA.out.blk.lt;have uF:=qqh (fun(W:World) (hb:Below W1.heap.size W1 W)=>tP (OA.out.buf.below hb));have lF:=qqh (fun(W:World) (hb:Below W1.heap.size W1 W)=>Dj (OA.out.buf.below hb) A.length x HX.out);clear ZA;have HC:=qqh (fun(W:World) (hb:Below W1.heap.size W1 W)=>show W.cell? ⟨w.heap.size,0,none⟩=some (.pointer (some ⟨M,0,none⟩))∧W.cell? ⟨M,0,none⟩=some (.pointer (some ⟨b,0,none⟩)) from⟨(hb.cell (p:=⟨w.heap.size,0,none⟩) Ow).trans g0,(hb.cell (p:=⟨M,0,none⟩) hml).trans c0⟩);go_upto_region 1 with fail;go_cut [3] (fun s3 wx=>∃ G,s3=.pointer (some ⟨G,0,none⟩)∧an wx G 21 #[.int .i32 x]∧Below W1.heap.size W1 wx);case first=>
  refine aC (S:=fun w'=>w'.cell? ⟨w.heap.size,0,none⟩=some (.pointer (some ⟨M,0,none⟩))∧w'.cell? ⟨M,0,none⟩=some (.pointer (some ⟨b,0,none⟩))) [0,3,4,7] (by kernel_rfl) ⟨g0,c0⟩ (fun aQ=>?_);refine tu 0 7 ?_;(try simp only [zp,za,z0,zs]);refine tq 1 8 ?_;(try simp only [zp,za,z0,zs]);refine tq 2 9 ?_;(try simp only [zp,za,z0,zs]);refine tu 3 10 ?_;(try simp only [zp,za,z0,zs]);refine tu 4 11 ?_;(try simp only [zp,za,z0,zs]);refine tq 5 12 ?_;(try simp only [zp,za,z0,zs]);refine tq 6 13 ?_;(try simp only [zp,za,z0,zs]);refine tu 7 14 ?_;(try simp only [zp,za,z0,zs]);refine dL (i:=8) (j:=10) (o:=⟨some 15,_,_,_,_,_⟩) (o2:=⟨some 3,_,_,_,_,_⟩) (by kernel_rfl) rfl rfl (fun K hK=>?_) (fun K hK=>?_)
  ·go_simp;go_at_call 132;refine(uF.out _ (ak (Below.refl W1.heap.size W1))).mono ?_;rintro e w2 ⟨rfl,rfl⟩;(try dsimp only);refine hK.out _ _ ?_ (fun aQ=>?_);exact HC.out _ (ak (Below.refl W1.heap.size W1));clear hK K;(try simp only [zp,za,z0,zs]);refine dL (i:=9) (j:=10) (o:=⟨some 16,_,_,_,_,_⟩) (o2:=⟨some 3,_,_,_,_,_⟩) (by kernel_rfl) rfl rfl (fun K hK=>?_) (fun K hK=>?_)
   ·go_simp;go_at_call 158;refine(lF.out _ (ak (Below.refl W1.heap.size W1))).mono ?_;rintro e w2 ⟨rfl,k2,ya⟩;have bf:=qqh (show Below W1.heap.size W1 w2 by rw [ya];exact below_drewN (ak (Below.refl W1.heap.size W1)) k2);clear ya;(try dsimp only);refine hK.out _ _ ?_ (fun aQ=>?_);exact HC.out _ bf.out;clear hK K;(try simp only [zp,za,z0,zs]);refine ax (i:=10) (o:=⟨some 3,_,_,_,_,_⟩) (by kernel_rfl) rfl (fun K hK=>?_);go_simp;(try dsimp only);refine hK.out _ _ ?_ (fun aQ=>?_);exact HC.out _ (bf.out.alloc bf.out.size _);clear hK K;(try simp only [zp,za,z0,zs]);refine aA (i:=11) (by kernel_rfl) rfl (by kernel_rfl) (fun K hK=>?_);go_simp;(try dsimp only);refine hK.out _ _ ?_;clear hK K;refine aL (by kernel_rfl) ?_ _;go_simp;go_wp2_with fail;go_meet;exact⟨w2.heap.size,rfl,an.new _ _ _,bf.out.alloc bf.out.size _⟩
   go_simp;(try dsimp only);refine hK.out _ _ ?_ (fun aQ=>?_);exact HC.out _ (ak ((Below.refl W1.heap.size W1).alloc qql (.cells #[.int .i32 0] 21)));clear hK K;(try simp only [Act.put,List.setIfInBounds_toArray,List.set_cons_zero,List.set_cons_succ]);refine ax (i:=9) (o:=⟨some 16,_,_,_,_,_⟩) (by kernel_rfl) rfl (fun K hK=>?_);go_simp;go_at_call 158;refine(lF.out _ (ak ((Below.refl W1.heap.size W1).alloc qql (.cells #[.int .i32 0] 21)))).mono ?_;rintro e w2 ⟨rfl,k2,ya⟩;have bf:=qqh (show Below W1.heap.size W1 w2 by rw [ya];exact below_drewN (ak ((Below.refl W1.heap.size W1).alloc qql (.cells #[.int .i32 0] 21))) k2);have Tw:=qqh (show an w2 W1.heap.size 21 #[.int .i32 0] by rw [ya];exact an.new W1 21 #[.int .i32 0]);clear ya;(try dsimp only);refine hK.out _ _ ?_ (fun aQ=>?_);exact HC.out _ bf.out;clear hK K;(try simp only [zp,za,z0,zs]);refine aA (i:=11) (by kernel_rfl) rfl (by kernel_rfl) (fun K hK=>?_);have z0:=Tw.out.cell 0;have z1:=Tw.out.frozen 0;go_simp;(try dsimp only);refine hK.out _ _ ?_;clear hK K;refine aL (by kernel_rfl) ?_ _;go_simp;go_wp2_with fail;go_meet;exact⟨W1.heap.size,rfl,Tw.out.put 0 _,bf.out.setCell qql _⟩
  go_simp;(try dsimp only);refine hK.out _ _ ?_ (fun aQ=>?_);exact HC.out _ (ak ((Below.refl W1.heap.size W1).alloc qql (.cells #[.int .i32 0] 21)));clear hK K;(try simp only [Act.put,List.setIfInBounds_toArray,List.set_cons_zero,List.set_cons_succ]);refine ax (i:=8) (o:=⟨some 15,_,_,_,_,_⟩) (by kernel_rfl) rfl (fun K hK=>?_);go_simp;go_at_call 132;refine(uF.out _ (ak ((Below.refl W1.heap.size W1).alloc qql (.cells #[.int .i32 0] 21)))).mono ?_;rintro e w2 ⟨rfl,rfl⟩;(try dsimp only);refine hK.out _ _ ?_ (fun aQ=>?_);exact HC.out _ (ak ((Below.refl W1.heap.size W1).alloc qql (.cells #[.int .i32 0] 21)));clear hK K;(try simp only [zp,za,z0,zs]);refine ax (i:=9) (o:=⟨some 16,_,_,_,_,_⟩) (by kernel_rfl) rfl (fun K hK=>?_);go_simp;go_at_call 158;refine(lF.out _ (ak ((Below.refl W1.heap.size W1).alloc qql (.cells #[.int .i32 0] 21)))).mono ?_;rintro e w2 ⟨rfl,k2,ya⟩;have bf:=qqh (show Below W1.heap.size W1 w2 by rw [ya];exact below_drewN (ak ((Below.refl W1.heap.size W1).alloc qql (.cells #[.int .i32 0] 21))) k2);have Tw:=qqh (show an w2 W1.heap.size 21 #[.int .i32 0] by rw [ya];exact an.new W1 21 #[.int .i32 0]);clear ya;(try dsimp only);refine hK.out _ _ ?_ (fun aQ=>?_);exact HC.out _ bf.out;clear hK K;(try simp only [zp,za,z0,zs]);refine aA (i:=11) (by kernel_rfl) rfl (by kernel_rfl) (fun K hK=>?_);have z0:=Tw.out.cell 0;have z1:=Tw.out.frozen 0;go_simp;(try dsimp only);refine hK.out _ _ ?_;clear hK K;refine aL (by kernel_rfl) ?_ _;go_simp;go_wp2_with fail;go_meet;exact⟨W1.heap.size,rfl,Tw.out.put 0 _,bf.out.setCell qql _⟩
 obtain⟨G,rfl,hGx,jt⟩:=hcut;have lD:=qqh jt;have Od:=qqh hGx;have Yx:=qqh (OA.out.below jt);have HF:=qqh (an.below HG.out jt Ow);have t0:=HF.out.cell 0;have t2:wc.cell? ⟨M,2,none⟩=some (.slice Ah nh ch):=Yx.out.blk.cell 2
 have Oa:=qqh (ur 159 #[.pointer (some ⟨w.heap.size,0,none⟩),.pointer (some ⟨G,0,none⟩)] nh (fun i=>decide (x≤(hs[i]?.getD ⟨0,0,[]⟩).high)) wc AG (by omega)
   (fun w' i hb hi=>by
     obtain⟨y,hy⟩:∃ z,hs[i]? = some z:=⟨_,List.getElem?_eq_getElem (by rw [Wm.out];exact hi)⟩
     obtain⟨hb',hoff,A',c',rfl,_,cK,_,c1,_⟩:=Hh (Yx.out.below hb).heads hy
     rw [hy]
     exact yP w.heap.size G M hb' hoff nh ch i x y.high w' hi ((an.below HF.out hb HF.out.lt).cell 0) ((Yx.out.below hb).blk.cell 2) ((an.below Od.out hb Od.out.lt).cell 0) c1)
   (fun a b hab hb h=>by
     obtain⟨y,hy⟩:∃ z,hs[a]? = some z:=⟨_,List.getElem?_eq_getElem (by rw [Wm.out];omega)⟩
     obtain⟨z,hz⟩:∃ z,hs[b]? = some z:=⟨_,List.getElem?_eq_getElem (by rw [Wm.out];omega)⟩
     simp only [hy,hz,Option.getD_some,decide_eq_true_eq]at h ⊢
     have:=VF.out.XG a b y z hab hy hz
     omega))
 clear hGx jt g0 c0;go_wp2_with fail;refine Oa.out.mono ?_;rintro e w2 ⟨k,rfl,hk,h1,h2,hb⟩;obtain⟨y,hy,hyr⟩:=VF.out.head (r:=x) (k:=k) (fun t z ht hz=>by
  have:=h1 t ht;rw [hz]at this;simpa using this) (fun t z ht hz=>by
  have:=h2 t ht (by rw [← Wm.out];exact(List.getElem?_eq_some_iff.1 hz).1);rw [hz]at this;simpa using this) hx0.1 hx0.2
 have hkn:k<nh:=(by rw [← Wm.out];exact(List.getElem?_eq_some_iff.1 hy).1);have HMD:=qqh (Yx.out.below hb);have KR:=qqh (an.below HF.out hb HF.out.lt);have Ux:=qqh (cy.out.trans ((lD.out.trans (hb.mono lD.out.size)).mono cy.out.size));obtain⟨hb',hoff,Ab,cb,rfl,_,cK,_,_,e2,Zm,_,eP⟩:=Hh HMD.out.heads hy;rw [hyr]at e2 Zm eP;have d0:=KR.out.cell 0;have d2:w2.cell? ⟨M,2,none⟩=some (.slice (some ⟨hb',hoff,none⟩) nh ch):=HMD.out.blk.cell 2;have HRI:=qqh Zm;have HWI:=qqh (DR (l:=l) (T:=A++Z) (q:=A.length) (fun r hr=>(iT.out r hr).src) HX.out);have aaQ:=qqh (show ∀ k∈bJ l x,∃ q:Nat,k=(q:Int)∧q<l.length from fun k hk=>by
  unfold bJ cR at hk;obtain⟨q,hq,rfl⟩:=List.mem_map.1 hk;exact⟨q,rfl,List.mem_range.1 (List.mem_filter.1 hq).1⟩)
 have aeD:(bJ l x).length≤200:=Nat.le_trans (KQ l x) hlen;generalize hBB:bJ l x=BB at *;generalize IS:BB.length=bn at *;have HBN:=qqh IS;clear h1 h2 hb hy hyr Zm hBB IS Oa t0 t2;go_wp2_with fail;go_loopw [33] (fun i wr=>∃ j:Nat,j≤bn∧i=.int .i64 j∧ep l (A++Z) A.length BB=ep l (A++Z) A.length (BB.drop j)∧Below w2.heap.size w2 wr) (fun i _=>bn - (intOf i).toNat);(case atStart=>exact⟨0,Nat.zero_le _,rfl,rfl,qqb⟩);obtain⟨j,hj,rfl,aN,hb⟩:=hrel;have MS:=qqh (HMD.out.below hb);have QJ:=qqh (Ux.out.trans (hb.mono Ux.out.size));have UT:=qqh hb;by_cases hlt:j<bn
 ·obtain⟨kk,hkk⟩:∃ z,BB[j]? = some z:=⟨_,List.getElem?_eq_getElem (by rw [HBN.out];exact hlt)⟩;obtain⟨kn,rfl,Cl⟩:=aaQ.out kk (List.mem_of_getElem? hkk);obtain⟨r,hr⟩:∃ z,l[kn]? = some z:=⟨_,List.getElem?_eq_getElem Cl⟩;obtain⟨vb,vo,rfl,Sa,hvc⟩:=HRI.out.at hkk;have v0:=(UT.out.cell (p:=⟨vb,vo+j,none⟩) Sa).trans hvc;obtain⟨rb,ro,A1,A2,A3,A4,n1,c1,n2,c2,n3,c3,n4,c4,rfl,_,tT⟩:=Ik MS.out.rules hr;have HHR:=qqh (GK (IT lo M b A Z) (fun x=>x<lo) r rb (ro+kn*7) A1 A2 A3 A4 n1 c1 n2 c2 n3 c3 n4 c4 A.length wr.drew hT (by rw [List.length_append];omega) (iT.out r (List.mem_of_getElem? hr)) (tT.below (ak qqb)) ⟨MS.out.blk.cell 0,MS.out.blk.lt,MS.out.buf.below (ak (Below.refl wr.heap.size wr))⟩);have HH:=qqh (show hereAt l (A++Z) A.length (kn:Int)=cV r (A++Z) A.length by unfold hereAt;rw [Int.toNat_natCast,hr]);have dh:=qqh (aN.trans (show ep l (A++Z) A.length (BB.drop j)=if hereAt l (A++Z) A.length (kn:Int)=true then (kn:Int)else ep l (A++Z) A.length (BB.drop (j+1)) by rw [bR hkk,ep]));have Te:kn<nr:=(by rw [← Yq.out];exact Cl);have u0:=(an.below KR.out hb KR.out.lt).cell 0;have u1:wr.cell? ⟨M,0,none⟩=some (.pointer (some ⟨b,0,none⟩)):=MS.out.blk.cell 0;have u2:wr.cell? ⟨M,1,none⟩=some (.slice (some ⟨rb,ro,none⟩) nr cr):=MS.out.blk.cell 1;clear hkk hr hvc tT aN hb;go_upto_region 6 with fail;refine aC (S:=fun w'=>w'.cell? ⟨w.heap.size,0,none⟩=some (.pointer (some ⟨M,0,none⟩))∧w'.cell? ⟨M,0,none⟩=some (.pointer (some ⟨b,0,none⟩))∧w'.cell? ⟨M,1,none⟩=some (.slice (some ⟨rb,ro,none⟩) nr cr)) [0,3,6,8,11] (by kernel_rfl) ⟨u0,u1,u2⟩ (fun aQ=>?_);refine tu 0 37 ?_;(try simp only [zp,za,z0,zs]);refine tq 1 38 ?_;(try simp only [zp,za,z0,zs]);refine tq 2 39 ?_;(try simp only [zp,za,z0,zs])
  refine tu 3 40 ?_;(try simp only [zp,za,z0,zs]);refine tq 4 41 ?_;(try simp only [zp,za,z0,zs]);refine tq 5 42 ?_;(try simp only [zp,za,z0,zs]);refine tu 6 43 ?_;(try simp only [zp,za,z0,zs]);refine tq 7 44 ?_;(try simp only [zp,za,z0,zs]);refine tu 8 45 ?_;(try simp only [zp,za,z0,zs]);refine tq 9 46 ?_;(try simp only [zp,za,z0,zs]);refine tq 10 47 ?_;(try simp only [zp,za,z0,zs]);refine tu 11 48 ?_;(try simp only [zp,za,z0,zs]);refine ax (i:=12) (o:=⟨some 49,_,_,_,_,_⟩) (by kernel_rfl) rfl (fun K hK=>?_);go_simp;go_at_call 132;refine(tP (MS.out.buf.below (ak (Below.refl wr.heap.size wr)))).mono ?_;rintro e w2 ⟨rfl,rfl⟩;(try dsimp only);refine hK.out _ _ ?_ (fun aQ=>?_);exact⟨u0,u1,u2⟩;clear hK K;(try simp only [zp,za,z0,zs]);refine aA (i:=13) (o:=⟨some 50,_,_,_,_,_⟩) (by kernel_rfl) rfl (by kernel_rfl) (fun K hK=>?_);go_simp;go_at_call 160;refine HHR.out.mono ?_;rintro e w3 ⟨rfl,bM⟩;have Tn:Below wr.heap.size wr w3:=(ak (Below.refl wr.heap.size wr)).trans bM;have bN:=qqh (QJ.out.trans (Tn.mono QJ.out.size));have bW:=qqh (UT.out.trans (Tn.mono UT.out.size));clear bM Tn HHR;(try dsimp only);refine hK.out _ _ ?_;clear hK K;(try simp only [zp,za,z0,zs]);refine aL (by kernel_rfl) ?_ _;cases hh:cV r (A++Z) A.length
  ·have jZ:=qqh (dh.out.trans (if_neg (by rw [HH.out,hh];decide)));clear hh;go_simp;go_wp2_with fail;exact⟨⟨j+1,by omega,by go_num,jZ.out,bW.out⟩,by simp [intOf];omega⟩
  have jZ:=qqh (dh.out.trans (if_pos (by rw [HH.out,hh])));clear hh;go_simp;go_wp2_with fail;go_ret;rw [← HWI.out,jZ.out];exact⟨rfl,bN.out⟩
 obtain rfl:j=bn:=(by omega);rw [List.drop_of_length_le (by rw [HBN.out];exact qql)]at aN;have jZ:=qqh (HWI.out.symm.trans aN);clear aN hb;go_wp2_with fail;go_ret;rw [jZ.out];exact⟨rfl,QJ.out⟩
section
variable {lo : Nat} {w w' : World} {M b : Nat} {A Z A' Z' : List Int} {l : List az} {hs : List bK} {Ar : Option Addr} {nr cr : Nat} {Ah : Option Addr} {nh ch : Nat} {ej s p : Int}
theorem gz {X:Nat→Prop} (hb:Below lo w w') (hX:∀ x,X x→x<lo):aa w X w' X:=fun x hx hl=>⟨hb.block x (hX x hx),hx,Nat.lt_of_lt_of_le hl hb.size⟩
theorem dK.kp (h:dK lo w M b A Z l hs Ar nr cr Ah nh ch ej s p) (hk:Kp lo w w') (hb:xg lo w' b A' Z'):dK lo w' M b A' Z' l hs Ar nr cr Ah nh ch ej s p :=
  ⟨h.ge,hk.other M _ _ h.blk (by decide) (by decide),hb,h.rules.keep (gz hk.below (fun _ h=>h)) (fun _ _=>bg.keep (gz hk.below (fun _ h=>h))),h.heads.keep (gz hk.below (fun _ h=>h)) (fun _ _=>iN.keep (gz hk.below (fun _ h=>h)))⟩
theorem xg.Lj (h:xg lo w b A Z) {cs:Array Value} (hM:an w M 193 cs) (i:Nat) (u:Value):xg lo (w.setCell ⟨M,i,none⟩ u) b A Z:=by
 obtain⟨L,n,D,f,t,h1,h2⟩:=h;exact⟨L,n,D,f,t,⟨h1.buf.other hM (by decide) i u,h1.row.other hM (by decide) i u,h1.len,h1.le,h1.end_,h1.small⟩,h2⟩
structure Kq (lo:Nat) (w w':World):Prop where
  below:Below lo w w'
  other:∀ k t cs,an w k t cs→t ≠ 21 → t ≠ 206 → t ≠ 193 → an w' k t cs
theorem Kq.refl (lo:Nat) (w:World):Kq lo w w:=⟨qqb,fun _ _ _ h _ _ _=>h⟩
theorem Kq.trans {w1 w2:World} (h:Kq lo w w1) (h2:Kq lo w1 w2):Kq lo w w2:=⟨h.below.trans h2.below,fun k t cs hb h3 h4 h5=>h2.other k t cs (h.other k t cs hb h3 h4 h5) h3 h4 h5⟩
theorem Kq.kp (h:Kp lo w w'):Kq lo w w':=⟨h.below,fun k t cs hb h3 h4 _=>h.other k t cs hb h3 h4⟩
theorem Kq.all (h:Below w.heap.size w w') (hlo:lo≤w.heap.size):Kq lo w w':=Kq.kp (Kp.all h hlo)
theorem Kq.drewN (h:Kq lo w w') (k:Nat):Kq lo w (w'.drewN k):=⟨below_drewN h.below k,h.other⟩
theorem Kq.Lj {M:Nat} {cs:Array Value} (hM:an w M 193 cs) (hl:lo≤M) (i:Nat) (u:Value):Kq lo w (w.setCell ⟨M,i,none⟩ u) :=
  ⟨qqb.setCell hl _,fun _ _ _ hb _ _ h5=>hb.other hM h5 i u⟩
theorem dK.steps (h:dK lo w M b A Z l hs Ar nr cr Ah nh ch ej s p) (s':Int):dK lo (w.setCell ⟨M,5,none⟩ (.int .i64 s')) M b A Z l hs Ar nr cr Ah nh ch ej s' p∧Kq lo w (w.setCell ⟨M,5,none⟩ (.int .i64 s')):=by
 have hb:Below lo w (w.setCell ⟨M,5,none⟩ (.int .i64 s')):=qqb.setCell h.ge _;exact⟨⟨h.ge,h.blk.put 5 _,h.buf.Lj h.blk 5 _,h.rules.keep (gz hb (fun _ h=>h)) (fun _ _=>bg.keep (gz hb (fun _ h=>h))),h.heads.keep (gz hb (fun _ h=>h)) (fun _ _=>iN.keep (gz hb (fun _ h=>h)))⟩,Kq.Lj h.blk h.ge _ _⟩
theorem dK.WN (h:dK lo w M b A Z l hs Ar nr cr Ah nh ch ej s p) (p':Int):dK lo (w.setCell ⟨M,6,none⟩ (.int .i64 p')) M b A Z l hs Ar nr cr Ah nh ch ej s p'∧Kq lo w (w.setCell ⟨M,6,none⟩ (.int .i64 p')):=by
 have hb:Below lo w (w.setCell ⟨M,6,none⟩ (.int .i64 p')):=qqb.setCell h.ge _;exact⟨⟨h.ge,h.blk.put 6 _,h.buf.Lj h.blk 6 _,h.rules.keep (gz hb (fun _ h=>h)) (fun _ _=>bg.keep (gz hb (fun _ h=>h))),h.heads.keep (gz hb (fun _ h=>h)) (fun _ _=>iN.keep (gz hb (fun _ h=>h)))⟩,Kq.Lj h.blk h.ge _ _⟩
theorem dK.rule (h:dK lo w M b A Z l hs Ar nr cr Ah nh ch ej s p) {k:Nat} {r:az} (hk:l[k]? = some r) :
    ∃ (rb ro:Nat) (A2 A4:Option Addr) (c2 c4:Nat),Ar=some ⟨rb,ro,none⟩∧k<nr∧w.cell? ⟨rb,ro+k*7+3,none⟩=some (.slice A2 r.source.length c2)∧w.cell? ⟨rb,ro+k*7+5,none⟩=some (.slice A4 r.target.length c4) ∧
      w.cell? ⟨rb,ro+k*7+6,none⟩=some (.int .i64 r.ai)∧cL w (fun x=>x<lo) 1 A4 r.target.length (runeCells r.target):=by
 obtain⟨rb,ro,A1,A2,A3,A4,n1,c1,n2,c2,n3,c3,n4,c4,e,_,ha⟩:=Ik h.rules hk;have h2:=ha.s2.list.len;have h4:=ha.s4.1;rw [runeCells_length]at h4;obtain rfl:r.source.length=n2:=h2;obtain rfl:r.target.length=n4:=(by omega);have hl:l.length=nr:=h.rules.len;exact⟨rb,ro,A2,A4,c2,c4,e,by have:=(List.getElem?_eq_some_iff.1 hk).1;omega,ha.d3,ha.d5,ha.d6,ha.s4⟩
end
theorem FE {lo:Nat} {w:World} {M b:Nat} {A Z:List Int} {l:List az} {hs:List bK} {Ar:Option Addr} {nr cr:Nat} {Ah:Option Addr} {nh ch:Nat} {ej s p:Nat} (h:dK lo w M b A Z l hs Ar nr cr Ah nh ch ej s p) (hs1:s=ej) (sB:ej≤100000) :
    Calls Tryz.prog 134 #[.pointer (some ⟨M,0,none⟩)] w fun e w'=>e=.returned (.tuple #[.int .i64 0,.int .i64 9])∧∃ k,w'=w.drewN k:=by
 have c3:w.cell? ⟨M,3,none⟩=some (.int .i64 ej):=h.blk.cell 3;have c5:w.cell? ⟨M,5,none⟩=some (.int .i64 s):=h.blk.cell 5;subst hs1;clear h;go_enter Tryz.func134,Tryz.ntmps134;go_wp2_with fail;go_quiet (fail);go_wp2_with fail;go_ret2;exact⟨rfl,_,rfl⟩
theorem DV {lo:Nat} {w:World} {M b:Nat} {A Z:List Int} {l:List az} {hs:List bK} {Ar:Option Addr} {nr cr:Nat} {Ah:Option Addr} {nh ch:Nat} {ej s p:Nat} (h:dK lo w M b A Z l hs Ar nr cr Ah nh ch ej s p) (z:Int) (Z':List Int) (hZ:Z=z::Z') (x:Int) (hx:(A++Z)[A.length]? = some x) (hx0:0≤x∧x≤1114111) (hT:(A++Z).length≤4000) (Ox:nh≤400) (qN:gN l hs 1114112) (hR:∀ r∈l,fK r) (hlen:l.length≤200) (sB:ej≤100000)  (hs1:s<ej) (sj:fC l (A++Z) A.length = -1) :
    Calls Tryz.prog 134 #[.pointer (some ⟨M,0,none⟩)] w fun e w'=>e=.returned (.tuple #[.int .i64 (-1),.int .i64 0])∧dK lo w' M b (A++[z]) Z' l hs Ar nr cr Ah nh ch ej ((s:Int)+1) p∧Kq lo w w':=by
 have VN:=qqh (show(A++Z).take (A.length+1)=A++[z]∧(A++Z).drop (A.length+1)=Z' by
  have e:A++z::Z'=(A++[z])++Z':=(by simp);rw [hZ,e];exact⟨List.take_left' (by simp),List.drop_left' (by simp)⟩)
 have hzl:Z.length=Z'.length+1:=(by rw [hZ];rfl);have hAl:A.length≤4000:=(by rw [List.length_append]at hT;omega);have hwr:IntKind.i64.wrap ((A.length:Int)+1)=(A.length:Int)+1:=(by rw [IntKind.wrap_i64];omega);have hge:=h.ge;have c3:w.cell? ⟨M,3,none⟩=some (.int .i64 ej):=h.blk.cell 3;have c5:w.cell? ⟨M,5,none⟩=some (.int .i64 s):=h.blk.cell 5;have f5:=h.blk.frozen 5;have nY:lo≤w.heap.size:=Nat.le_trans h.ge (Nat.le_of_lt h.blk.lt);have hd:((s:Int) ==(ej:Int))=false:=(by rw [beq_eq_false_iff_ne];omega);have H:=qqh h;have HX:=qqh hx;have iT:=qqh hR;have Oo:=qqh qN;clear h hx qN hR;go_enter Tryz.func134,Tryz.ntmps134;go_wp2_with fail;go_quiet (fail);have d5:(w.drewN nq).cell? ⟨M,5,none⟩=some (.int .i64 s):=c5;have g5:(w.drewN nq).frozen? ⟨M,5,none⟩=false:=f5;have hst:=(H.out.below (below_drewN qqb nq)).steps ((s:Int)+1);have cQ:=qqh hst.1;have xe:=qqh (((Kq.refl lo w).drewN nq).trans hst.2);have KR:=qqh (sQ cQ.out x HX.out hx0 (by omega) Ox Oo.out iT.out hlen);clear hst c3 c5 f5;go_wp2_with fail;refine KR.out.mono ?_;rintro e w2 ⟨rfl,aX⟩;rw [sj];have lC:=qqh (cQ.out.below aX);have bf:=qqh (xe.out.trans (Kq.all aX (Nat.le_trans nY xe.out.below.size)));clear aX d5 g5 KR;have e0:w2.cell? ⟨M,0,none⟩=some (.pointer (some ⟨b,0,none⟩)):=lC.out.blk.cell 0;have uY:=qqh (show Calls Tryz.prog 149 #[.pointer (some ⟨b,0,none⟩),.int .i64 ((A.length:Int)+1)] w2.drew _ from CA (lC.out.buf.below (ak (Below.refl w2.heap.size w2))) (A.length+1) (by omega));go_upto_region 6 with fail;refine aC (S:=fun w'=>w'.cell? ⟨M,0,none⟩=some (.pointer (some ⟨b,0,none⟩))) [3,7] (by kernel_rfl) e0 (fun aQ=>?_);refine tq 0 30 ?_
 (try simp only [zp,za,z0,zs]);refine tq 1 31 ?_;(try simp only [zp,za,z0,zs]);refine tq 2 32 ?_;(try simp only [zp,za,z0,zs]);refine tu 3 33 ?_;(try simp only [zp,za,z0,zs]);refine tq 4 34 ?_;(try simp only [zp,za,z0,zs]);refine tq 5 35 ?_;(try simp only [zp,za,z0,zs]);refine tq 6 36 ?_;(try simp only [zp,za,z0,zs]);refine tu 7 37 ?_;(try simp only [zp,za,z0,zs]);refine ax (i:=8) (o:=⟨some 38,_,_,_,_,_⟩) (by kernel_rfl) rfl (fun K hK=>?_);go_simp;go_at_call 132;refine(tP (lC.out.buf.below (ak (Below.refl w2.heap.size w2)))).mono ?_;rintro e w3 ⟨rfl,rfl⟩;(try dsimp only);refine hK.out _ _ ?_ (fun aQ=>?_);exact e0;clear hK K;(try simp only [zp,za,z0,zs]);refine tq 9 39 ?_;(try simp only [zp,za,z0,zs]);refine aA (i:=10) (by kernel_rfl) rfl (by kernel_rfl) (fun K hK=>?_);go_simp;go_at_call 149;refine uY.out.mono ?_;rintro e w3 ⟨rfl,rH,hkp⟩;have nK:=qqh rH;have pK:=qqh (((Kp.refl lo w2).drew).trans hkp);clear rH hkp uY;(try dsimp only);refine hK.out _ _ ?_;clear hK K;(try simp only [Act.put,List.setIfInBounds_toArray,List.set_cons_zero,List.set_cons_succ]);refine aL (by kernel_rfl) ?_ _;go_simp;go_wp2_with fail;go_ret2;refine⟨rfl,?_,bf.out.trans (Kq.kp pK.out)⟩;have hm:=lC.out.kp pK.out nK.out;rwa [VN.out.1,VN.out.2]at hm
theorem J4 {lo:Nat} {w:World} {M b:Nat} {A Z:List Int} {l:List az} {hs:List bK} {Ar:Option Addr} {nr cr:Nat} {Ah:Option Addr} {nh ch:Nat} {ej s p:Nat} (h:dK lo w M b A Z l hs Ar nr cr Ah nh ch ej s p) (k:Nat) (r:az) (hk:l[k]? = some r) (x:Int) (hx:(A++Z)[A.length]? = some x) (hx0:0≤x∧x≤1114111) (hT:(A++Z).length≤4000) (Ox:nh≤400) (qN:gN l hs 1114112) (hR:∀ r∈l,fK r) (hlen:l.length≤200) (sB:ej≤100000)  (hpb:p≤100000) (hs1:s<ej) (sj:fC l (A++Z) A.length=(k:Int)) (hfit:r.source.length≤Z.length) (xU:4000+r.source.length<A.length+Z.length+r.target.length) :
    Calls Tryz.prog 134 #[.pointer (some ⟨M,0,none⟩)] w fun e w'=>e=.returned (.tuple #[.int .i64 0,.int .i64 4])∧Below lo w w':=by
 have HK:=qqh hk;have Cj:=hR r (List.mem_of_getElem? hk);have SM:=(Cj.sets r.source (by simp [cC])).1;have Qt:=Cj.tgt.1;have BY:=Cj.cur;have Tx:(A++Z).length=A.length+Z.length:=List.length_append;clear hk Cj;have hgt:decide ((4000:Int)<((A.length+Z.length:Nat):Int) - (r.source.length:Int)+(r.target.length:Int))=true:=decide_eq_true (by omega);have hge:=h.ge;have c3:w.cell? ⟨M,3,none⟩=some (.int .i64 ej):=h.blk.cell 3;have c5:w.cell? ⟨M,5,none⟩=some (.int .i64 s):=h.blk.cell 5;have f5:=h.blk.frozen 5;have nY:lo≤w.heap.size:=Nat.le_trans h.ge (Nat.le_of_lt h.blk.lt);have hd:((s:Int) ==(ej:Int))=false:=(by rw [beq_eq_false_iff_ne];omega);have H:=qqh h;have HX:=qqh hx;have iT:=qqh hR;have Oo:=qqh qN;clear h hx qN hR;go_enter Tryz.func134,Tryz.ntmps134;go_wp2_with fail;go_quiet (fail);have d5:(w.drewN nq).cell? ⟨M,5,none⟩=some (.int .i64 s):=c5;have g5:(w.drewN nq).frozen? ⟨M,5,none⟩=false:=f5;have hst:=(H.out.below (below_drewN qqb nq)).steps ((s:Int)+1);have cQ:=qqh hst.1;have xe:=qqh (((Kq.refl lo w).drewN nq).trans hst.2);have KR:=qqh (sQ cQ.out x HX.out hx0 (by omega) Ox Oo.out iT.out hlen);clear hst c3 c5 f5;go_wp2_with fail;refine KR.out.mono ?_;rintro e w2 ⟨rfl,aX⟩;rw [sj];have lC:=qqh (cQ.out.below aX);have bf:=qqh (xe.out.trans (Kq.all aX (Nat.le_trans nY xe.out.below.size)));clear aX d5 g5 KR;have tc:=lC.out;have u6:w2.cell? ⟨M,6,none⟩=some (.int .i64 p):=tc.blk.cell 6;have v6:=tc.blk.frozen 6;obtain⟨rb,ro,A2,A4,c2,c4,rfl,Te,_⟩:=tc.rule HK.out;have u1:w2.cell? ⟨M,1,none⟩=some (.slice (some ⟨rb,ro,none⟩) nr cr):=tc.blk.cell 1;have hpt:=tc.WN ((p:Int)+1);have i7:=qqh hpt.1;have bN:=qqh (bf.out.trans hpt.2)
 clear hpt tc;have Vs:decide ((k:Int)<0)=false:=decide_eq_false (by omega);generalize Q0:w2.setCell ⟨M,6,none⟩ (.int .i64 ((p:Int)+1))=W3 at i7 bN;have ZB:=qqh Q0;have t0:W3.cell? ⟨M,0,none⟩=some (.pointer (some ⟨b,0,none⟩)):=i7.out.blk.cell 0;have t1:W3.cell? ⟨M,1,none⟩=some (.slice (some ⟨rb,ro,none⟩) nr cr):=i7.out.blk.cell 1;obtain⟨rb',ro',A2,A4,c2,c4,e9,_,t3,t5,_,_⟩:=i7.out.rule HK.out;cases e9;have aM:=qqh (fun(q:Nat)=>vc (i7.out.buf.below (below_drewN (Below.refl W3.heap.size W3) q)));have uF:=qqh (fun(q:Nat)=>tP (i7.out.buf.below (below_drewN (Below.refl W3.heap.size W3) q)));clear Q0;go_upto_region 10 with fail;rw [ZB.out];clear u1 u6 v6;go_quiet (first | (go_at_call 133;exact Calls.quiet_of (aM.out _)));go_wp2_with fail;go_ret2;exact⟨rfl,below_drewN bN.out.below nq⟩
theorem CL {lo:Nat} {w:World} {M b:Nat} {A Z:List Int} {l:List az} {hs:List bK} {Ar:Option Addr} {nr cr:Nat} {Ah:Option Addr} {nh ch:Nat} {ej s p:Nat} (h:dK lo w M b A Z l hs Ar nr cr Ah nh ch ej s p) (k:Nat) (r:az) (hk:l[k]? = some r) (x:Int) (hx:(A++Z)[A.length]? = some x) (hx0:0≤x∧x≤1114111) (hT:(A++Z).length≤4000) (Ox:nh≤400) (qN:gN l hs 1114112) (hR:∀ r∈l,fK r) (hlen:l.length≤200) (sB:ej≤100000)  (hpb:p≤100000) (hs1:s<ej) (sj:fC l (A++Z) A.length=(k:Int)) (hfit:r.source.length≤Z.length) (xU:A.length+Z.length+r.target.length≤4000+r.source.length) :
    Calls Tryz.prog 134 #[.pointer (some ⟨M,0,none⟩)] w fun e w'=>e=.returned (.tuple #[.int .i64 k,.int .i64 0]) ∧
      dK lo w' M b ((A++r.target++Z.drop r.source.length).take (A.length+r.ai.toNat)) ((A++r.target++Z.drop r.source.length).drop (A.length+r.ai.toNat)) l hs Ar nr cr Ah nh ch ej ((s:Int)+1) ((p:Int)+1)∧Kq lo w w':=by
 have HK:=qqh hk;have Cj:=hR r (List.mem_of_getElem? hk);have SM:=(Cj.sets r.source (by simp [cC])).1;have Qt:=Cj.tgt.1;have BY:=Cj.cur;have Tx:(A++Z).length=A.length+Z.length:=List.length_append;clear hk Cj;have hgt:decide ((4000:Int)<((A.length+Z.length:Nat):Int) - (r.source.length:Int)+(r.target.length:Int))=false:=decide_eq_false (by omega);have hwr:IntKind.i64.wrap ((A.length:Int)+r.ai)=(A.length:Int)+r.ai:=(by rw [IntKind.wrap_i64];omega);have hge:=h.ge;have c3:w.cell? ⟨M,3,none⟩=some (.int .i64 ej):=h.blk.cell 3;have c5:w.cell? ⟨M,5,none⟩=some (.int .i64 s):=h.blk.cell 5;have f5:=h.blk.frozen 5;have nY:lo≤w.heap.size:=Nat.le_trans h.ge (Nat.le_of_lt h.blk.lt);have hd:((s:Int) ==(ej:Int))=false:=(by rw [beq_eq_false_iff_ne];omega);have H:=qqh h;have HX:=qqh hx;have iT:=qqh hR;have Oo:=qqh qN;clear h hx qN hR;go_enter Tryz.func134,Tryz.ntmps134;go_wp2_with fail;go_quiet (fail);have d5:(w.drewN nq).cell? ⟨M,5,none⟩=some (.int .i64 s):=c5;have g5:(w.drewN nq).frozen? ⟨M,5,none⟩=false:=f5;have hst:=(H.out.below (below_drewN qqb nq)).steps ((s:Int)+1);have cQ:=qqh hst.1;have xe:=qqh (((Kq.refl lo w).drewN nq).trans hst.2);have KR:=qqh (sQ cQ.out x HX.out hx0 (by omega) Ox Oo.out iT.out hlen);clear hst c3 c5 f5;go_wp2_with fail;refine KR.out.mono ?_;rintro e w2 ⟨rfl,aX⟩;rw [sj];have lC:=qqh (cQ.out.below aX);have bf:=qqh (xe.out.trans (Kq.all aX (Nat.le_trans nY xe.out.below.size)));clear aX d5 g5 KR;have tc:=lC.out;have u6:w2.cell? ⟨M,6,none⟩=some (.int .i64 p):=tc.blk.cell 6;have v6:=tc.blk.frozen 6;obtain⟨rb,ro,A2,A4,c2,c4,rfl,Te,_⟩:=tc.rule HK.out
 have u1:w2.cell? ⟨M,1,none⟩=some (.slice (some ⟨rb,ro,none⟩) nr cr):=tc.blk.cell 1;have hpt:=tc.WN ((p:Int)+1);have i7:=qqh hpt.1;have bN:=qqh (bf.out.trans hpt.2);clear hpt tc;have Vs:decide ((k:Int)<0)=false:=decide_eq_false (by omega);generalize Q0:w2.setCell ⟨M,6,none⟩ (.int .i64 ((p:Int)+1))=W3 at i7 bN;have ZB:=qqh Q0;have t0:W3.cell? ⟨M,0,none⟩=some (.pointer (some ⟨b,0,none⟩)):=i7.out.blk.cell 0;have t1:W3.cell? ⟨M,1,none⟩=some (.slice (some ⟨rb,ro,none⟩) nr cr):=i7.out.blk.cell 1;obtain⟨rb',ro',A2,A4,c2,c4,e9,_,t3,t5,_,_⟩:=i7.out.rule HK.out;cases e9;have aM:=qqh (fun(q:Nat)=>vc (i7.out.buf.below (below_drewN (Below.refl W3.heap.size W3) q)));have uF:=qqh (fun(q:Nat)=>tP (i7.out.buf.below (below_drewN (Below.refl W3.heap.size W3) q)));clear Q0;go_upto_region 10 with fail;rw [ZB.out];clear u1 u6 v6;go_quiet (first | (go_at_call 133;exact Calls.quiet_of (aM.out _)));go_wp2_with fail;refine(uF.out nq).mono ?_;rintro e w4 ⟨rfl,rfl⟩;have YK:=qqh (i7.out.below (below_drewN (Below.refl W3.heap.size W3) nq));have bW:=qqh (bN.out.drewN nq);have x0:(W3.drewN nq).cell? ⟨M,0,none⟩=some (.pointer (some ⟨b,0,none⟩)):=t0;have x3:(W3.drewN nq).cell? ⟨rb,ro+k*7+3,none⟩=some (.slice A2 r.source.length c2):=t3;generalize hW4:W3.drewN nq=W4 at *;have XI:=qqh (O2 (YK.out.buf.below (ak (Below.refl W4.heap.size W4))) r.source.length hfit);clear hW4 t0 t1 t3 t5 uF aM hgt;go_upto_region 13 with fail;refine aC (S:=fun w'=>w'.cell? ⟨M,0,none⟩=some (.pointer (some ⟨b,0,none⟩))∧w'.cell? ⟨rb,ro+k*7+3,none⟩=some (.slice A2 r.source.length c2)) [3,7] (by kernel_rfl) ⟨x0,x3⟩ (fun aQ=>?_);refine tq 0 80 ?_;(try simp only [zp,za,z0,zs]);refine tq 1 81 ?_;(try simp only [zp,za,z0,zs])
 refine tq 2 82 ?_;(try simp only [zp,za,z0,zs]);refine tu 3 83 ?_;(try simp only [zp,za,z0,zs]);refine tq 4 84 ?_;(try simp only [zp,za,z0,zs]);refine tq 5 85 ?_;(try simp only [zp,za,z0,zs]);refine tq 6 86 ?_;(try simp only [zp,za,z0,zs]);refine tu 7 87 ?_;(try simp only [zp,za,z0,zs]);refine tq 8 88 ?_;(try simp only [zp,za,z0,zs]);refine aA (i:=9) (by kernel_rfl) rfl (by kernel_rfl) (fun K hK=>?_);go_simp;go_at_call 150;refine XI.out.mono ?_;rintro e w5 ⟨rfl,rH,hkp⟩;have T7:=qqh (YK.out.kp ((Kp.refl lo W4).drew.trans hkp) rH);have eD:=qqh (bW.out.trans (Kq.kp ((Kp.refl lo W4).drew.trans hkp)));clear rH hkp XI;(try dsimp only);refine hK.out _ _ ?_;clear hK K;(try simp only [Act.put,List.setIfInBounds_toArray,List.set_cons_zero,List.set_cons_succ]);refine aL (by kernel_rfl) ?_ _;go_simp;obtain⟨rb',ro',B2,B4,d2,d4,e9,_,_,x5,_,T3⟩:=T7.out.rule HK.out;cases e9;have x0:w5.cell? ⟨M,0,none⟩=some (.pointer (some ⟨b,0,none⟩)):=T7.out.blk.cell 0;have XM:=qqh (Ql (c2:=d4) (T7.out.buf.below (ak (Below.refl w5.heap.size w5))) r.target B4 r.target.length (T3.keep (aa.any (ak qqb))) Qt (by rw [List.length_drop];omega));clear T3 x3;go_upto_region 14 with fail;refine aC (S:=fun w'=>w'.cell? ⟨M,0,none⟩=some (.pointer (some ⟨b,0,none⟩))∧w'.cell? ⟨rb,ro+k*7+5,none⟩=some (.slice B4 r.target.length d4)) [3,7] (by kernel_rfl) ⟨x0,x5⟩ (fun aQ=>?_);refine tq 0 90 ?_;(try simp only [zp,za,z0,zs]);refine tq 1 91 ?_;(try simp only [zp,za,z0,zs]);refine tq 2 92 ?_;(try simp only [zp,za,z0,zs]);refine tu 3 93 ?_;(try simp only [zp,za,z0,zs]);refine tq 4 94 ?_;(try simp only [zp,za,z0,zs]);refine tq 5 95 ?_;(try simp only [zp,za,z0,zs]);refine tq 6 96 ?_;(try simp only [zp,za,z0,zs]);refine tu 7 97 ?_;(try simp only [zp,za,z0,zs])
 refine aA (i:=8) (by kernel_rfl) rfl (by kernel_rfl) (fun K hK=>?_);go_simp;go_at_call 151;refine XM.out.mono ?_;rintro e w6 ⟨rfl,rH,hkp⟩;have Ug:=qqh (T7.out.kp ((Kp.refl lo w5).drew.trans hkp) rH);have iQ:=qqh (eD.out.trans (Kq.kp ((Kp.refl lo w5).drew.trans hkp)));clear rH hkp XM;(try dsimp only);refine hK.out _ _ ?_;clear hK K;(try simp only [Act.put,List.setIfInBounds_toArray,List.set_cons_zero,List.set_cons_succ]);refine aL (by kernel_rfl) ?_ _;go_simp;obtain⟨rb',ro',C2,C4,g2,g4,e9,_,_,_,x6,_⟩:=Ug.out.rule HK.out;cases e9;have x0:w6.cell? ⟨M,0,none⟩=some (.pointer (some ⟨b,0,none⟩)):=Ug.out.blk.cell 0;obtain⟨cu,Q6⟩:∃ cu:Nat,r.ai=(cu:Int):=⟨r.ai.toNat,by omega⟩;have uY:=qqh (show Calls Tryz.prog 149 #[.pointer (some ⟨b,0,none⟩),.int .i64 ((A.length:Int)+r.ai)] w6.drew _ by
  have:=CA (Ug.out.buf.below (ak (Below.refl w6.heap.size w6))) (A.length+r.ai.toNat) (by rw [List.length_append,List.length_drop];omega);rwa [show((A.length+r.ai.toNat:Nat):Int)=(A.length:Int)+r.ai by omega]at this)
 clear x5 Q6;go_upto_region 15 with fail;refine aC (S:=fun w'=>w'.cell? ⟨M,0,none⟩=some (.pointer (some ⟨b,0,none⟩))∧w'.cell? ⟨rb,ro+k*7+6,none⟩=some (.int .i64 r.ai)) [3,8] (by kernel_rfl) ⟨x0,x6⟩ (fun aQ=>?_);refine tq 0 99 ?_;(try simp only [zp,za,z0,zs]);refine tq 1 100 ?_;(try simp only [zp,za,z0,zs]);refine tq 2 101 ?_;(try simp only [zp,za,z0,zs]);refine tu 3 102 ?_;(try simp only [zp,za,z0,zs]);refine tq 4 103 ?_;(try simp only [zp,za,z0,zs]);refine tq 5 104 ?_;(try simp only [zp,za,z0,zs]);refine tq 6 105 ?_;(try simp only [zp,za,z0,zs]);refine tq 7 106 ?_;(try simp only [zp,za,z0,zs]);refine tu 8 107 ?_;(try simp only [zp,za,z0,zs]);refine tq 9 108 ?_;(try simp only [zp,za,z0,zs]);refine aA (i:=10) (by kernel_rfl) rfl (by kernel_rfl) (fun K hK=>?_);go_simp;go_at_call 149;refine uY.out.mono ?_;rintro e w7 ⟨rfl,rH,hkp⟩;have HM7:=qqh (Ug.out.kp ((Kp.refl lo w6).drew.trans hkp) rH);have iF:=qqh (iQ.out.trans (Kq.kp ((Kp.refl lo w6).drew.trans hkp)));clear rH hkp uY;(try dsimp only);refine hK.out _ _ ?_;clear hK K;(try simp only [Act.put,List.setIfInBounds_toArray,List.set_cons_zero,List.set_cons_succ]);refine aL (by kernel_rfl) ?_ _;go_simp;go_wp2_with fail;go_ret2;exact⟨rfl,HM7.out,iF.out⟩
theorem II {lo:Nat} {w:World} {M b:Nat} {A Z:List Int} {l:List az} {hs:List bK} {Ar:Option Addr} {nr cr:Nat} {Ah:Option Addr} {nh ch:Nat} {ej s p:Nat} (h:dK lo w M b A Z l hs Ar nr cr Ah nh ch ej s p) (z:Int) (Z':List Int) (hZ:Z=z::Z') (x:Int) (hx:(A++Z)[A.length]? = some x) (hx0:0≤x∧x≤1114111) (hT:(A++Z).length≤4000) (Ox:nh≤400) (qN:gN l hs 1114112) (hR:∀ r∈l,fK r) (hlen:l.length≤200) (sB:ej≤100000)  (hs1:s<ej) (sj:fC l (A++Z) A.length = -1) :
    Calls Tryz.prog 134 #[.pointer (some ⟨M,0,none⟩)] w fun e w'=>e=.returned (.tuple #[.int .i64 (-1),.int .i64 0])∧dK lo w' M b (A++[z]) Z' l hs Ar nr cr Ah nh ch ej ((s:Int)+1) p∧Below lo w w' :=
  (DV h z Z' hZ x hx hx0 hT Ox qN hR hlen sB hs1 sj).mono fun _ _ ⟨e,h1,h2⟩=>⟨e,h1,h2.below⟩
theorem KF {lo:Nat} {w:World} {M b:Nat} {A Z:List Int} {l:List az} {hs:List bK} {Ar:Option Addr} {nr cr:Nat} {Ah:Option Addr} {nh ch:Nat} {ej s p:Nat} (h:dK lo w M b A Z l hs Ar nr cr Ah nh ch ej s p) (k:Nat) (r:az) (hk:l[k]? = some r) (x:Int) (hx:(A++Z)[A.length]? = some x) (hx0:0≤x∧x≤1114111) (hT:(A++Z).length≤4000) (Ox:nh≤400) (qN:gN l hs 1114112) (hR:∀ r∈l,fK r) (hlen:l.length≤200) (sB:ej≤100000)  (hpb:p≤100000) (hs1:s<ej) (sj:fC l (A++Z) A.length=(k:Int)) (hfit:r.source.length≤Z.length) (xU:A.length+Z.length+r.target.length≤4000+r.source.length) :
    Calls Tryz.prog 134 #[.pointer (some ⟨M,0,none⟩)] w fun e w'=>e=.returned (.tuple #[.int .i64 k,.int .i64 0]) ∧
      dK lo w' M b ((A++r.target++Z.drop r.source.length).take (A.length+r.ai.toNat)) ((A++r.target++Z.drop r.source.length).drop (A.length+r.ai.toNat)) l hs Ar nr cr Ah nh ch ej ((s:Int)+1) ((p:Int)+1)∧Below lo w w' :=
  (CL h k r hk x hx hx0 hT Ox qN hR hlen sB hpb hs1 sj hfit xU).mono fun _ _ ⟨e,h1,h2⟩=>⟨e,h1,h2.below⟩
structure C0 where
  text:List Int
  steps:Nat
  put:Nat
def gj:C0:=⟨[],0,0⟩
def dI (l:List az):Nat→List Int→List Int→Nat→Nat→C0 × Int
  | _,done,[],s,p=>(⟨done,s,p⟩,0)
  | 0,_,_::_,_,_=>(gj,9)
  | left+1,done,z::rest,s,p=>
    if fC l (done++z::rest) done.length<0 then dI l left (done++[z]) rest (s+1) p
    else match l[(fC l (done++z::rest) done.length).toNat]? with
      | none=>(gj,0)
      | some r=>
        if 4000<done.length+(r.target++(z::rest).drop r.source.length).length then (gj,4)
        else dI l left (done++(r.target++(z::rest).drop r.source.length).take r.ai.toNat) ((r.target++(z::rest).drop r.source.length).drop r.ai.toNat) (s+1) (p+1)
def cW (t:List Int):Int:=if 4000<t.length then 4 else if cj t=true then 3 else 0
def rA (o:C0 × Int):C0 × (Int × Int):=if o.2≠0 then (gj,(o.2,0))else (o.1,(0,0))
theorem oO (l:List az) (left:Nat) (done:List Int) (s p:Nat):dI l left done [] s p=(⟨done,s,p⟩,0):=by cases left <;> rfl
theorem Gs (l:List az) {Z:List Int} (done:List Int) (s p:Nat) (h:Z ≠ []):dI l 0 done Z s p=(gj,9):=by
 cases Z with
 | nil=>exact absurd rfl h
 | cons z Z=>rfl
theorem xx {l:List az} {left:Nat} {done rest:List Int} {z:Int} {s p:Nat} (h:fC l (done++z::rest) done.length = -1):dI l (left+1) done (z::rest) s p=dI l left (done++[z]) rest (s+1) p:=by
 rw [dI,if_pos (by rw [h];decide)]
theorem xD {l:List az} {left:Nat} {done rest:List Int} {z:Int} {s p k:Nat} {r:az} (h:fC l (done++z::rest) done.length=(k:Int)) (hk:l[k]? = some r) (hm:4000<done.length+(r.target++(z::rest).drop r.source.length).length) :
    dI l (left+1) done (z::rest) s p=(gj,4):=by
 rw [dI,if_neg (by rw [h];omega),h,Int.toNat_natCast,hk];simp only;rw [if_pos hm]
theorem vV {l:List az} {left:Nat} {done rest:List Int} {z:Int} {s p k:Nat} {r:az} (h:fC l (done++z::rest) done.length=(k:Int)) (hk:l[k]? = some r) (hm:¬ 4000<done.length+(r.target++(z::rest).drop r.source.length).length) :
    dI l (left+1) done (z::rest) s p=dI l left (done++(r.target++(z::rest).drop r.source.length).take r.ai.toNat) ((r.target++(z::rest).drop r.source.length).drop r.ai.toNat) (s+1) (p+1):=by
 rw [dI,if_neg (by rw [h];omega),h,Int.toNat_natCast,hk];simp only;rw [if_neg hm]
theorem zV {r:az} {A Z:List Int} (h:cV r (A++Z) A.length=true):r.source.length≤Z.length:=by
 have h1:je (A++Z) A.length r.source=true:=by
  unfold cV at h;simp only [Bool.and_eq_true]at h;exact h.1.1.1.1
 unfold je at h1;split at h1
 ·cases h1
 rename_i hn;rw [not_or,List.length_append]at hn;omega
def Runes (t:List Int):Prop:=∀ x∈t,0≤x∧x≤1114111
theorem xw {t:List Int} (h:cj t=false):Runes t:=by
 intro x hx;unfold cj at h;have h2:bL x=true:=by
  have:=List.any_eq_false.1 h x hx;simpa using this
 unfold bL at h2;simp at h2;omega
theorem Fw (x:Int) (w:World):Calls Tryz.prog 44 #[.int .i32 x] w fun e w'=>e=.returned (.bool (!bL x))∧w'=w:=by
 go_enter Tryz.func44,Tryz.ntmps44;go_wp2_with fail;refine(fh _ _).mono ?_;rintro e w1 ⟨rfl,rfl⟩;go_wp2_with fail;go_ret;exact⟨rfl,rfl⟩
theorem Ln (A:Option Addr) (n c:Nat) (l:List Int) (w:World) (hn:n≤9223372036854775807) (hl:mg w w.heap.size A n l) :
    Calls Tryz.prog 78 #[.slice A n c,.func (.func 44) #[] #[]] w fun e w'=>(∃ k:Int,e=.returned (.int .i64 k)∧decide (0≤k)=cj l)∧Below w.heap.size w w':=by
 have aM:=qqh hl.len;have HL:=qqh hl;clear hl;go_enter Tryz.func78,Tryz.ntmps78;go_wp2_with fail;go_loopw [8] (Mi w l n) (fun i _=>n - (intOf i).toNat);(case atStart=>exact⟨0,Nat.zero_le _,rfl,rfl,qqb⟩);obtain⟨j,hj,rfl,aN,hb⟩:=hrel;by_cases hlt:j<n
 ·obtain⟨x,hx⟩:∃ z,l[j]? = some z:=⟨_,List.getElem?_eq_getElem (by rw [aM.out];exact hlt)⟩;obtain⟨b,off,rfl,cK,c0⟩:=HL.out.at hlt;rw [show l.getD j 0=x by simp [List.getD,hx]]at c0;have d0:=(hb.cell (p:=⟨b,off+j,none⟩) cK).trans c0;rw [bR hx,show cj (x::l.drop (j+1))=(!bL x || cj (l.drop (j+1))) from rfl]at aN;have HG:=qqh aN;have HX:=qqh hx;clear aN hx c0;go_wp2_with fail;refine(Fw _ _).mono ?_;rintro e w1 ⟨rfl,rfl⟩;cases hr:bL x
  ·have HR:=qqh hr;clear hr;go_wp2_with fail;go_ret;refine⟨⟨_,rfl,?_⟩,hb⟩;rw [HG.out,HR.out];simp
  have HR:=qqh hr;clear hr;go_wp2_with fail;exact⟨⟨j+1,by omega,by go_num,by rw [HG.out,HR.out];rfl,hb⟩,by simp [intOf];omega⟩
 obtain rfl:j=n:=(by omega);rw [List.drop_of_length_le (by rw [aM.out];omega)]at aN;have HG:=qqh (aN.trans (show cj [] = false from rfl));clear aN;go_wp2_with fail;go_ret;exact⟨⟨_,rfl,by rw [HG.out];rfl⟩,hb⟩
theorem EI (A:Option Addr) (n c:Nat) (l:List Int) (w:World) (hn:n≤9223372036854775807) (hl:mg w w.heap.size A n l) :
    Calls Tryz.prog 43 #[.slice A n c,.func (.func 44) #[] #[]] w fun e w'=>e=.returned (.bool (cj l))∧Below w.heap.size w w':=by
 have H:=qqh (Ln A n c l w hn hl);clear hl;go_enter Tryz.func43,Tryz.ntmps43;go_wp2_with fail;refine H.out.mono ?_;rintro e w1 ⟨⟨k,rfl,hk⟩,hb⟩;have HK:=qqh hk;clear hk;go_wp2_with fail;go_ret;refine⟨?_,hb⟩;rw [← HK.out];rfl
theorem vO (A:Option Addr) (n c:Nat) (t:List Int) (w:World) (hn:n≤maxLen) (ht:mg w w.heap.size A n t) :
    Calls Tryz.prog 17 #[.slice A n c] w fun e w'=>e=.returned (.int .i64 (cW t))∧Below w.heap.size w w':=by
 have hl:=ht.len;simp only [maxLen]at hn;have HC:=qqh (EI A n c t w (by omega) ht);clear ht;by_cases h4:4000<n
 ·have HP:=qqh (show cW t=4 by unfold cW;rw [if_pos (by rw [hl];exact h4)]);clear hl;go_enter Tryz.func17,Tryz.ntmps17;go_wp2_with fail;go_ret;rw [HP.out];exact⟨rfl,qqb⟩
 have HP:=qqh (show cW t=if cj t=true then 3 else 0 by unfold cW;rw [if_neg (by rw [hl];exact h4)]);clear hl;go_enter Tryz.func17,Tryz.ntmps17;go_wp2_with fail;refine HC.out.mono ?_;rintro e w1 ⟨rfl,hb⟩;have HB:=qqh hb;clear hb;cases UN:cj t
 ·have kz:=qqh (show cW t=0 by rw [HP.out,UN];rfl);go_wp2_with fail;go_ret;rw [kz.out];exact⟨rfl,HB.out⟩
 have kz:=qqh (show cW t=3 by rw [HP.out,UN];rfl);go_wp2_with fail;go_ret;rw [kz.out];exact⟨rfl,HB.out⟩
theorem JR (n:Nat) (hn:n≤4000) (w:World):Calls Tryz.prog 131 #[.int .i64 n] w fun e w'=>e=.returned (.int .i64 (8*n+40:Nat))∧w'=w:=by
 have h:((8*n+40:Nat):Int)=8*(n:Int)+40:=(by omega);rw [h];clear h;go_enter Tryz.func131,Tryz.ntmps131;go_wp2_with fail;go_ret;exact⟨rfl,rfl⟩
end Go.Proofs.YtamkjeipdjbemaaGreatDoor
