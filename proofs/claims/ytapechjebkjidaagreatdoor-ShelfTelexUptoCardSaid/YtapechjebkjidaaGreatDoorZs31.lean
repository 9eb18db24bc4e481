/- ShScript + MachAll -/
import Derived.Test.YtapechjebkjidaaGreatDoorZs6
import Derived.Test.YtapechjebkjidaaGreatDoorZs24
import Derived.Test.YtapechjebkjidaaGreatDoorZs11
import Derived.Test.YtapechjebkjidaaGreatDoorZs28
import Derived.Test.YtapechjebkjidaaGreatDoorZs25
import Derived.Test.YtapechjebkjidaaGreatDoorZs18
set_option maxHeartbeats 6400000
set_option maxRecDepth 100000
namespace Go.Proofs.YtapechjebkjidaaGreatDoor
open Go.RowKit Go.Shelf
theorem nD {w:World} {X:Nat→Prop} {s:bl} {cs:List Value} (h:dP w X s cs):∃ A1 n1 c1 A2 n2 c2,cs = [.bool s.only?,.slice A1 n1 c1,.slice A2 n2 c2]:=by
 obtain⟨u,v,rfl,⟨A1,n1,c1,rfl,_⟩,⟨A2,n2,c2,rfl,_⟩⟩:=h;exact⟨_,_,_,_,_,_,rfl⟩
def wC (w:World) (sc:bl) (e:Ending) (w':World):Prop:=(∃ cs,e=.returned (.tuple #[.agg cs.toArray,.int .i64 0])∧dP w' (fun _=>True) sc cs)∧Below w.heap.size w w'
theorem zR (name text:ByteArray) (back:Bool) (k:Nat) (hk:k<18) (hp:placeOf name files 0=k) (ht:files[k*2+1]? = some text) (l:List aI) (hl:l.length≤200) (sc:bl) (hs:cT back l=(sc,(0,0))) (hne:sD sc=true)
    (hr:∀ W:World,Calls Tryz.prog 40 #[.string text] W fun e w'=>(∃ A n c,e=.returned (.tuple #[.slice A n c,.agg #[.int .i64 0,.int .i64 0]])∧gY w' (fun b=>W.heap.size≤b) A n l)∧Below W.heap.size W w')
    (hd:∀ (A:Option Addr) (n c:Nat) (W:World),n≤maxLen→EN W W.heap.size A n l→Calls Tryz.prog (if back then 42 else 41) #[.slice A n c] W fun e w'=>uh W.heap.size W.heap.size w' l back e∧Below W.heap.size W w') (w:World) :
    Calls Tryz.prog 34 #[.string name,.bool back] w (wC w sc):=by
 have HT:=Lib.hid (fun(W:World)=>IK name text k hk hp ht W);have HR:=Lib.hid hr;unfold uh at hd;rw [hs]at hd;have HD:=Lib.hid hd;have HL:=Lib.hid hl;have fI:=Lib.hid (ak.new w 47 aC);have ek:=Lib.hid ((Below.refl w.heap.size w).alloc (Nat.le_refl _) (.cells aC 47));clear hp ht hr hs hd hl hk;go_enter Tryz.func34,Tryz.ntmps34;go_wp2_with fail;refine(HT.out _).mono ?_;rintro e w1 ⟨rfl,aT⟩;have bT:=Lib.hid (ek.out.trans (aT.mono ek.out.size));have i6:=Lib.hid (fI.out.below aT fI.out.lt);clear aT;go_wp2_with fail;refine(HR.out _).mono ?_;rintro e w2 ⟨⟨A,n,c,rfl,hx⟩,aL⟩;have HN:=Lib.hid (show n≤200 by rw [← hx.len];exact HL.out);have hw1:=i6.out.lt;have aW:=Lib.hid (bT.out.trans (aL.mono bT.out.size));have iW:=Lib.hid (i6.out.below aL hw1);have KQ:=Lib.hid (hx.rd);have Dj:=iW.out.lt;have bW:=Lib.hid (aW.out.alloc aW.out.size (.cells #[.int .i64 0,.int .i64 0] 51));have uc:=Lib.hid (iW.out.alloc (.cells #[.int .i64 0,.int .i64 0] 51));have eE:=Lib.hid (ak.new w2 51 #[.int .i64 0,.int .i64 0]);have hba:=(Below.refl w2.heap.size w2).alloc (Nat.le_refl _) (.cells #[.int .i64 0,.int .i64 0] 51);have O4:=Lib.hid (EN.weak (gA hba hba.size) KQ.out);have d0:=eE.out.cell 0;clear aL hx iW KQ i6 hba;cases back
 all_goals
   go_wp2_with fail
   refine(HD.out A n c _ (by have:=HN.out;simp only [maxLen];omega) O4.out).mono ?_
   rintro e w4 ⟨⟨cs,_,rfl,hcs⟩,hb4⟩
   obtain⟨A1,n1,c1,A2,n2,c2,rfl⟩:=nD hcs
   have eM:=Lib.hid (bW.out.trans (hb4.mono bW.out.size))
   have Fm:=Lib.hid (uc.out.below hb4 uc.out.lt)
   have ja:=Lib.hid (ak.alloc (eE.out.below hb4 eE.out.lt) (.cells #[.bool sc.only?,.slice A1 n1 c1,.slice A2 n2 c2] 47))
   have zO:=Lib.hid hcs
   have f0:=ja.out.frozen 0
   have k0:=ja.out.cell 0
   have f1:=(ja.out.put 0 (.int .i64 0)).frozen 1
   have k1:=(ja.out.put 0 (.int .i64 0)).cell 1
   clear hb4 hcs
   go_upto_region 11 with fail
   clear f0 k0 f1 k1
   have hW:((w4.alloc (.cells #[.bool sc.only?,.slice A1 n1 c1,.slice A2 n2 c2] 47)).setCell ⟨w2.heap.size,0,none⟩ (.int .i64 0)).setCell ⟨w2.heap.size,1,none⟩ (.int .i64 0)=w4.alloc (.cells #[.bool sc.only?,.slice A1 n1 c1,.slice A2 n2 c2] 47):=by
     rw [kQ ja.out rfl,kQ ja.out rfl]
   rw [hW]
   have Ff:=Lib.hid (ak.new w4 47 #[.bool sc.only?,.slice A1 n1 c1,.slice A2 n2 c2])
   have eK:=Lib.hid (eM.out.alloc eM.out.size (.cells #[.bool sc.only?,.slice A1 n1 c1,.slice A2 n2 c2] 47))
   have vL:=Lib.hid (Fm.out.alloc (.cells #[.bool sc.only?,.slice A1 n1 c1,.slice A2 n2 c2] 47))
   have tc:=Lib.hid (show dP (w4.alloc (.cells #[.bool sc.only?,.slice A1 n1 c1,.slice A2 n2 c2] 47)) (Fr (w2.alloc (.cells #[.int .i64 0,.int .i64 0] 51)).heap.size (w2.alloc (.cells #[.int .i64 0,.int .i64 0] 51)).heap.size) sc [.bool sc.only?,.slice A1 n1 c1,.slice A2 n2 c2] from zO.out.keep (ag.below ((Below.refl w4.heap.size w4).alloc (Nat.le_refl _) _) (fun _ h _=>h)))
   have n0:¬ w.heap.size=w4.heap.size:=by have:=Fm.out.lt;omega
   have n1':¬ w.heap.size=w2.heap.size:=by omega
   clear hW zO
   generalize w4.alloc (.cells #[.bool sc.only?,.slice A1 n1 c1,.slice A2 n2 c2] 47)=W5 at *
   have e0:W5.cell? ⟨w4.heap.size,0,none⟩=some (.bool sc.only?):=Ff.out.cell 0
   have e1:W5.cell? ⟨w4.heap.size,1,none⟩=some (.slice A1 n1 c1):=Ff.out.cell 1
   have e2:W5.cell? ⟨w4.heap.size,2,none⟩=some (.slice A2 n2 c2):=Ff.out.cell 2
   have g0:W5.cell? ⟨w2.heap.size,0,none⟩=some (.int .i64 0):=ja.out.cell 0
   have f0:=vL.out.frozen 0
   have f1:=vL.out.frozen 1
   have f2:=vL.out.frozen 2
   have a0:W5.cell? ⟨w.heap.size,0,none⟩=some (.bool false):=vL.out.cell 0
   have a1:W5.cell? ⟨w.heap.size,1,none⟩=some (.slice none 0 0):=vL.out.cell 1
   have a2:W5.cell? ⟨w.heap.size,2,none⟩=some (.slice none 0 0):=vL.out.cell 2
   have FA:=Lib.hid (dP.free (g:=w.heap.size) (fun j u hu=>by
     rw [vL.out.cell]at hu
     match j,hu with
     | 0,hu=>cases hu;rfl
     | 1,hu=>cases hu;rfl
     | 2,hu=>cases hu;rfl
     | j+3,hu=>simp [aC]at hu) hne tc.out)
   clear tc hne ja vL Ff
   go_region
   all_goals
     go_wp2_with fail
     have hk:ag W5 (Cf (Fr (w2.alloc (.cells #[.int .i64 0,.int .i64 0] 51)).heap.size (w2.alloc (.cells #[.int .i64 0,.int .i64 0] 51)).heap.size) w.heap.size) (((W5.setCell ⟨w.heap.size,0,none⟩ (.bool sc.only?)).setCell ⟨w.heap.size,1,none⟩ (.slice A1 n1 c1)).setCell ⟨w.heap.size,2,none⟩ (.slice A2 n2 c2)) (fun _=>True) :=
       ((ag.setCell (X':=fun b=>b≠w.heap.size) _ (fun b h=>h.2) (fun b h _=>h.2)).trans (ag.setCell (X':=fun b=>b≠w.heap.size) _ (fun b h=>h) (fun b h _=>h))).trans (ag.setCell _ (fun b h=>h) (fun b h _=>trivial))
     have IV:=Lib.hid (FA.out.keep (hk.trans (ag.below ((Below.refl _ _).drew) (X':=fun _=>True) (fun _ _ _=>trivial))))
     have mW:=Lib.hid ((((eK.out.setCell (p:=⟨w.heap.size,0,none⟩) (by simp) (.bool sc.only?)).setCell (p:=⟨w.heap.size,1,none⟩) (by simp) (.slice A1 n1 c1)).setCell (p:=⟨w.heap.size,2,none⟩) (by simp) (.slice A2 n2 c2)).drew)
     clear hk
     refine bodyPost_ret (v:=.tuple #[.agg #[.bool sc.only?,.slice A1 n1 c1,.slice A2 n2 c2],.int .i64 0]) (by simp [results,Tryz.results34,go_sem,a0,a1,a2]) rfl ⟨⟨[.bool sc.only?,.slice A1 n1 c1,.slice A2 n2 c2],rfl,IV.out⟩,mW.out⟩
end Go.Proofs.YtapechjebkjidaaGreatDoor
namespace Go.Proofs.YtapechjebkjidaaGreatDoor
open Go.RowKit
theorem sy {t:TypeId} {name:String} {path:List FieldStep} {f:FuncId} (h:(Tryz.prog.info? t).map (fun i=>(i.methods.find? (·.name == name)).map fun m=>(m.path.toList,m.func))=some (some (path,some (f,true)))) :
    ∃ i,Tryz.prog.info? t=some i∧∃ m,i.methods.find? (·.name == name)=some m∧m.path.toList=path∧m.func=some (f,true):=by
 obtain⟨i,hi,h2⟩:=Option.map_eq_some_iff.1 h;obtain⟨m,hm,h3⟩:=Option.map_eq_some_iff.1 h2;simp only [Prod.mk.injEq]at h3;exact⟨i,hi,m,hm,h3.1,h3.2⟩
theorem N6 (M:Nat) (w:World) (v:Value) (h:w.cell? ⟨M,0,none⟩=some v):(method 390 187 (.pointer (some ⟨M,0,none⟩)) "Len").run Tryz.prog w=.ok (137,v) w:=by
 obtain⟨i,hi,m,hm,hp,hf⟩:=sy (t:=187) (name:="Len") (path:=[⟨192,0,true⟩]) (f:=137) (by kernel_rfl);unfold method;simp [go_sem,typeInfo,hi,hm,hp,hf,follow,receiverAt,Place.get,loadVar,h]
theorem Jf (M:Nat) (w:World) (v:Value) (h:w.cell? ⟨M,0,none⟩=some v):(method 390 187 (.pointer (some ⟨M,0,none⟩)) "Rune").run Tryz.prog w=.ok (162,v) w:=by
 obtain⟨i,hi,m,hm,hp,hf⟩:=sy (t:=187) (name:="Rune") (path:=[⟨192,0,true⟩]) (f:=162) (by kernel_rfl);unfold method;simp [go_sem,typeInfo,hi,hm,hp,hf,follow,receiverAt,Place.get,loadVar,h]
theorem Gc:∀ args w,(callFunc 137 args).run Tryz.prog w=.ok (.enter 137 args) w:=enters_of Tryz.func137 (by kernel_rfl) rfl
theorem Du:∀ args w,(callFunc 162 args).run Tryz.prog w=.ok (.enter 162 args) w:=enters_of Tryz.func162 (by kernel_rfl) rfl
def UN (lo M b:Nat) (A Z:List Int) (w:World):Prop:=w.cell? ⟨M,0,none⟩=some (.pointer (some ⟨b,0,none⟩))∧M<w.heap.size∧yp lo w b A Z
theorem Je (lo M b:Nat) (A Z:List Int):Mg 187 (.pointer (some ⟨M,0,none⟩)) (.pointer (some ⟨b,0,none⟩)) 137 162 (A++Z) (UN lo M b A Z) where
  enterL:=Gc
  enterR:=Du
  ml:=fun w h=>N6 M w _ h.1
  mr:=fun w h=>Jf M w _ h.1
  len:=fun w h=>by
    have:=vU h.2.2
    rwa [← List.length_append]at this
  rune:=fun w k x h hx=>C7 h.2.2 k x hx
  keep:=fun w w' h hb=>⟨(hb.cell (p:=⟨M,0,none⟩) h.2.1).trans h.1,Nat.lt_of_lt_of_le h.2.1 hb.size,h.2.2.below hb⟩
def hereAt (l:List au) (T:List Int) (q:Nat) (k:Int):Bool:=match l[k.toNat]? with | some r=>bU r T q | none=>false
def ec (l:List au) (T:List Int) (q:Nat):List Int→Int
  | []=>-1
  | k::ks=>if hereAt l T q k=true then k else ec l T q ks
def upTo (n:Nat):List Int:=(List.range n).map fun i:Nat=>(i:Int)
def gD (l:List au) (T:List Int) (q:Nat):Int:=ec l T q (upTo l.length)
theorem wR (l:List au) (T:List Int) (q:Nat) (m:Nat→Bool):∀ (ks:List Nat),(∀ k∈ks,m k=false→hereAt l T q (k:Int)=false)→ec l T q ((ks.filter m).map fun i:Nat=>(i:Int))=ec l T q (ks.map fun i:Nat=>(i:Int)):=by
 intro ks;induction ks with
 | nil=>intro _;rfl
 | cons k ks ih=>
  intro h;have h2:=ih (fun x hx=>h x (by simp [hx]));cases hm:m k
  ·rw [List.filter_cons_of_neg (by simp [hm]),h2,List.map_cons,ec,if_neg (by rw [h k (by simp) hm];decide)]
  rw [List.filter_cons_of_pos hm,List.map_cons,List.map_cons,ec,ec,h2]
theorem GQ {r:au} {T:List Int} {q:Nat} {x:Int} (hs:r.source ≠ []) (hx:T[q]? = some x) (h:bk (bO r) x=false):bU r T q=false:=by
 have h1:jl T q r.source=false:=by
  cases hr:r.source with
  | nil=>exact absurd hr hs
  | cons s l=>
   unfold jl;split;rfl;have:bO r=s:=(by unfold bO;rw [hr];rfl);rw [this]at h;rw [Int.toNat_natCast,dN hx,bJ,h,Bool.false_and]
 unfold bU;rw [h1];simp
theorem Ef {l:List au} {T:List Int} {q:Nat} {x:Int} (hs:∀ r∈l,r.source ≠ []) (hx:T[q]? = some x):ec l T q (cJ l x)=gD l T q:=by
 unfold cJ dz gD upTo;refine wR l T q _ _ (fun k hk hm=>?_);unfold hereAt;rw [Int.toNat_natCast];cases hl:l[k]? with
 | none=>rfl
 | some r=>
  unfold vF at hm;rw [hl]at hm;exact GQ (hs r (List.mem_of_getElem? hl)) hx hm
theorem zi (l:List au) (T:List Int) (q:Nat):∀ ks:List Int,(∀ k∈ks,0≤k)→ec l T q ks = -1∨∃ (k:Nat) (r:au),ec l T q ks=(k:Int)∧l[k]? = some r∧bU r T q=true:=by
 intro ks;induction ks with
 | nil=>intro _;exact .inl rfl
 | cons k ks ih=>
  intro h;rw [ec];by_cases hk:hereAt l T q k=true
  ·rw [if_pos hk];right;unfold hereAt at hk;cases hl:l[k.toNat]? with
   | none=>rw [hl]at hk;cases hk
   | some r=>
    rw [hl]at hk;exact⟨k.toNat,r,by have:=h k (by simp);omega,hl,hk⟩
  rw [if_neg hk];exact ih (fun x hx=>h x (by simp [hx]))
theorem CE (l:List au) (T:List Int) (q:Nat):gD l T q = -1∨∃ (k:Nat) (r:au),gD l T q=(k:Int)∧l[k]? = some r∧bU r T q=true :=
  zi l T q _ (fun k hk=>by
    unfold upTo at hk
    obtain⟨i,_,rfl⟩:=List.mem_map.1 hk
    omega)
end Go.Proofs.YtapechjebkjidaaGreatDoor
namespace Go.Proofs.YtapechjebkjidaaGreatDoor
open Go.RowKit
theorem zb (gm gr M blk off n c i:Nat) (r y:Int) (w:World) (hi:i<n) (hm:w.cell? ⟨gm,0,none⟩=some (.pointer (some ⟨M,0,none⟩))) (ha:w.cell? ⟨M,2,none⟩=some (.slice (some ⟨blk,off,none⟩) n c)) (hr:w.cell? ⟨gr,0,none⟩=some (.int .i32 r)) (hc:w.cell? ⟨blk,off+i*3+1,none⟩=some (.int .i32 y)) :
    Calls Tryz.prog 163 (#[.int .i64 i] ++ #[.pointer (some ⟨gm,0,none⟩),.pointer (some ⟨gr,0,none⟩)]) w fun e w'=>e=.returned (.bool (decide (r≤y)))∧Below w.heap.size w w':=by
 have hiz:(i:Int)<(n:Int):=(by omega);go_enter Tryz.func163,Tryz.ntmps163;go_wp2_with fail;go_quiet (fail);go_wp2_with fail;go_ret;exact⟨rfl,below_drewN (Below.refl _ _) _⟩
theorem AZ:∀ args w,(callFunc 163 args).run Tryz.prog w=.ok (.enter 163 args) w:=enters_of Tryz.func163 (by kernel_rfl) rfl
def l9 (b:Nat) (Ar:Option Addr) (nr cr:Nat) (Ah:Option Addr) (nh ch:Nat) (eD s p:Int):Array Value:=#[.pointer (some ⟨b,0,none⟩),.slice Ar nr cr,.slice Ah nh ch,.int .i64 eD,.slice none 0 0,.int .i64 s,.int .i64 p]
structure dm (lo:Nat) (w:World) (M b:Nat) (A Z:List Int) (l:List au) (hs:List bF) (Ar:Option Addr) (nr cr:Nat) (Ah:Option Addr) (nh ch:Nat) (eD s p:Int):Prop where
  ge:lo≤M
  blk:ak w M 192 (l9 b Ar nr cr Ah nh ch eD s p)
  buf:yp lo w b A Z
  rules:cm (bE w (fun x=>x<lo)) w (fun x=>x<lo) 7 Ar nr l
  heads:cm (iw w (fun x=>x<lo)) w (fun x=>x<lo) 3 Ah nh hs
theorem dm.below {lo:Nat} {w w':World} {M b:Nat} {A Z:List Int} {l:List au} {hs:List bF} {Ar:Option Addr} {nr cr:Nat} {Ah:Option Addr} {nh ch:Nat} {eD s p:Int} (h:dm lo w M b A Z l hs Ar nr cr Ah nh ch eD s p) (hb:Below w.heap.size w w'):dm lo w' M b A Z l hs Ar nr cr Ah nh ch eD s p :=
  ⟨h.ge,ak.below h.blk hb h.blk.lt,h.buf.below hb,h.rules.keep (ag.any hb) (fun _ _=>bE.keep (ag.any hb)),h.heads.keep (ag.any hb) (fun _ _=>iw.keep (ag.any hb))⟩
theorem tB {lo:Nat} {w:World} {M b:Nat} {A Z:List Int} {l:List au} {hs:List bF} {Ar:Option Addr} {nr cr:Nat} {Ah:Option Addr} {nh ch:Nat} {eD s p:Int} (h:dm lo w M b A Z l hs Ar nr cr Ah nh ch eD s p)
    (x:Int) (hx:(A++Z)[A.length]? = some x) (hx0:0≤x∧x≤1114111) (hT:(A++Z).length≤100000) (OU:nh≤400) (qs:gx l hs 1114112) (hR:∀ r∈l,gS r) (hlen:l.length≤200) :
    Calls Tryz.prog 152 #[.pointer (some ⟨M,0,none⟩)] w fun e w'=>e=.returned (.int .i64 (gD l (A++Z) A.length))∧Below w.heap.size w w':=by
 have eO:=(Below.refl w.heap.size w).alloc (Nat.le_refl _) (.cells #[.pointer (some ⟨M,0,none⟩)] 187);have H:=Lib.hid h;have HX:=Lib.hid hx;have VM:=Lib.hid qs;have lU:=Lib.hid hR;have V9:=Lib.hid (show hs.length=nh from h.heads.len);have Y2:=Lib.hid (show l.length=nr from h.rules.len);have IM:=Lib.hid (h.below eO);have HG:=Lib.hid (ak.new w 187 #[.pointer (some ⟨M,0,none⟩)]);have ek:=Lib.hid eO;clear h hx qs hR eO;go_enter Tryz.func152,Tryz.ntmps152;go_wp2_with fail;generalize Z5:w.alloc (.cells #[.pointer (some ⟨M,0,none⟩)] 187)=W1 at *;have g0:=HG.out.cell 0;have c0:=IM.out.blk.cell 0;have Rv:=HG.out.lt;have hml:=IM.out.blk.lt;have uZ:=Lib.hid (fun(W:World) (hb:Below W1.heap.size W1 W)=>ud (IM.out.buf.below hb));have mq:=Lib.hid (fun(W:World) (hb:Below W1.heap.size W1 W)=>C7 (IM.out.buf.below hb) A.length x HX.out);clear Z5;have HC:=Lib.hid (fun(W:World) (hb:Below W1.heap.size W1 W)=>show W.cell? ⟨w.heap.size,0,none⟩=some (.pointer (some ⟨M,0,none⟩))∧W.cell? ⟨M,0,none⟩=some (.pointer (some ⟨b,0,none⟩)) from⟨(hb.cell (p:=⟨w.heap.size,0,none⟩) Rv).trans g0,(hb.cell (p:=⟨M,0,none⟩) hml).trans c0⟩);go_upto_region 1 with fail;go_cut [3] (fun s3 wx=>∃ G,s3=.pointer (some ⟨G,0,none⟩)∧ak wx G 21 #[.int .i32 x]∧Below W1.heap.size W1 wx);case first=>
  refine aB (S:=fun w'=>w'.cell? ⟨w.heap.size,0,none⟩=some (.pointer (some ⟨M,0,none⟩))∧w'.cell? ⟨M,0,none⟩=some (.pointer (some ⟨b,0,none⟩))) [0,3,4,7] (by kernel_rfl) ⟨g0,c0⟩ (fun bt=>?_);apply tt 0 7 rfl (by kernel_rfl) (fun _ _ _ h=>h) (by rfl) (by assumption)
  ·intro wq bR;(try dsimp only at bR);go_simp;(try with_reducible rfl)
  (try simp only [zp,za,z0,zs]);apply tp 1 8 rfl (by kernel_rfl) (fun _ _ _ h=>h) (by rfl)
  ·intro wq _;go_simp;(try with_reducible rfl)
  (try simp only [zp,za,z0,zs]);apply tp 2 9 rfl (by kernel_rfl) (fun _ _ _ h=>h) (by rfl)
  ·intro wq _;go_simp;(try with_reducible rfl)
  (try simp only [zp,za,z0,zs]);apply tt 3 10 rfl (by kernel_rfl) (fun _ _ _ h=>h) (by rfl) (by assumption)
  ·intro wq bR;(try dsimp only at bR);go_simp;(try with_reducible rfl)
  (try simp only [zp,za,z0,zs]);apply tt 4 11 rfl (by kernel_rfl) (fun _ _ _ h=>h) (by rfl) (by assumption)
  ·intro wq bR;(try dsimp only at bR);go_simp;(try with_reducible rfl)
  (try simp only [zp,za,z0,zs]);apply tp 5 12 rfl (by kernel_rfl) (fun _ _ _ h=>h) (by rfl)
  ·intro wq _;go_simp;(try with_reducible rfl)
  (try simp only [zp,za,z0,zs]);apply tp 6 13 rfl (by kernel_rfl) (fun _ _ _ h=>h) (by rfl)
  ·intro wq _;go_simp;(try with_reducible rfl)
  (try simp only [zp,za,z0,zs]);apply tt 7 14 rfl (by kernel_rfl) (fun _ _ _ h=>h) (by rfl) (by assumption)
  ·intro wq bR;(try dsimp only at bR);go_simp;(try with_reducible rfl)
  (try simp only [zp,za,z0,zs]);refine fS (i:=8) (j:=10) (o:=⟨some 15,_,_,_,_,_⟩) (o2:=⟨some 3,_,_,_,_,_⟩) (by kernel_rfl) rfl rfl (fun K hK=>?_) (fun K hK=>?_)
  ·go_simp;go_at_call 136;refine(uZ.out _ (aE (Below.refl W1.heap.size W1))).mono ?_;rintro e w2 ⟨rfl,rfl⟩;(try dsimp only);refine hK.out _ _ ?_ (fun bt=>?_);exact HC.out _ (aE (Below.refl W1.heap.size W1));clear hK K;(try simp only [zp,za,z0,zs]);refine fS (i:=9) (j:=10) (o:=⟨some 16,_,_,_,_,_⟩) (o2:=⟨some 3,_,_,_,_,_⟩) (by kernel_rfl) rfl rfl (fun K hK=>?_) (fun K hK=>?_)
   ·go_simp;go_at_call 162;refine(mq.out _ (aE (Below.refl W1.heap.size W1))).mono ?_;rintro e w2 ⟨rfl,k2,Dj⟩;have aW:=Lib.hid (show Below W1.heap.size W1 w2 by rw [Dj];exact below_drewN (aE (Below.refl W1.heap.size W1)) k2);clear Dj;(try dsimp only);refine hK.out _ _ ?_ (fun bt=>?_);exact HC.out _ aW.out;clear hK K;(try simp only [zp,za,z0,zs]);refine aF (i:=10) (o:=⟨some 3,_,_,_,_,_⟩) (by kernel_rfl) rfl (fun K hK=>?_);go_simp;(try dsimp only);refine hK.out _ _ ?_ (fun bt=>?_);exact HC.out _ (aW.out.alloc aW.out.size _);clear hK K;(try simp only [zp,za,z0,zs]);refine aD (i:=11) (by kernel_rfl) rfl (by kernel_rfl) (fun K hK=>?_);go_simp;(try dsimp only);refine hK.out _ _ ?_;clear hK K;refine aN (by kernel_rfl) ?_ _;go_simp;go_wp2_with fail;go_meet;exact⟨w2.heap.size,rfl,ak.new _ _ _,aW.out.alloc aW.out.size _⟩
   go_simp;(try dsimp only);refine hK.out _ _ ?_ (fun bt=>?_);exact HC.out _ (aE ((Below.refl W1.heap.size W1).alloc (Nat.le_refl _) (.cells #[.int .i32 0] 21)));clear hK K;(try simp only [Act.put,List.setIfInBounds_toArray,List.set_cons_zero,List.set_cons_succ]);refine aF (i:=9) (o:=⟨some 16,_,_,_,_,_⟩) (by kernel_rfl) rfl (fun K hK=>?_);go_simp;go_at_call 162;refine(mq.out _ (aE ((Below.refl W1.heap.size W1).alloc (Nat.le_refl _) (.cells #[.int .i32 0] 21)))).mono ?_;rintro e w2 ⟨rfl,k2,Dj⟩;have aW:=Lib.hid (show Below W1.heap.size W1 w2 by rw [Dj];exact below_drewN (aE ((Below.refl W1.heap.size W1).alloc (Nat.le_refl _) (.cells #[.int .i32 0] 21))) k2);have T9:=Lib.hid (show ak w2 W1.heap.size 21 #[.int .i32 0] by rw [Dj];exact ak.new W1 21 #[.int .i32 0]);clear Dj;(try dsimp only);refine hK.out _ _ ?_ (fun bt=>?_);exact HC.out _ aW.out;clear hK K;(try simp only [zp,za,z0,zs]);refine aD (i:=11) (by kernel_rfl) rfl (by kernel_rfl) (fun K hK=>?_);have z0:=T9.out.cell 0;have z1:=T9.out.frozen 0;go_simp;(try dsimp only);refine hK.out _ _ ?_;clear hK K;refine aN (by kernel_rfl) ?_ _;go_simp;go_wp2_with fail;go_meet;exact⟨W1.heap.size,rfl,T9.out.put 0 _,aW.out.setCell (Nat.le_refl _) _⟩
  go_simp;(try dsimp only);refine hK.out _ _ ?_ (fun bt=>?_);exact HC.out _ (aE ((Below.refl W1.heap.size W1).alloc (Nat.le_refl _) (.cells #[.int .i32 0] 21)));clear hK K;(try simp only [Act.put,List.setIfInBounds_toArray,List.set_cons_zero,List.set_cons_succ]);refine aF (i:=8) (o:=⟨some 15,_,_,_,_,_⟩) (by kernel_rfl) rfl (fun K hK=>?_);go_simp;go_at_call 136;refine(uZ.out _ (aE ((Below.refl W1.heap.size W1).alloc (Nat.le_refl _) (.cells #[.int .i32 0] 21)))).mono ?_;rintro e w2 ⟨rfl,rfl⟩;(try dsimp only);refine hK.out _ _ ?_ (fun bt=>?_);exact HC.out _ (aE ((Below.refl W1.heap.size W1).alloc (Nat.le_refl _) (.cells #[.int .i32 0] 21)));clear hK K;(try simp only [zp,za,z0,zs]);refine aF (i:=9) (o:=⟨some 16,_,_,_,_,_⟩) (by kernel_rfl) rfl (fun K hK=>?_);go_simp;go_at_call 162;refine(mq.out _ (aE ((Below.refl W1.heap.size W1).alloc (Nat.le_refl _) (.cells #[.int .i32 0] 21)))).mono ?_;rintro e w2 ⟨rfl,k2,Dj⟩;have aW:=Lib.hid (show Below W1.heap.size W1 w2 by rw [Dj];exact below_drewN (aE ((Below.refl W1.heap.size W1).alloc (Nat.le_refl _) (.cells #[.int .i32 0] 21))) k2);have T9:=Lib.hid (show ak w2 W1.heap.size 21 #[.int .i32 0] by rw [Dj];exact ak.new W1 21 #[.int .i32 0]);clear Dj;(try dsimp only);refine hK.out _ _ ?_ (fun bt=>?_);exact HC.out _ aW.out;clear hK K;(try simp only [zp,za,z0,zs]);refine aD (i:=11) (by kernel_rfl) rfl (by kernel_rfl) (fun K hK=>?_);have z0:=T9.out.cell 0;have z1:=T9.out.frozen 0;go_simp;(try dsimp only);refine hK.out _ _ ?_;clear hK K;refine aN (by kernel_rfl) ?_ _;go_simp;go_wp2_with fail;go_meet;exact⟨W1.heap.size,rfl,T9.out.put 0 _,aW.out.setCell (Nat.le_refl _) _⟩
 obtain⟨G,rfl,hGx,i9⟩:=hcut;have Ho:=Lib.hid i9;have O6:=Lib.hid hGx;have YL:=Lib.hid (IM.out.below i9);have HF:=Lib.hid (ak.below HG.out i9 Rv);have t0:=HF.out.cell 0;have t2:wc.cell? ⟨M,2,none⟩=some (.slice Ah nh ch):=YL.out.blk.cell 2
 have O1:=Lib.hid (uO 163 #[.pointer (some ⟨w.heap.size,0,none⟩),.pointer (some ⟨G,0,none⟩)] nh (fun i=>decide (x≤(hs[i]?.getD ⟨0,0,[]⟩).high)) wc AZ (by omega)
   (fun w' i hb hi=>by
     obtain⟨y,hy⟩:∃ z,hs[i]? = some z:=⟨_,List.getElem?_eq_getElem (by rw [V9.out];exact hi)⟩
     obtain⟨hb',hoff,A',c',rfl,_,dL,_,c1,_⟩:=Ii (YL.out.below hb).heads hy
     rw [hy]
     exact zb w.heap.size G M hb' hoff nh ch i x y.high w' hi ((ak.below HF.out hb HF.out.lt).cell 0) ((YL.out.below hb).blk.cell 2) ((ak.below O6.out hb O6.out.lt).cell 0) c1)
   (fun a b hab hb h=>by
     obtain⟨y,hy⟩:∃ z,hs[a]? = some z:=⟨_,List.getElem?_eq_getElem (by rw [V9.out];omega)⟩
     obtain⟨z,hz⟩:∃ z,hs[b]? = some z:=⟨_,List.getElem?_eq_getElem (by rw [V9.out];omega)⟩
     simp only [hy,hz,Option.getD_some,decide_eq_true_eq]at h ⊢
     have:=VM.out.X5 a b y z hab hy hz
     omega))
 clear hGx i9 g0 c0;go_wp2_with fail;refine O1.out.mono ?_;rintro e w2 ⟨k,rfl,hk,h1,h2,hb⟩;obtain⟨y,hy,hyr⟩:=VM.out.head (r:=x) (k:=k) (fun t z ht hz=>by
  have:=h1 t ht;rw [hz]at this;simpa using this) (fun t z ht hz=>by
  have:=h2 t ht (by rw [← V9.out];exact(List.getElem?_eq_some_iff.1 hz).1);rw [hz]at this;simpa using this) hx0.1 hx0.2
 have hkn:k<nh:=(by rw [← V9.out];exact(List.getElem?_eq_some_iff.1 hy).1);have HMD:=Lib.hid (YL.out.below hb);have LF:=Lib.hid (ak.below HF.out hb HF.out.lt);have Yj:=Lib.hid (ek.out.trans ((Ho.out.trans (hb.mono Ho.out.size)).mono ek.out.size));obtain⟨hb',hoff,Ab,cb,rfl,_,dL,_,_,e2,hri,_,eO⟩:=Ii HMD.out.heads hy;rw [hyr]at e2 hri eO;have d0:=LF.out.cell 0;have d2:w2.cell? ⟨M,2,none⟩=some (.slice (some ⟨hb',hoff,none⟩) nh ch):=HMD.out.blk.cell 2;have HRI:=Lib.hid hri;have HWI:=Lib.hid (Ef (l:=l) (T:=A++Z) (q:=A.length) (fun r hr=>(lU.out r hr).src) HX.out);have abe:=Lib.hid (show ∀ k∈cJ l x,∃ q:Nat,k=(q:Int)∧q<l.length from fun k hk=>by
  unfold cJ dz at hk;obtain⟨q,hq,rfl⟩:=List.mem_map.1 hk;exact⟨q,rfl,List.mem_range.1 (List.mem_filter.1 hq).1⟩)
 have agy:(cJ l x).length≤200:=Nat.le_trans (Jv l x) hlen;generalize hBB:cJ l x=BB at *;generalize Kn:BB.length=bn at *;have HBN:=Lib.hid Kn;clear h1 h2 hb hy hyr hri hBB Kn O1 t0 t2;go_wp2_with fail;go_loopw [33] (fun i wr=>∃ j:Nat,j≤bn∧i=.int .i64 j∧ec l (A++Z) A.length BB=ec l (A++Z) A.length (BB.drop j)∧Below w2.heap.size w2 wr) (fun i _=>bn - (intOf i).toNat);(case atStart=>exact⟨0,Nat.zero_le _,rfl,rfl,Below.refl _ _⟩);obtain⟨j,hj,rfl,bf,hb⟩:=hrel;have QZ:=Lib.hid (HMD.out.below hb);have Xg:=Lib.hid (Yj.out.trans (hb.mono Yj.out.size));have Zj:=Lib.hid hb;by_cases hlt:j<bn
 ·obtain⟨kk,hkk⟩:∃ z,BB[j]? = some z:=⟨_,List.getElem?_eq_getElem (by rw [HBN.out];exact hlt)⟩;obtain⟨kn,rfl,LA⟩:=abe.out kk (List.mem_of_getElem? hkk);obtain⟨r,hr⟩:∃ z,l[kn]? = some z:=⟨_,List.getElem?_eq_getElem LA⟩;obtain⟨vb,vo,rfl,Tn,hvc⟩:=HRI.out.at hkk;have v0:=(Zj.out.cell (p:=⟨vb,vo+j,none⟩) Tn).trans hvc;obtain⟨rb,ro,A1,A2,A3,A4,n1,c1,n2,c2,n3,c3,n4,c4,rfl,_,tH⟩:=IW QZ.out.rules hr;have HHR:=Lib.hid (GY (Je lo M b A Z) (fun x=>x<lo) r rb (ro+kn*7) A1 A2 A3 A4 n1 c1 n2 c2 n3 c3 n4 c4 A.length wr.drew hT (by rw [List.length_append];omega) (lU.out r (List.mem_of_getElem? hr)) (tH.below (aE (Below.refl _ _))) ⟨QZ.out.blk.cell 0,QZ.out.blk.lt,QZ.out.buf.below (aE (Below.refl wr.heap.size wr))⟩);have HH:=Lib.hid (show hereAt l (A++Z) A.length (kn:Int)=bU r (A++Z) A.length by unfold hereAt;rw [Int.toNat_natCast,hr]);have fh:=Lib.hid (bf.trans (show ec l (A++Z) A.length (BB.drop j)=if hereAt l (A++Z) A.length (kn:Int)=true then (kn:Int)else ec l (A++Z) A.length (BB.drop (j+1)) by rw [dN hkk,ec]));have U':kn<nr:=(by rw [← Y2.out];exact LA);have u0:=(ak.below LF.out hb LF.out.lt).cell 0;have u1:wr.cell? ⟨M,0,none⟩=some (.pointer (some ⟨b,0,none⟩)):=QZ.out.blk.cell 0;have u2:wr.cell? ⟨M,1,none⟩=some (.slice (some ⟨rb,ro,none⟩) nr cr):=QZ.out.blk.cell 1;clear hkk hr hvc tH bf hb;go_upto_region 6 with fail;refine aB (S:=fun w'=>w'.cell? ⟨w.heap.size,0,none⟩=some (.pointer (some ⟨M,0,none⟩))∧w'.cell? ⟨M,0,none⟩=some (.pointer (some ⟨b,0,none⟩))∧w'.cell? ⟨M,1,none⟩=some (.slice (some ⟨rb,ro,none⟩) nr cr)) [0,3,6,8,11] (by kernel_rfl) ⟨u0,u1,u2⟩ (fun bt=>?_);apply tt 0 37 rfl (by kernel_rfl) (fun _ _ _ h=>h) (by rfl) (by assumption)
  ·intro wq bR;(try dsimp only at bR);go_simp;(try with_reducible rfl)
  (try simp only [zp,za,z0,zs]);apply tp 1 38 rfl (by kernel_rfl) (fun _ _ _ h=>h) (by rfl)
  ·intro wq _;go_simp;(try with_reducible rfl)
  (try simp only [zp,za,z0,zs]);apply tp 2 39 rfl (by kernel_rfl) (fun _ _ _ h=>h) (by rfl)
  ·intro wq _;go_simp;(try with_reducible rfl)
  (try simp only [zp,za,z0,zs]);apply tt 3 40 rfl (by kernel_rfl) (fun _ _ _ h=>h) (by rfl) (by assumption)
  ·intro wq bR;(try dsimp only at bR);go_simp;(try with_reducible rfl)
  (try simp only [zp,za,z0,zs]);apply tp 4 41 rfl (by kernel_rfl) (fun _ _ _ h=>h) (by rfl)
  ·intro wq _;go_simp;(try with_reducible rfl)
  (try simp only [zp,za,z0,zs]);apply tp 5 42 rfl (by kernel_rfl) (fun _ _ _ h=>h) (by rfl)
  ·intro wq _;go_simp;(try with_reducible rfl)
  (try simp only [zp,za,z0,zs]);apply tt 6 43 rfl (by kernel_rfl) (fun _ _ _ h=>h) (by rfl) (by assumption)
  ·intro wq bR;(try dsimp only at bR);go_simp;(try with_reducible rfl)
  (try simp only [zp,za,z0,zs]);apply tp 7 44 rfl (by kernel_rfl) (fun _ _ _ h=>h) (by rfl)
  ·intro wq _;go_simp;(try with_reducible rfl)
  (try simp only [zp,za,z0,zs]);apply tt 8 45 rfl (by kernel_rfl) (fun _ _ _ h=>h) (by rfl) (by assumption)
  ·intro wq bR;(try dsimp only at bR);go_simp;(try with_reducible rfl)
  (try simp only [zp,za,z0,zs]);apply tp 9 46 rfl (by kernel_rfl) (fun _ _ _ h=>h) (by rfl)
  ·intro wq _;go_simp;(try with_reducible rfl)
  (try simp only [zp,za,z0,zs]);apply tp 10 47 rfl (by kernel_rfl) (fun _ _ _ h=>h) (by rfl)
  ·intro wq _;go_simp;(try with_reducible rfl)
  (try simp only [zp,za,z0,zs]);apply tt 11 48 rfl (by kernel_rfl) (fun _ _ _ h=>h) (by rfl) (by assumption)
  ·intro wq bR;(try dsimp only at bR);go_simp;(try with_reducible rfl)
  (try simp only [zp,za,z0,zs]);refine aF (i:=12) (o:=⟨some 49,_,_,_,_,_⟩) (by kernel_rfl) rfl (fun K hK=>?_);go_simp;go_at_call 136;refine(ud (QZ.out.buf.below (aE (Below.refl wr.heap.size wr)))).mono ?_;rintro e w2 ⟨rfl,rfl⟩;(try dsimp only);refine hK.out _ _ ?_ (fun bt=>?_);exact⟨u0,u1,u2⟩;clear hK K;(try simp only [zp,za,z0,zs]);refine aD (i:=13) (o:=⟨some 50,_,_,_,_,_⟩) (by kernel_rfl) rfl (by kernel_rfl) (fun K hK=>?_);go_simp;go_at_call 164;refine HHR.out.mono ?_;rintro e w3 ⟨rfl,bQ⟩;have Tp:Below wr.heap.size wr w3:=(aE (Below.refl wr.heap.size wr)).trans bQ;have bW:=Lib.hid (Xg.out.trans (Tp.mono Xg.out.size));have eM:=Lib.hid (Zj.out.trans (Tp.mono Zj.out.size));clear bQ Tp HHR;(try dsimp only);refine hK.out _ _ ?_;clear hK K;(try simp only [zp,za,z0,zs]);refine aN (by kernel_rfl) ?_ _;cases hh:bU r (A++Z) A.length
  ·have nQ:=Lib.hid (fh.out.trans (if_neg (by rw [HH.out,hh];decide)));clear hh;go_simp;go_wp2_with fail;exact⟨⟨j+1,by omega,by go_num,nQ.out,eM.out⟩,by simp [intOf];omega⟩
  have nQ:=Lib.hid (fh.out.trans (if_pos (by rw [HH.out,hh])));clear hh;go_simp;go_wp2_with fail;go_ret;rw [← HWI.out,nQ.out];exact⟨rfl,bW.out⟩
 obtain rfl:j=bn:=(by omega);rw [List.drop_of_length_le (by rw [HBN.out];exact Nat.le_refl _)]at bf;have nQ:=Lib.hid (HWI.out.symm.trans bf);clear bf hb;go_wp2_with fail;go_ret;rw [nQ.out];exact⟨rfl,Xg.out⟩
end Go.Proofs.YtapechjebkjidaaGreatDoor
namespace Go.Proofs.YtapechjebkjidaaGreatDoor
open Go.RowKit
section
variable {lo : Nat} {w w' : World} {M b : Nat} {A Z A' Z' : List Int} {l : List au} {hs : List bF} {Ar : Option Addr} {nr cr : Nat} {Ah : Option Addr} {nh ch : Nat} {eD s p : Int}
theorem fX {X:Nat→Prop} (hb:Below lo w w') (hX:∀ x,X x→x<lo):ag w X w' X:=fun x hx hl=>⟨hb.block x (hX x hx),hx,Nat.lt_of_lt_of_le hl hb.size⟩
theorem dm.kp (h:dm lo w M b A Z l hs Ar nr cr Ah nh ch eD s p) (hk:Kp lo w w') (hb:yp lo w' b A' Z'):dm lo w' M b A' Z' l hs Ar nr cr Ah nh ch eD s p :=
  ⟨h.ge,hk.other M _ _ h.blk (by decide) (by decide),hb,h.rules.keep (fX hk.below (fun _ h=>h)) (fun _ _=>bE.keep (fX hk.below (fun _ h=>h))),h.heads.keep (fX hk.below (fun _ h=>h)) (fun _ _=>iw.keep (fX hk.below (fun _ h=>h)))⟩
theorem yp.MF (h:yp lo w b A Z) {cs:Array Value} (hM:ak w M 192 cs) (i:Nat) (u:Value):yp lo (w.setCell ⟨M,i,none⟩ u) b A Z:=by
 obtain⟨L,n,D,f,t,h1,h2⟩:=h;exact⟨L,n,D,f,t,⟨h1.buf.other hM (by decide) i u,h1.row.other hM (by decide) i u,h1.len,h1.le,h1.end_,h1.small⟩,h2⟩
structure Kq (lo:Nat) (w w':World):Prop where
  below:Below lo w w'
  other:∀ k t cs,ak w k t cs→t ≠ 21 → t ≠ 208 → t ≠ 192 → ak w' k t cs
theorem Kq.refl (lo:Nat) (w:World):Kq lo w w:=⟨Below.refl _ _,fun _ _ _ h _ _ _=>h⟩
theorem Kq.trans {w1 w2:World} (h:Kq lo w w1) (h2:Kq lo w1 w2):Kq lo w w2:=⟨h.below.trans h2.below,fun k t cs hb h3 h4 h5=>h2.other k t cs (h.other k t cs hb h3 h4 h5) h3 h4 h5⟩
theorem Kq.kp (h:Kp lo w w'):Kq lo w w':=⟨h.below,fun k t cs hb h3 h4 _=>h.other k t cs hb h3 h4⟩
theorem Kq.all (h:Below w.heap.size w w') (hlo:lo≤w.heap.size):Kq lo w w':=Kq.kp (Kp.all h hlo)
theorem Kq.drewN (h:Kq lo w w') (k:Nat):Kq lo w (w'.drewN k):=⟨below_drewN h.below k,h.other⟩
theorem Kq.MF {M:Nat} {cs:Array Value} (hM:ak w M 192 cs) (hl:lo≤M) (i:Nat) (u:Value):Kq lo w (w.setCell ⟨M,i,none⟩ u) :=
  ⟨(Below.refl _ _).setCell hl _,fun _ _ _ hb _ _ h5=>hb.other hM h5 i u⟩
theorem dm.steps (h:dm lo w M b A Z l hs Ar nr cr Ah nh ch eD s p) (s':Int):dm lo (w.setCell ⟨M,5,none⟩ (.int .i64 s')) M b A Z l hs Ar nr cr Ah nh ch eD s' p∧Kq lo w (w.setCell ⟨M,5,none⟩ (.int .i64 s')):=by
 have hb:Below lo w (w.setCell ⟨M,5,none⟩ (.int .i64 s')):=(Below.refl _ _).setCell h.ge _;exact⟨⟨h.ge,h.blk.put 5 _,h.buf.MF h.blk 5 _,h.rules.keep (fX hb (fun _ h=>h)) (fun _ _=>bE.keep (fX hb (fun _ h=>h))),h.heads.keep (fX hb (fun _ h=>h)) (fun _ _=>iw.keep (fX hb (fun _ h=>h)))⟩,Kq.MF h.blk h.ge _ _⟩
theorem dm.WO (h:dm lo w M b A Z l hs Ar nr cr Ah nh ch eD s p) (p':Int):dm lo (w.setCell ⟨M,6,none⟩ (.int .i64 p')) M b A Z l hs Ar nr cr Ah nh ch eD s p'∧Kq lo w (w.setCell ⟨M,6,none⟩ (.int .i64 p')):=by
 have hb:Below lo w (w.setCell ⟨M,6,none⟩ (.int .i64 p')):=(Below.refl _ _).setCell h.ge _;exact⟨⟨h.ge,h.blk.put 6 _,h.buf.MF h.blk 6 _,h.rules.keep (fX hb (fun _ h=>h)) (fun _ _=>bE.keep (fX hb (fun _ h=>h))),h.heads.keep (fX hb (fun _ h=>h)) (fun _ _=>iw.keep (fX hb (fun _ h=>h)))⟩,Kq.MF h.blk h.ge _ _⟩
theorem dm.rule (h:dm lo w M b A Z l hs Ar nr cr Ah nh ch eD s p) {k:Nat} {r:au} (hk:l[k]? = some r) :
    ∃ (rb ro:Nat) (A2 A4:Option Addr) (c2 c4:Nat),Ar=some ⟨rb,ro,none⟩∧k<nr∧w.cell? ⟨rb,ro+k*7+3,none⟩=some (.slice A2 r.source.length c2)∧w.cell? ⟨rb,ro+k*7+5,none⟩=some (.slice A4 r.target.length c4) ∧
      w.cell? ⟨rb,ro+k*7+6,none⟩=some (.int .i64 r.aa)∧di w (fun x=>x<lo) 1 A4 r.target.length (runeCells r.target):=by
 obtain⟨rb,ro,A1,A2,A3,A4,n1,c1,n2,c2,n3,c3,n4,c4,e,_,ha⟩:=IW h.rules hk;have h2:=ha.s2.list.len;have h4:=ha.s4.1;rw [runeCells_length]at h4;obtain rfl:r.source.length=n2:=h2;obtain rfl:r.target.length=n4:=(by omega);have hl:l.length=nr:=h.rules.len;exact⟨rb,ro,A2,A4,c2,c4,e,by have:=(List.getElem?_eq_some_iff.1 hk).1;omega,ha.d3,ha.d5,ha.d6,ha.s4⟩
end
end Go.Proofs.YtapechjebkjidaaGreatDoor
namespace Go.Proofs.YtapechjebkjidaaGreatDoor
open Go.RowKit
theorem F8 {lo:Nat} {w:World} {M b:Nat} {A Z:List Int} {l:List au} {hs:List bF} {Ar:Option Addr} {nr cr:Nat} {Ah:Option Addr} {nh ch:Nat} {eD s p:Nat} (h:dm lo w M b A Z l hs Ar nr cr Ah nh ch eD s p) (hs1:s=eD) (ya:eD≤100000) :
    Calls Tryz.prog 138 #[.pointer (some ⟨M,0,none⟩)] w fun e w'=>e=.returned (.tuple #[.int .i64 0,.int .i64 9])∧∃ k,w'=w.drewN k:=by
 have c3:w.cell? ⟨M,3,none⟩=some (.int .i64 eD):=h.blk.cell 3;have c5:w.cell? ⟨M,5,none⟩=some (.int .i64 s):=h.blk.cell 5;subst hs1;clear h;go_enter Tryz.func138,Tryz.ntmps138;go_wp2_with fail;go_quiet (fail);go_wp2_with fail;go_ret2;exact⟨rfl,_,rfl⟩
theorem Eu {lo:Nat} {w:World} {M b:Nat} {A Z:List Int} {l:List au} {hs:List bF} {Ar:Option Addr} {nr cr:Nat} {Ah:Option Addr} {nh ch:Nat} {eD s p:Nat} (h:dm lo w M b A Z l hs Ar nr cr Ah nh ch eD s p) (z:Int) (Z':List Int) (hZ:Z=z::Z') (x:Int) (hx:(A++Z)[A.length]? = some x) (hx0:0≤x∧x≤1114111) (hT:(A++Z).length≤4000) (OU:nh≤400) (qs:gx l hs 1114112) (hR:∀ r∈l,gS r) (hlen:l.length≤200) (ya:eD≤100000)  (hs1:s<eD) (th:gD l (A++Z) A.length = -1) :
    Calls Tryz.prog 138 #[.pointer (some ⟨M,0,none⟩)] w fun e w'=>e=.returned (.tuple #[.int .i64 (-1),.int .i64 0])∧dm lo w' M b (A++[z]) Z' l hs Ar nr cr Ah nh ch eD ((s:Int)+1) p∧Kq lo w w':=by
 have XW:=Lib.hid (show(A++Z).take (A.length+1)=A++[z]∧(A++Z).drop (A.length+1)=Z' by
  have e:A++z::Z'=(A++[z])++Z':=(by simp);rw [hZ,e];exact⟨List.take_left' (by simp),List.drop_left' (by simp)⟩)
 have hzl:Z.length=Z'.length+1:=(by rw [hZ];rfl);have hAl:A.length≤4000:=(by rw [List.length_append]at hT;omega);have hwr:IntKind.i64.wrap ((A.length:Int)+1)=(A.length:Int)+1:=(by rw [IntKind.wrap_i64];omega);have hge:=h.ge;have c3:w.cell? ⟨M,3,none⟩=some (.int .i64 eD):=h.blk.cell 3;have c5:w.cell? ⟨M,5,none⟩=some (.int .i64 s):=h.blk.cell 5;have f5:=h.blk.frozen 5;have rT:lo≤w.heap.size:=Nat.le_trans h.ge (Nat.le_of_lt h.blk.lt);have hd:((s:Int) ==(eD:Int))=false:=(by rw [beq_eq_false_iff_ne];omega);have H:=Lib.hid h;have HX:=Lib.hid hx;have lU:=Lib.hid hR;have OP:=Lib.hid qs;clear h hx qs hR;go_enter Tryz.func138,Tryz.ntmps138;go_wp2_with fail;go_quiet (fail);have d5:(w.drewN nq).cell? ⟨M,5,none⟩=some (.int .i64 s):=c5;have g5:(w.drewN nq).frozen? ⟨M,5,none⟩=false:=f5;have hst:=(H.out.below (below_drewN (Below.refl _ _) nq)).steps ((s:Int)+1);have fW:=Lib.hid hst.1;have Rc:=Lib.hid (((Kq.refl lo w).drewN nq).trans hst.2);have LF:=Lib.hid (tB fW.out x HX.out hx0 (by omega) OU OP.out lU.out hlen);clear hst c3 c5 f5;go_wp2_with fail;refine LF.out.mono ?_;rintro e w2 ⟨rfl,aL⟩;rw [th];have ld:=Lib.hid (fW.out.below aL);have aW:=Lib.hid (Rc.out.trans (Kq.all aL (Nat.le_trans rT Rc.out.below.size)));clear aL d5 g5 LF;have e0:w2.cell? ⟨M,0,none⟩=some (.pointer (some ⟨b,0,none⟩)):=ld.out.blk.cell 0;have vN:=Lib.hid (show Calls Tryz.prog 153 #[.pointer (some ⟨b,0,none⟩),.int .i64 ((A.length:Int)+1)] w2.drew _ from DE (ld.out.buf.below (aE (Below.refl w2.heap.size w2))) (A.length+1) (by omega));go_upto_region 6 with fail;refine aB (S:=fun w'=>w'.cell? ⟨M,0,none⟩=some (.pointer (some ⟨b,0,none⟩))) [3,7] (by kernel_rfl) e0 (fun bt=>?_)
 apply tp 0 30 rfl (by kernel_rfl) (fun _ _ _ h=>h) (by rfl)
 ·intro wq _;go_simp;(try with_reducible rfl)
 (try simp only [zp,za,z0,zs]);apply tp 1 31 rfl (by kernel_rfl) (fun _ _ _ h=>h) (by rfl)
 ·intro wq _;go_simp;(try with_reducible rfl)
 (try simp only [zp,za,z0,zs]);apply tp 2 32 rfl (by kernel_rfl) (fun _ _ _ h=>h) (by rfl)
 ·intro wq _;go_simp;(try with_reducible rfl)
 (try simp only [zp,za,z0,zs]);apply tt 3 33 rfl (by kernel_rfl) (fun _ _ _ h=>h) (by rfl) (by assumption)
 ·intro wq bR;(try dsimp only at bR);go_simp;(try with_reducible rfl)
 (try simp only [zp,za,z0,zs]);apply tp 4 34 rfl (by kernel_rfl) (fun _ _ _ h=>h) (by rfl)
 ·intro wq _;go_simp;(try with_reducible rfl)
 (try simp only [zp,za,z0,zs]);apply tp 5 35 rfl (by kernel_rfl) (fun _ _ _ h=>h) (by rfl)
 ·intro wq _;go_simp;(try with_reducible rfl)
 (try simp only [zp,za,z0,zs]);apply tp 6 36 rfl (by kernel_rfl) (fun _ _ _ h=>h) (by rfl)
 ·intro wq _;go_simp;(try with_reducible rfl)
 (try simp only [zp,za,z0,zs]);apply tt 7 37 rfl (by kernel_rfl) (fun _ _ _ h=>h) (by rfl) (by assumption)
 ·intro wq bR;(try dsimp only at bR);go_simp;(try with_reducible rfl)
 (try simp only [zp,za,z0,zs]);refine aF (i:=8) (o:=⟨some 38,_,_,_,_,_⟩) (by kernel_rfl) rfl (fun K hK=>?_);go_simp;go_at_call 136;refine(ud (ld.out.buf.below (aE (Below.refl w2.heap.size w2)))).mono ?_;rintro e w3 ⟨rfl,rfl⟩;(try dsimp only);refine hK.out _ _ ?_ (fun bt=>?_);exact e0;clear hK K;(try simp only [zp,za,z0,zs]);apply tp 9 39 rfl (by kernel_rfl) (fun _ _ _ h=>h) (by rfl)
 ·intro wq _;go_simp;(try with_reducible rfl)
 (try simp only [zp,za,z0,zs]);refine aD (i:=10) (by kernel_rfl) rfl (by kernel_rfl) (fun K hK=>?_);go_simp;go_at_call 153;refine vN.out.mono ?_;rintro e w3 ⟨rfl,rD,hkp⟩;have Le:=Lib.hid rD;have pN:=Lib.hid (((Kp.refl lo w2).drew).trans hkp);clear rD hkp vN;(try dsimp only);refine hK.out _ _ ?_;clear hK K;(try simp only [Act.put,List.setIfInBounds_toArray,List.set_cons_zero,List.set_cons_succ]);refine aN (by kernel_rfl) ?_ _;go_simp;go_wp2_with fail;go_ret2;refine⟨rfl,?_,aW.out.trans (Kq.kp pN.out)⟩;have hm:=ld.out.kp pN.out Le.out;rwa [XW.out.1,XW.out.2]at hm
theorem JJ {lo:Nat} {w:World} {M b:Nat} {A Z:List Int} {l:List au} {hs:List bF} {Ar:Option Addr} {nr cr:Nat} {Ah:Option Addr} {nh ch:Nat} {eD s p:Nat} (h:dm lo w M b A Z l hs Ar nr cr Ah nh ch eD s p) (k:Nat) (r:au) (hk:l[k]? = some r) (x:Int) (hx:(A++Z)[A.length]? = some x) (hx0:0≤x∧x≤1114111) (hT:(A++Z).length≤4000) (OU:nh≤400) (qs:gx l hs 1114112) (hR:∀ r∈l,gS r) (hlen:l.length≤200) (ya:eD≤100000)  (hpb:p≤100000) (hs1:s<eD) (th:gD l (A++Z) A.length=(k:Int)) (hfit:r.source.length≤Z.length) (wZ:4000+r.source.length<A.length+Z.length+r.target.length) :
    Calls Tryz.prog 138 #[.pointer (some ⟨M,0,none⟩)] w fun e w'=>e=.returned (.tuple #[.int .i64 0,.int .i64 4])∧Below lo w w':=by
 have HK:=Lib.hid hk;have rE:=hR r (List.mem_of_getElem? hk);have ab':=(rE.sets r.source (by simp [eI])).1;have Vk:=rE.tgt.1;have GB:=rE.cur;have T8:(A++Z).length=A.length+Z.length:=List.length_append;clear hk rE;have hgt:decide ((4000:Int)<((A.length+Z.length:Nat):Int) - (r.source.length:Int)+(r.target.length:Int))=true:=decide_eq_true (by omega);have hge:=h.ge;have c3:w.cell? ⟨M,3,none⟩=some (.int .i64 eD):=h.blk.cell 3;have c5:w.cell? ⟨M,5,none⟩=some (.int .i64 s):=h.blk.cell 5;have f5:=h.blk.frozen 5;have rT:lo≤w.heap.size:=Nat.le_trans h.ge (Nat.le_of_lt h.blk.lt);have hd:((s:Int) ==(eD:Int))=false:=(by rw [beq_eq_false_iff_ne];omega);have H:=Lib.hid h;have HX:=Lib.hid hx;have lU:=Lib.hid hR;have OP:=Lib.hid qs;clear h hx qs hR;go_enter Tryz.func138,Tryz.ntmps138;go_wp2_with fail;go_quiet (fail);have d5:(w.drewN nq).cell? ⟨M,5,none⟩=some (.int .i64 s):=c5;have g5:(w.drewN nq).frozen? ⟨M,5,none⟩=false:=f5;have hst:=(H.out.below (below_drewN (Below.refl _ _) nq)).steps ((s:Int)+1);have fW:=Lib.hid hst.1;have Rc:=Lib.hid (((Kq.refl lo w).drewN nq).trans hst.2);have LF:=Lib.hid (tB fW.out x HX.out hx0 (by omega) OU OP.out lU.out hlen);clear hst c3 c5 f5;go_wp2_with fail;refine LF.out.mono ?_;rintro e w2 ⟨rfl,aL⟩;rw [th];have ld:=Lib.hid (fW.out.below aL);have aW:=Lib.hid (Rc.out.trans (Kq.all aL (Nat.le_trans rT Rc.out.below.size)));clear aL d5 g5 LF;have tC:=ld.out;have u6:w2.cell? ⟨M,6,none⟩=some (.int .i64 p):=tC.blk.cell 6;have v6:=tC.blk.frozen 6;obtain⟨rb,ro,A2,A4,c2,c4,rfl,U',_⟩:=tC.rule HK.out;have u1:w2.cell? ⟨M,1,none⟩=some (.slice (some ⟨rb,ro,none⟩) nr cr):=tC.blk.cell 1;have hpt:=tC.WO ((p:Int)+1);have jP:=Lib.hid hpt.1;have bW:=Lib.hid (aW.out.trans hpt.2)
 clear hpt tC;have V3:decide ((k:Int)<0)=false:=decide_eq_false (by omega);generalize RQ:w2.setCell ⟨M,6,none⟩ (.int .i64 ((p:Int)+1))=W3 at jP bW;have HW3:=Lib.hid RQ;have t0:W3.cell? ⟨M,0,none⟩=some (.pointer (some ⟨b,0,none⟩)):=jP.out.blk.cell 0;have t1:W3.cell? ⟨M,1,none⟩=some (.slice (some ⟨rb,ro,none⟩) nr cr):=jP.out.blk.cell 1;obtain⟨rb',ZH,A2,A4,c2,c4,e9,_,t3,t5,_,_⟩:=jP.out.rule HK.out;cases e9;have aY:=Lib.hid (fun(q:Nat)=>vU (jP.out.buf.below (below_drewN (Below.refl W3.heap.size W3) q)));have uZ:=Lib.hid (fun(q:Nat)=>ud (jP.out.buf.below (below_drewN (Below.refl W3.heap.size W3) q)));clear RQ;go_upto_region 10 with fail;rw [HW3.out];clear u1 u6 v6;go_quiet (first | (go_at_call 137;exact Calls.quiet_of (aY.out _)));go_wp2_with fail;go_ret2;exact⟨rfl,below_drewN bW.out.below nq⟩
end Go.Proofs.YtapechjebkjidaaGreatDoor
namespace Go.Proofs.YtapechjebkjidaaGreatDoor
open Go.RowKit
theorem E3 {lo:Nat} {w:World} {M b:Nat} {A Z:List Int} {l:List au} {hs:List bF} {Ar:Option Addr} {nr cr:Nat} {Ah:Option Addr} {nh ch:Nat} {eD s p:Nat} (h:dm lo w M b A Z l hs Ar nr cr Ah nh ch eD s p) (k:Nat) (r:au) (hk:l[k]? = some r) (x:Int) (hx:(A++Z)[A.length]? = some x) (hx0:0≤x∧x≤1114111) (hT:(A++Z).length≤4000) (OU:nh≤400) (qs:gx l hs 1114112) (hR:∀ r∈l,gS r) (hlen:l.length≤200) (ya:eD≤100000)  (hpb:p≤100000) (hs1:s<eD) (th:gD l (A++Z) A.length=(k:Int)) (hfit:r.source.length≤Z.length) (wZ:A.length+Z.length+r.target.length≤4000+r.source.length) :
    Calls Tryz.prog 138 #[.pointer (some ⟨M,0,none⟩)] w fun e w'=>e=.returned (.tuple #[.int .i64 k,.int .i64 0]) ∧
      dm lo w' M b ((A++r.target++Z.drop r.source.length).take (A.length+r.aa.toNat)) ((A++r.target++Z.drop r.source.length).drop (A.length+r.aa.toNat)) l hs Ar nr cr Ah nh ch eD ((s:Int)+1) ((p:Int)+1)∧Kq lo w w':=by
 have HK:=Lib.hid hk;have rE:=hR r (List.mem_of_getElem? hk);have ab':=(rE.sets r.source (by simp [eI])).1;have Vk:=rE.tgt.1;have GB:=rE.cur;have T8:(A++Z).length=A.length+Z.length:=List.length_append;clear hk rE;have hgt:decide ((4000:Int)<((A.length+Z.length:Nat):Int) - (r.source.length:Int)+(r.target.length:Int))=false:=decide_eq_false (by omega);have hwr:IntKind.i64.wrap ((A.length:Int)+r.aa)=(A.length:Int)+r.aa:=(by rw [IntKind.wrap_i64];omega);have hge:=h.ge;have c3:w.cell? ⟨M,3,none⟩=some (.int .i64 eD):=h.blk.cell 3;have c5:w.cell? ⟨M,5,none⟩=some (.int .i64 s):=h.blk.cell 5;have f5:=h.blk.frozen 5;have rT:lo≤w.heap.size:=Nat.le_trans h.ge (Nat.le_of_lt h.blk.lt);have hd:((s:Int) ==(eD:Int))=false:=(by rw [beq_eq_false_iff_ne];omega);have H:=Lib.hid h;have HX:=Lib.hid hx;have lU:=Lib.hid hR;have OP:=Lib.hid qs;clear h hx qs hR;go_enter Tryz.func138,Tryz.ntmps138;go_wp2_with fail;go_quiet (fail);have d5:(w.drewN nq).cell? ⟨M,5,none⟩=some (.int .i64 s):=c5;have g5:(w.drewN nq).frozen? ⟨M,5,none⟩=false:=f5;have hst:=(H.out.below (below_drewN (Below.refl _ _) nq)).steps ((s:Int)+1);have fW:=Lib.hid hst.1;have Rc:=Lib.hid (((Kq.refl lo w).drewN nq).trans hst.2);have LF:=Lib.hid (tB fW.out x HX.out hx0 (by omega) OU OP.out lU.out hlen);clear hst c3 c5 f5;go_wp2_with fail;refine LF.out.mono ?_;rintro e w2 ⟨rfl,aL⟩;rw [th];have ld:=Lib.hid (fW.out.below aL);have aW:=Lib.hid (Rc.out.trans (Kq.all aL (Nat.le_trans rT Rc.out.below.size)));clear aL d5 g5 LF;have tC:=ld.out;have u6:w2.cell? ⟨M,6,none⟩=some (.int .i64 p):=tC.blk.cell 6;have v6:=tC.blk.frozen 6;obtain⟨rb,ro,A2,A4,c2,c4,rfl,U',_⟩:=tC.rule HK.out
 have u1:w2.cell? ⟨M,1,none⟩=some (.slice (some ⟨rb,ro,none⟩) nr cr):=tC.blk.cell 1;have hpt:=tC.WO ((p:Int)+1);have jP:=Lib.hid hpt.1;have bW:=Lib.hid (aW.out.trans hpt.2);clear hpt tC;have V3:decide ((k:Int)<0)=false:=decide_eq_false (by omega);generalize RQ:w2.setCell ⟨M,6,none⟩ (.int .i64 ((p:Int)+1))=W3 at jP bW;have HW3:=Lib.hid RQ;have t0:W3.cell? ⟨M,0,none⟩=some (.pointer (some ⟨b,0,none⟩)):=jP.out.blk.cell 0;have t1:W3.cell? ⟨M,1,none⟩=some (.slice (some ⟨rb,ro,none⟩) nr cr):=jP.out.blk.cell 1;obtain⟨rb',ZH,A2,A4,c2,c4,e9,_,t3,t5,_,_⟩:=jP.out.rule HK.out;cases e9;have aY:=Lib.hid (fun(q:Nat)=>vU (jP.out.buf.below (below_drewN (Below.refl W3.heap.size W3) q)));have uZ:=Lib.hid (fun(q:Nat)=>ud (jP.out.buf.below (below_drewN (Below.refl W3.heap.size W3) q)));clear RQ;go_upto_region 10 with fail;rw [HW3.out];clear u1 u6 v6;go_quiet (first | (go_at_call 137;exact Calls.quiet_of (aY.out _)));go_wp2_with fail;refine(uZ.out nq).mono ?_;rintro e w4 ⟨rfl,rfl⟩;have Zb:=Lib.hid (jP.out.below (below_drewN (Below.refl W3.heap.size W3) nq));have eM:=Lib.hid (bW.out.drewN nq);have x0:(W3.drewN nq).cell? ⟨M,0,none⟩=some (.pointer (some ⟨b,0,none⟩)):=t0;have x3:(W3.drewN nq).cell? ⟨rb,ro+k*7+3,none⟩=some (.slice A2 r.source.length c2):=t3;generalize hW4:W3.drewN nq=W4 at *;have Xd:=Lib.hid (Pe (Zb.out.buf.below (aE (Below.refl W4.heap.size W4))) r.source.length hfit);clear hW4 t0 t1 t3 t5 uZ aY hgt;go_upto_region 13 with fail;refine aB (S:=fun w'=>w'.cell? ⟨M,0,none⟩=some (.pointer (some ⟨b,0,none⟩))∧w'.cell? ⟨rb,ro+k*7+3,none⟩=some (.slice A2 r.source.length c2)) [3,7] (by kernel_rfl) ⟨x0,x3⟩ (fun bt=>?_);apply tp 0 80 rfl (by kernel_rfl) (fun _ _ _ h=>h) (by rfl)
 ·intro wq _;go_simp;(try with_reducible rfl)
 (try simp only [zp,za,z0,zs]);apply tp 1 81 rfl (by kernel_rfl) (fun _ _ _ h=>h) (by rfl)
 ·intro wq _;go_simp;(try with_reducible rfl)
 (try simp only [zp,za,z0,zs]);apply tp 2 82 rfl (by kernel_rfl) (fun _ _ _ h=>h) (by rfl)
 ·intro wq _;go_simp;(try with_reducible rfl)
 (try simp only [zp,za,z0,zs]);apply tt 3 83 rfl (by kernel_rfl) (fun _ _ _ h=>h) (by rfl) (by assumption)
 ·intro wq bR;(try dsimp only at bR);go_simp;(try with_reducible rfl)
 (try simp only [zp,za,z0,zs]);apply tp 4 84 rfl (by kernel_rfl) (fun _ _ _ h=>h) (by rfl)
 ·intro wq _;go_simp;(try with_reducible rfl)
 (try simp only [zp,za,z0,zs]);apply tp 5 85 rfl (by kernel_rfl) (fun _ _ _ h=>h) (by rfl)
 ·intro wq _;go_simp;(try with_reducible rfl)
 (try simp only [zp,za,z0,zs]);apply tp 6 86 rfl (by kernel_rfl) (fun _ _ _ h=>h) (by rfl)
 ·intro wq _;go_simp;(try with_reducible rfl)
 (try simp only [zp,za,z0,zs]);apply tt 7 87 rfl (by kernel_rfl) (fun _ _ _ h=>h) (by rfl) (by assumption)
 ·intro wq bR;(try dsimp only at bR);go_simp;(try with_reducible rfl)
 (try simp only [zp,za,z0,zs]);apply tp 8 88 rfl (by kernel_rfl) (fun _ _ _ h=>h) (by rfl)
 ·intro wq _;go_simp;(try with_reducible rfl)
 (try simp only [zp,za,z0,zs]);refine aD (i:=9) (by kernel_rfl) rfl (by kernel_rfl) (fun K hK=>?_);go_simp;go_at_call 154;refine Xd.out.mono ?_;rintro e w5 ⟨rfl,rD,hkp⟩;have Uw:=Lib.hid (Zb.out.kp ((Kp.refl lo W4).drew.trans hkp) rD);have eK:=Lib.hid (eM.out.trans (Kq.kp ((Kp.refl lo W4).drew.trans hkp)));clear rD hkp Xd;(try dsimp only);refine hK.out _ _ ?_;clear hK K;(try simp only [Act.put,List.setIfInBounds_toArray,List.set_cons_zero,List.set_cons_succ]);refine aN (by kernel_rfl) ?_ _;go_simp;obtain⟨rb',ZH,B2,B4,d2,d4,e9,_,_,x5,_,hx4⟩:=Uw.out.rule HK.out;cases e9;have x0:w5.cell? ⟨M,0,none⟩=some (.pointer (some ⟨b,0,none⟩)):=Uw.out.blk.cell 0;have UX:=Lib.hid (Qk (c2:=d4) (Uw.out.buf.below (aE (Below.refl w5.heap.size w5))) r.target B4 r.target.length (hx4.keep (ag.any (aE (Below.refl _ _)))) Vk (by rw [List.length_drop];omega));clear hx4 x3;go_upto_region 14 with fail;refine aB (S:=fun w'=>w'.cell? ⟨M,0,none⟩=some (.pointer (some ⟨b,0,none⟩))∧w'.cell? ⟨rb,ro+k*7+5,none⟩=some (.slice B4 r.target.length d4)) [3,7] (by kernel_rfl) ⟨x0,x5⟩ (fun bt=>?_);apply tp 0 90 rfl (by kernel_rfl) (fun _ _ _ h=>h) (by rfl)
 ·intro wq _;go_simp;(try with_reducible rfl)
 (try simp only [zp,za,z0,zs]);apply tp 1 91 rfl (by kernel_rfl) (fun _ _ _ h=>h) (by rfl)
 ·intro wq _;go_simp;(try with_reducible rfl)
 (try simp only [zp,za,z0,zs]);apply tp 2 92 rfl (by kernel_rfl) (fun _ _ _ h=>h) (by rfl)
 ·intro wq _;go_simp;(try with_reducible rfl)
 (try simp only [zp,za,z0,zs]);apply tt 3 93 rfl (by kernel_rfl) (fun _ _ _ h=>h) (by rfl) (by assumption)
 ·intro wq bR;(try dsimp only at bR);go_simp;(try with_reducible rfl)
 (try simp only [zp,za,z0,zs]);apply tp 4 94 rfl (by kernel_rfl) (fun _ _ _ h=>h) (by rfl)
 ·intro wq _;go_simp;(try with_reducible rfl)
 (try simp only [zp,za,z0,zs]);apply tp 5 95 rfl (by kernel_rfl) (fun _ _ _ h=>h) (by rfl)
 ·intro wq _;go_simp;(try with_reducible rfl)
 (try simp only [zp,za,z0,zs]);apply tp 6 96 rfl (by kernel_rfl) (fun _ _ _ h=>h) (by rfl)
 ·intro wq _;go_simp;(try with_reducible rfl)
 (try simp only [zp,za,z0,zs]);apply tt 7 97 rfl (by kernel_rfl) (fun _ _ _ h=>h) (by rfl) (by assumption)
 ·intro wq bR;(try dsimp only at bR);go_simp;(try with_reducible rfl)
 (try simp only [zp,za,z0,zs]);refine aD (i:=8) (by kernel_rfl) rfl (by kernel_rfl) (fun K hK=>?_);go_simp;go_at_call 155;refine UX.out.mono ?_;rintro e w6 ⟨rfl,rD,hkp⟩;have Uf:=Lib.hid (Uw.out.kp ((Kp.refl lo w5).drew.trans hkp) rD);have iS:=Lib.hid (eK.out.trans (Kq.kp ((Kp.refl lo w5).drew.trans hkp)));clear rD hkp UX;(try dsimp only);refine hK.out _ _ ?_;clear hK K;(try simp only [Act.put,List.setIfInBounds_toArray,List.set_cons_zero,List.set_cons_succ]);refine aN (by kernel_rfl) ?_ _;go_simp;obtain⟨rb',ZH,C2,C4,g2,g4,e9,_,_,_,x6,_⟩:=Uf.out.rule HK.out;cases e9;have x0:w6.cell? ⟨M,0,none⟩=some (.pointer (some ⟨b,0,none⟩)):=Uf.out.blk.cell 0;obtain⟨cu,XF⟩:∃ cu:Nat,r.aa=(cu:Int):=⟨r.aa.toNat,by omega⟩;have vN:=Lib.hid (show Calls Tryz.prog 153 #[.pointer (some ⟨b,0,none⟩),.int .i64 ((A.length:Int)+r.aa)] w6.drew _ by
  have:=DE (Uf.out.buf.below (aE (Below.refl w6.heap.size w6))) (A.length+r.aa.toNat) (by rw [List.length_append,List.length_drop];omega);rwa [show((A.length+r.aa.toNat:Nat):Int)=(A.length:Int)+r.aa by omega]at this)
 clear x5 XF;go_upto_region 15 with fail;refine aB (S:=fun w'=>w'.cell? ⟨M,0,none⟩=some (.pointer (some ⟨b,0,none⟩))∧w'.cell? ⟨rb,ro+k*7+6,none⟩=some (.int .i64 r.aa)) [3,8] (by kernel_rfl) ⟨x0,x6⟩ (fun bt=>?_);apply tp 0 99 rfl (by kernel_rfl) (fun _ _ _ h=>h) (by rfl)
 ·intro wq _;go_simp;(try with_reducible rfl)
 (try simp only [zp,za,z0,zs]);apply tp 1 100 rfl (by kernel_rfl) (fun _ _ _ h=>h) (by rfl)
 ·intro wq _;go_simp;(try with_reducible rfl)
 (try simp only [zp,za,z0,zs]);apply tp 2 101 rfl (by kernel_rfl) (fun _ _ _ h=>h) (by rfl)
 ·intro wq _;go_simp;(try with_reducible rfl)
 (try simp only [zp,za,z0,zs]);apply tt 3 102 rfl (by kernel_rfl) (fun _ _ _ h=>h) (by rfl) (by assumption)
 ·intro wq bR;(try dsimp only at bR);go_simp;(try with_reducible rfl)
 (try simp only [zp,za,z0,zs]);apply tp 4 103 rfl (by kernel_rfl) (fun _ _ _ h=>h) (by rfl)
 ·intro wq _;go_simp;(try with_reducible rfl)
 (try simp only [zp,za,z0,zs]);apply tp 5 104 rfl (by kernel_rfl) (fun _ _ _ h=>h) (by rfl)
 ·intro wq _;go_simp;(try with_reducible rfl)
 (try simp only [zp,za,z0,zs]);apply tp 6 105 rfl (by kernel_rfl) (fun _ _ _ h=>h) (by rfl)
 ·intro wq _;go_simp;(try with_reducible rfl)
 (try simp only [zp,za,z0,zs]);apply tp 7 106 rfl (by kernel_rfl) (fun _ _ _ h=>h) (by rfl)
 ·intro wq _;go_simp;(try with_reducible rfl)
 (try simp only [zp,za,z0,zs]);apply tt 8 107 rfl (by kernel_rfl) (fun _ _ _ h=>h) (by rfl) (by assumption)
 ·intro wq bR;(try dsimp only at bR);go_simp;(try with_reducible rfl)
 (try simp only [zp,za,z0,zs]);apply tp 9 108 rfl (by kernel_rfl) (fun _ _ _ h=>h) (by rfl)
 ·intro wq _;go_simp;(try with_reducible rfl)
 (try simp only [zp,za,z0,zs]);refine aD (i:=10) (by kernel_rfl) rfl (by kernel_rfl) (fun K hK=>?_);go_simp;go_at_call 153;refine vN.out.mono ?_;rintro e w7 ⟨rfl,rD,hkp⟩;have ZT:=Lib.hid (Uf.out.kp ((Kp.refl lo w6).drew.trans hkp) rD);have mW:=Lib.hid (iS.out.trans (Kq.kp ((Kp.refl lo w6).drew.trans hkp)));clear rD hkp vN;(try dsimp only);refine hK.out _ _ ?_;clear hK K;(try simp only [Act.put,List.setIfInBounds_toArray,List.set_cons_zero,List.set_cons_succ]);refine aN (by kernel_rfl) ?_ _;go_simp;go_wp2_with fail;go_ret2;exact⟨rfl,ZT.out,mW.out⟩
theorem Lk {lo:Nat} {w:World} {M b:Nat} {A Z:List Int} {l:List au} {hs:List bF} {Ar:Option Addr} {nr cr:Nat} {Ah:Option Addr} {nh ch:Nat} {eD s p:Nat} (h:dm lo w M b A Z l hs Ar nr cr Ah nh ch eD s p) (z:Int) (Z':List Int) (hZ:Z=z::Z') (x:Int) (hx:(A++Z)[A.length]? = some x) (hx0:0≤x∧x≤1114111) (hT:(A++Z).length≤4000) (OU:nh≤400) (qs:gx l hs 1114112) (hR:∀ r∈l,gS r) (hlen:l.length≤200) (ya:eD≤100000)  (hs1:s<eD) (th:gD l (A++Z) A.length = -1) :
    Calls Tryz.prog 138 #[.pointer (some ⟨M,0,none⟩)] w fun e w'=>e=.returned (.tuple #[.int .i64 (-1),.int .i64 0])∧dm lo w' M b (A++[z]) Z' l hs Ar nr cr Ah nh ch eD ((s:Int)+1) p∧Below lo w w' :=
  (Eu h z Z' hZ x hx hx0 hT OU qs hR hlen ya hs1 th).mono fun _ _ ⟨e,h1,h2⟩=>⟨e,h1,h2.below⟩
theorem JU {lo:Nat} {w:World} {M b:Nat} {A Z:List Int} {l:List au} {hs:List bF} {Ar:Option Addr} {nr cr:Nat} {Ah:Option Addr} {nh ch:Nat} {eD s p:Nat} (h:dm lo w M b A Z l hs Ar nr cr Ah nh ch eD s p) (k:Nat) (r:au) (hk:l[k]? = some r) (x:Int) (hx:(A++Z)[A.length]? = some x) (hx0:0≤x∧x≤1114111) (hT:(A++Z).length≤4000) (OU:nh≤400) (qs:gx l hs 1114112) (hR:∀ r∈l,gS r) (hlen:l.length≤200) (ya:eD≤100000)  (hpb:p≤100000) (hs1:s<eD) (th:gD l (A++Z) A.length=(k:Int)) (hfit:r.source.length≤Z.length) (wZ:A.length+Z.length+r.target.length≤4000+r.source.length) :
    Calls Tryz.prog 138 #[.pointer (some ⟨M,0,none⟩)] w fun e w'=>e=.returned (.tuple #[.int .i64 k,.int .i64 0]) ∧
      dm lo w' M b ((A++r.target++Z.drop r.source.length).take (A.length+r.aa.toNat)) ((A++r.target++Z.drop r.source.length).drop (A.length+r.aa.toNat)) l hs Ar nr cr Ah nh ch eD ((s:Int)+1) ((p:Int)+1)∧Below lo w w' :=
  (E3 h k r hk x hx hx0 hT OU qs hR hlen ya hpb hs1 th hfit wZ).mono fun _ _ ⟨e,h1,h2⟩=>⟨e,h1,h2.below⟩
end Go.Proofs.YtapechjebkjidaaGreatDoor
