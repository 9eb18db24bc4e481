/- ChainAll + RefRunAll + ChainGoAll + AlignP + Sure + StreamP + UndoneP -/
import Derived.Test.YtkggjgeihhialaaGreatDoorZu34
import Derived.Test.YtkggjgeihhialaaGreatDoorZu27
import Derived.BigRegion
import Derived.Deep.RegionWith
set_option maxHeartbeats 12800000
set_option maxRecDepth 100000
namespace Go.Proofs.YtkggjgeihhialaaGreatDoor
open Go.RowKit
theorem tf (l:List ai):∀ (left:Nat) (done rest:List Int) (s p:Nat),done.length+rest.length≤4000→(bK l left done rest s p).1.text.length≤4000:=by
 intro left;induction left with
 | zero=>
  intro done rest s p h;cases rest with
  | nil=>simpa [iZ] using h
  | cons z rest=>exact Nat.zero_le _
 | succ left ih=>
  intro done rest s p h;cases rest with
  | nil=>simpa [iZ] using h
  | cons z rest=>
   rw [bK];split
   ·refine ih _ _ _ _ ?_;simp only [List.length_append,List.length_cons,List.length_nil]at h ⊢;omega
   split;exact Nat.zero_le _;split;exact Nat.zero_le _;rename_i hm;refine ih _ _ _ _ ?_;rw [List.length_append,Nat.add_assoc,← List.length_append,List.take_append_drop];omega
theorem nE {t:List Int} (h:dW t=0):t.length≤4000:=by
 unfold dW at h;by_cases h4:4000<t.length
 ·rw [if_pos h4]at h;cases h
 omega
theorem EB (l:List ai) (t:List Int):(iB l t).1.text.length≤4000:=by
 unfold iB;split;exact Nat.zero_le _;split;exact Nat.zero_le _;rename_i h;split;exact Nat.zero_le _;unfold jK;split;exact Nat.zero_le _;exact tf l _ _ _ _ _ (by have:=nE (t:=t) (by omega);simpa using this)
theorem wH (p:cL) {l:List Int} (h:l.length≤4000):(iX p l).1.length≤4000:=by
 unfold iX;split
 ·simpa using h
 split
 ·simpa using h
 split;exact Nat.zero_le _;split;exact h;exact EB _ _
def allI:Nat→List cL→List Int→List Int × (Int × Int)
  | _,[],l=>(l,(0,0))
  | k,p::ps,l=>if (iX p l).2≠0 then ([],((iX p l).2,(k:Int)))else allI (k+1) ps (iX p l).1
theorem wm:∀ (ps:List cL) (k:Nat) (l:List Int),l.length≤4000→(allI k ps l).1.length≤4000:=by
 intro ps;induction ps with
 | nil=>intro k l h;exact h
 | cons p ps ih=>
  intro k l h;rw [allI];split;exact Nat.zero_le _;exact ih _ _ (wH p h)
def OR (Y:Nat→Prop) (lo:Nat) (w':World) (o:List Int × (Int × Int)) (e:Ending):Prop :=
  ∃ (A:Option Addr) (n c:Nat),e=.returned (.tuple #[.slice A n c,.agg #[.int .i64 o.2.1,.int .i64 o.2.2]])∧cE w' (fun b=>Y b∨lo≤b) 1 A n (runeCells o.1)
def Vi (w:World) (Y:Nat→Prop) (s:bV) (l:List Int) (n2:Nat) (s1 i:Value) (wr:World):Prop :=
  ∃ (k:Nat) (l':List Int) (A:Option Addr) (n c:Nat),k≤n2∧i=.int .i64 k∧s1=.slice A n c∧cE wr (fun b=>Y b∨w.heap.size≤b) 1 A n (runeCells l')∧cE wr (fun b=>(Y b∨w.heap.size≤b)∧b≠w.heap.size) 1 A n (runeCells l')∧l'.length≤4000∧allI 0 s.passes l=allI k (s.passes.drop k) l'∧aj wr w.heap.size 38 #[.int .i64 0,.int .i64 0]∧Below w.heap.size w wr
theorem yW (X Y:Nat→Prop) (s:bV) (b0:Nat) (A1 A2 A:Option Addr) (n1 n2 c2 n c:Nat) (l:List Int) (w:World) (hs:iH w X s A1 n1 A2 n2) (h0:w.cell? ⟨b0,2,none⟩=some (.slice A2 n2 c2)) (hb0:b0<w.heap.size) (TK:l.length≤4000) (hl:cE w Y 1 A n (runeCells l)) :
    Calls Tryz.prog 19 #[.pointer (some ⟨b0,0,none⟩),.slice A n c] w fun e w'=>OR Y w.heap.size w' (allI 0 s.passes l) e∧Below w.heap.size w w':=by
 have hm2:=hs.m2;have hba:=(Below.refl w.heap.size w).alloc (Nat.le_refl _) (.cells #[.int .i64 0,.int .i64 0] 38);have d2:(w.alloc (.cells #[.int .i64 0,.int .i64 0] 38)).cell? ⟨b0,2,none⟩=some (.slice A2 n2 c2):=(hba.cell (p:=⟨b0,2,none⟩) hb0).trans h0;have aQ:=qqh (show s.passes.length=n2 from hs.pas.len);have HS:=qqh hs;have rN:=qqh (aj.new w 38 #[.int .i64 0,.int .i64 0]);have dY:=qqh hba;have QY:=qqh (hl.keep (X':=fun b=>Y b∨w.heap.size≤b) (aa.below hba (fun _ h _=>.inl h)));have Ki:=qqh (hl.keep (X':=fun b=>(Y b∨w.heap.size≤b)∧b≠w.heap.size) (aa.below hba (fun b h hl=>⟨.inl h,by omega⟩)));have QF:=qqh TK;clear hs hba hl h0;simp only [maxLen]at hm2;go_enter Tryz.func19,Tryz.ntmps19;go_wp2_with fail;go_loopw [1,14] (Vi w Y s l n2) (fun _ i _=>n2 - (intOf i).toNat);(case atStart=>exact⟨0,l,A,n,c,Nat.zero_le _,rfl,rfl,QY.out,Ki.out,QF.out,rfl,rN.out,dY.out⟩);obtain⟨k,l',A',n',c',hk,rfl,rfl,hl,hl',acg,aV,hf,hb⟩:=hrel;have hz:=hb.size;have Zy:=hl.1;rw [runeCells_length]at Zy;by_cases hlt:k<n2
 ·obtain⟨p,hp⟩:∃ z,s.passes[k]? = some z:=⟨_,List.getElem?_eq_getElem (by rw [aQ.out];exact hlt)⟩;obtain⟨b,off,Ar,nr,cr,rfl,_,cH,e0,e1,hr,zk⟩:=qZ (HS.out.pas.keep (aa.any hb) (fun _ _=>dr.keep (aa.any hb))) hp;rw [cW hp,allI]at aV;have dO:=qqh aV;have hba:=(Below.refl wr.heap.size wr).alloc (Nat.le_refl _) (.cells #[.string p.name,.slice Ar nr cr] 32);have eZ:=qqh (hf.alloc (.cells #[.string p.name,.slice Ar nr cr] 32));have bD:=qqh (hb.trans (hba.mono hz));have HP:=qqh (aj.new wr 32 #[.string p.name,.slice Ar nr cr]);have HM:=qqh (Fq X (fun b=>(Y b∨w.heap.size≤b)∧b≠w.heap.size) p Ar A' nr cr n' c' l' (wr.alloc (.cells #[.string p.name,.slice Ar nr cr] 32)) zk (hr.keep (aa.any hba) (fun _ _=>aL.keep (aa.any hba))) (by omega) (hl'.keep (aa.any hba)));have G6:=qqh (wH p acg);clear aV hr hf hb hba hp hl hl';go_upto_region 4 with fail;generalize hW:wr.alloc (.cells #[.string p.name,.slice Ar nr cr] 32)=W at *;have hwz:wr.heap.size<W.heap.size:=HP.out.lt;clear hW e0 e1;have p0:W.cell? ⟨wr.heap.size,0,none⟩=some (.string p.name):=HP.out.cell 0;have p1:W.cell? ⟨wr.heap.size,1,none⟩=some (.slice Ar nr cr):=HP.out.cell 1;go_wp2_with fail;refine HM.out.mono ?_;rintro e w3 ⟨⟨A3,n3,c3,rfl,kH⟩,bL⟩;have hwW:=eZ.out.lt;have xH:=qqh (kH.keep (X':=fun b=>Y b∨w.heap.size≤b) (aa.refl (fun b h=>by rcases h with h | h;exact h.1;exact .inr (by omega))));have Q8:=qqh (kH.keep (X':=fun b=>(Y b∨w.heap.size≤b)∧b≠w.heap.size) (aa.refl (fun b h=>by rcases h with h | h;exact h;exact⟨.inr (by omega),by omega⟩)));have eD:=qqh (aj.below eZ.out bL eZ.out.lt);have bG:=qqh (bD.out.trans (bL.mono bD.out.size));have y0:=eD.out.cell 0
  have y1:=eD.out.cell 1;have g0:=eD.out.frozen 0;have g1:=eD.out.frozen 1;obtain⟨x,f,hx⟩:∃ x f,iX p l'=(x,f):=⟨_,_,rfl⟩;rw [hx]at dO G6 xH Q8 ⊢;dsimp only at dO G6 xH Q8 ⊢;clear bL kH p0 p1 HM hx;by_cases hf0:f=0
  ·subst hf0;have HG:=qqh (dO.out.trans (if_neg (fun h=>h rfl)));go_wp2_with fail;exact⟨⟨k+1,x,A3,n3,c3,by omega,by go_num,rfl,xH.out,Q8.out,G6.out,HG.out,eD.out,bG.out⟩,by simp [intOf];omega⟩
  have HG:=qqh (dO.out.trans (if_pos hf0));go_wp2_with fail;rw [HG.out];exact bodyPost_ret (v:=.tuple #[.slice none 0 0,.agg #[.int .i64 f,.int .i64 k]]) (by simp [results,Tryz.results19,go_sem,y0,y1]) rfl ⟨⟨none,0,0,rfl,⟨rfl,fun h=>absurd h (Nat.lt_irrefl 0)⟩⟩,(bG.out.setCell (by simp) _).setCell (by simp) _⟩
 obtain rfl:k=n2:=(by omega);rw [List.drop_of_length_le (by rw [aQ.out];exact Nat.le_refl _),allI]at aV;have HG:=qqh aV;have y0:=hf.cell 0;have y1:=hf.cell 1;have g0:=hf.frozen 0;have g1:=hf.frozen 1;have HR:=qqh ((hl'.keep (aa.setCell (X':=fun b=>(Y b∨w.heap.size≤b)∧b≠w.heap.size) (p:=⟨w.heap.size,0,none⟩) (.int .i64 0) (fun b h=>h.2) (fun _ h _=>h))).keep (aa.setCell (X':=fun b=>Y b∨w.heap.size≤b) (p:=⟨w.heap.size,1,none⟩) (.int .i64 0) (fun b h=>h.2) (fun _ h _=>h.1)));have HB:=qqh hb;clear aV hl hl' hf hb;go_wp2_with fail;rw [HG.out];exact bodyPost_ret (v:=.tuple #[.slice A' n' c',.agg #[.int .i64 0,.int .i64 0]]) (by simp [results,Tryz.results19,go_sem,y0,y1]) rfl ⟨⟨A',n',c',rfl,HR.out⟩,(HB.out.setCell (by simp) _).setCell (by simp) _⟩
def mS (l:List ai) (t:List Int):Int × Int:=if (b8 l).1≠0 then b8 l else (dW t,0)
def cJ (l:List ai) (t:List Int):Cf × (Int × Int):=if (mS l t).1≠0 then (fo,mS l t)else jK (bK l (8*t.length+40) [] t 0 0)
theorem qT {w:World} {X:Nat→Prop} {A:Option Addr} {n k:Nat} {xs:List Value} (h:cE w X 1 A n xs) (hk:k≤n):cE w X 1 A k (xs.take k):=by
 refine⟨by rw [List.length_take,h.1];omega,fun h0=>?_⟩;obtain⟨b,off,e,hx,hl,hc⟩:=h.2 (by omega);refine⟨b,off,e,hx,hl,fun j u hu=>hc j u ?_⟩;rw [List.getElem?_take]at hu;split at hu;exact hu;cases hu
theorem vG {w:World} {X:Nat→Prop} {b off n k:Nat} {xs:List Value} (h:cE w X 1 (some ⟨b,off,none⟩) n xs) (hk:k≤n):cE w X 1 (some ⟨b,off+k,none⟩) (n - k) (xs.drop k):=by
 refine⟨by rw [List.length_drop,h.1];omega,fun h0=>?_⟩;obtain⟨b',off',e,hx,hl,hc⟩:=h.2 (by omega);cases e;refine⟨b,off+k,rfl,hx,hl,fun j u hu=>?_⟩;rw [List.getElem?_drop]at hu;have:=hc _ u hu;rwa [← Nat.add_assoc]at this
theorem kB (E:List Int) (k:Nat):(runeCells E).drop k=runeCells (E.drop k):=by simp [runeCells]
theorem iC (E:List Int) (k:Nat):(runeCells E).take k=runeCells (E.take k):=by simp [runeCells]
def Wu (lo M:Nat) (v:Value) (b:Nat):Prop:=lo≤b∧b≠M∧v.ownBlock≠some b
structure DG (w:World) (M:Nat) (s8:Value) (done:List Int) (nd:Nat) (b9 o9 nz:Nat) (rest:List Int) (st pt:Int) (wr:World):Prop where
  own:wr.ownsRow w.heap.size 21 1 s8 nd (runeCells done)
  rd:cE wr (Wu w.heap.size M s8) 1 (some ⟨b9,o9,none⟩) nz (runeCells rest)
  out:aj wr M 51 #[.slice none 0 0,.int .i64 st,.int .i64 pt]
  r4:aj wr w.heap.size 51 #[.slice none 0 0,.int .i64 0,.int .i64 0]
  r5:aj wr (w.heap.size+1) 38 #[.int .i64 0,.int .i64 0]
  below:Below w.heap.size w wr
  dl:done.length=nd
  ml:w.heap.size+1<M
section
variable {w wr w' : World} {M nd b9 o9 nz : Nat} {s8 : Value} {done rest : List Int} {st pt : Int}
theorem DG.aY (h:DG w M s8 done nd b9 o9 nz rest st pt wr):∀ b,s8.ownBlock=some b→b<wr.heap.size:=fun _ hb=>(Go.Proofs.YtkggjgeihhialaaGreatDoor.aY h.own hb).2
theorem DG.set (h:DG w M s8 done nd b9 o9 nz rest st pt wr) (i:Nat) (u:Value) {st' pt':Int} (he:(#[.slice none 0 0,.int .i64 st,.int .i64 pt]:Array Value).setIfInBounds i u = #[.slice none 0 0,.int .i64 st',.int .i64 pt']) :
    DG w M s8 done nd b9 o9 nz rest st' pt' (wr.setCell ⟨M,i,none⟩ u) :=
  ⟨gi h.own h.out (by decide),h.rd.keep (aa.setCell u (fun b hb=>hb.2.1) (fun _ hb _=>hb)),by rw [← he];exact h.out.put i u,
    (by have:=h.ml;exact(Below.heap_setCell _ _ _ _ (by simp only;omega)).trans h.r4),(by have:=h.ml;exact(Below.heap_setCell _ _ _ _ (by simp only;omega)).trans h.r5),h.below.setCell (by have:=h.ml;simp only;omega) u,h.dl,h.ml⟩
end
theorem LL {l:List ai} {t:List Int} (h:(mS l t).1=0):(b8 l).1=0∧dW t=0:=by
 unfold mS at h;by_cases h2:(b8 l).1≠0
 ·rw [if_pos h2]at h;exact absurd h h2
 rw [if_neg h2]at h;exact⟨by omega,h⟩
def sO (lo:Nat) (w':World) (o:Cf × (Int × Int)) (e:Ending):Prop :=
  ∃ (A:Option Addr) (n c:Nat),e=.returned (.tuple #[.agg #[.slice A n c,.int .i64 o.1.steps,.int .i64 o.1.put],.agg #[.int .i64 o.2.1,.int .i64 o.2.2]])∧cE w' (fun b=>lo≤b) 1 A n (runeCells o.1.text)∧n≤c
def tU (s:bV) (x:Int):Bool:=!s.only? || bf s.only x
def jC (s:bV) (pc out:List Int):List Int × (Int × Int) :=
  if pc = []then (out,(0,0))else if (allI 0 s.passes pc).2.1≠0 then ([],(allI 0 s.passes pc).2)else (out++(allI 0 s.passes pc).1,(0,0))
def oH (s:bV):List Int→List Int→List Int→List Int × (Int × Int)
  | [],pc,out=>jC s pc out
  | x::t,pc,out=>if tU s x=true then oH s t (pc++[x]) out else if (jC s pc out).2.1≠0 then ([],(jC s pc out).2)else oH s t [] ((jC s pc out).1++[x])
def P9 (s:bV) (t:List Int):List Int × (Int × Int) :=
  if (di s).1≠0 then ([],di s)else if dW t≠0 then ([],(dW t,0))else if (oH s t [] []).2.1≠0 then ([],(oH s t [] []).2)else if 4000<(oH s t [] []).1.length then ([],(4,(s.passes.length:Int)))else ((oH s t [] []).1,(0,0))
theorem Ls {s:bV} {x:Int} {t pc out:List Int} (h:tU s x=true):oH s (x::t) pc out=oH s t (pc++[x]) out:=by rw [oH,if_pos h]
theorem rQ (s:bV) (out:List Int):jC s [] out=(out,(0,0)):=by rw [jC,if_pos rfl]
theorem CK {s:bV} {pc out x:List Int} {f:Int} (hp:pc ≠ []) (h:allI 0 s.passes pc=(x,(0,f))):jC s pc out=(out++x,(0,0)):=by
 rw [jC,if_neg hp,h,if_neg (fun h=>h rfl)]
theorem yR {s:bV} {pc out x:List Int} {e f:Int} (hp:pc ≠ []) (h:allI 0 s.passes pc=(x,(e,f))) (he:e≠0):jC s pc out=([],(e,f)):=by
 rw [jC,if_neg hp,h,if_pos he]
theorem Gq {s:bV} {x:Int} {t pc out o2:List Int} (h:tU s x=false) (hf:jC s pc out=(o2,(0,0))):oH s (x::t) pc out=oH s t [] (o2++[x]):=by
 rw [oH,if_neg (by rw [h];decide),hf,if_neg (fun h=>h rfl)]
theorem On {s:bV} {t pc out:List Int} {e f:Int} (h:∀ x t',t=x::t'→tU s x=false) (hf:jC s pc out=([],(e,f))) (he:e≠0):oH s t pc out=([],(e,f)):=by
 cases t with
 | nil=>exact hf
 | cons x t=>rw [oH,if_neg (by rw [h x t rfl];decide),hf,if_pos he]
theorem zY {s:bV} (h:(di s).1=0) (ho:s.only? = true):aF s.only:=by
 unfold di at h;by_cases hz:bC s.only=0;exact i6 hz;rw [if_pos ⟨ho,hz⟩]at h;exact absurd h hz
theorem th (b o n c:Nat) (l:List Int) (w:World) (hn:n≤1000000) (hl:lX w w.heap.size (some ⟨b,o,none⟩) n l) :
    Calls Tryz.prog 20 #[.slice (some ⟨b,o,none⟩) n c] w fun e w'=>(∃ v,e=.returned v∧w'.ownsRow w.heap.size 21 1 v n (runeCells l))∧Below w.heap.size w w':=by
 obtain⟨i0,hi,z0,z1,z2⟩:=info_parts Tryz.info21;have hba:=(Below.refl w.heap.size w).alloc (Nat.le_refl _) (.cells #[] 21);have vu:=qqh hba;have PU:=qqh (om w 21 1 w.heap.size w.heap.size rfl (Nat.le_refl _));have HL:=qqh (Rd.below hl hba);have hnil:∀ W:World,(binOp .eql 33 (.slice (some ⟨b,o,none⟩) n c) (.slice none 0 0)).run Tryz.prog W=.ok (.bool false) W:=fun _=>(by kernel_rfl);clear hba hl;go_enter Tryz.func20,Tryz.ntmps20;go_wp2_with (at_builtin;refine ak _ rfl (.tmp 5) (.tmp 6) 33 rfl w.heap.size 21 i0 _ 1 4 Tryz.underlying33 hi z0 z1 z2 rfl (by decide) _ _ _ rfl PU.out _ (some ⟨b,o,none⟩) n c (runeCells l) rfl HL.out (bl _) (by simp only [maxLen];omega) (by omega) (by simp) ?_);intro v1 w1 au;have HO:=qqh (show w1.ownsRow w.heap.size 21 1 v1 n (runeCells l) by have:=au.own;simpa using this);have HB:=qqh (vu.out.trans (au.below (by simp) PU.out));clear au;go_wp2_with fail;go_ret;exact⟨⟨_,rfl,HO.out⟩,HB.out⟩
def Fl (lo:Nat) (w':World) (o:List Int × (Int × Int)) (e:Ending):Prop :=
  ∃ (A:Option Addr) (n c:Nat),e=.returned (.tuple #[.slice A n c,.agg #[.int .i64 o.2.1,.int .i64 o.2.2]])∧cE w' (fun b=>lo≤b) 1 A n (runeCells o.1)
structure AN (w:World) (cs:Array Value) (s8:Value) (out:List Int) (no:Nat) (wr:World):Prop where
  own:wr.ownsRow w.heap.size 21 1 s8 no (runeCells out)
  len:out.length=no
  scr:aj wr w.heap.size 27 cs
  fau:aj wr (w.heap.size+1) 38 #[.int .i64 0,.int .i64 0]
  below:Below w.heap.size w wr
theorem AN.go {w wr w':World} {cs:Array Value} {s8:Value} {out:List Int} {no:Nat} (h:AN w cs s8 out no wr) (hb:Below wr.heap.size wr w'):AN w cs s8 out no w' :=
  ⟨cC h.own hb,h.len,aj.below h.scr hb h.scr.lt,aj.below h.fau hb h.fau.lt,h.below.trans (hb.mono h.below.size)⟩
theorem AN.push {w wr w':World} {cs:Array Value} {s8 v:Value} {out E:List Int} {no m:Nat} (h:AN w cs s8 out no wr) (hE:E.length=m) (au:aX w.heap.size 21 1 s8 wr (no+m) (runeCells out++runeCells E) v w'):AN w cs v (out++E) (no+m) w' :=
  ⟨by rw [ef];exact au.own,by rw [List.length_append,h.len,hE],cm h.scr h.own (by decide) au,cm h.fau h.own (by decide) au,h.below.trans (au.below h.below.size h.own)⟩
def UR (w:World) (s:bV) (t:List Int) (cs:Array Value) (nt:Nat) (s8 s9:Value) (wr:World):Prop :=
  ∃ (at_ no:Nat) (out:List Int),at_≤nt∧s9=.int .i64 at_∧no≤4001*at_∧oH s t [] [] = oH s (t.drop at_) [] out∧AN w cs s8 out no wr
def Ub (w1:World) (s:bV) (t out:List Int) (at_ nt:Nat) (i:Value) (wr:World):Prop :=
  ∃ j:Nat,at_+j≤nt∧i=.int .i64 (at_+j:Nat)∧oH s (t.drop at_) [] out=oH s (t.drop (at_+j)) ((t.drop at_).take j) out∧Below w1.heap.size w1 wr
theorem Om {t:List Int} {at_ j:Nat} {x:Int} (h:t[at_+j]? = some x):(t.drop at_).take j++[x] =(t.drop at_).take (j+1):=by
 rw [List.take_add_one,List.getElem?_drop,h];rfl
theorem Ic {t:List Int} {at_ j nt:Nat} (h:at_+j≤nt) (ht:t.length=nt):((t.drop at_).take j).length=j:=by rw [List.length_take,List.length_drop];omega
theorem KI (X:Nat→Prop) (s:bV) (t:List Int) (A1 A2 At:Option Addr) (n1 c1 n2 c2 nt ct:Nat) (w:World) (hs:iH w X s A1 n1 A2 n2) (hnc:nt≤ct) (hnt:nt≤maxLen) (ht:lX w w.heap.size At nt t) :
    Calls Tryz.prog 8 #[.agg #[.bool s.only?,.slice A1 n1 c1,.slice A2 n2 c2],.slice At nt ct] w fun e w'=>Fl w.heap.size w' (P9 s t) e∧Below w.heap.size w w':=by
 obtain⟨i0,hi,z0,z1,z2⟩:=info_parts Tryz.info21;have htl:=ht.len;have hb0:=((Below.refl w.heap.size w).alloc (Nat.le_refl _) (.cells #[.bool s.only?,.slice A1 n1 c1,.slice A2 n2 c2] 27)).alloc (by simp) (.cells #[.int .i64 0,.int .i64 0] 38);have BK:=qqh (aj.alloc (aj.new w 27 #[.bool s.only?,.slice A1 n1 c1,.slice A2 n2 c2]) (.cells #[.int .i64 0,.int .i64 0] 38));have FL:=qqh (show aj ((w.alloc (.cells #[.bool s.only?,.slice A1 n1 c1,.slice A2 n2 c2] 27)).alloc (.cells #[.int .i64 0,.int .i64 0] 38)) (w.heap.size+1) 38 #[.int .i64 0,.int .i64 0] by
  have:=aj.new (w.alloc (.cells #[.bool s.only?,.slice A1 n1 c1,.slice A2 n2 c2] 27)) 38 #[.int .i64 0,.int .i64 0];simpa using this)
 have dY:=qqh hb0;have Y8:=qqh (fun(W:World) (hb:Below w.heap.size w W)=>show iH W X s A1 n1 A2 n2 from hs.keep (aa.any hb));have Ay:=qqh (fun(W:World) (hb:Below w.heap.size w W)=>show lX W W.heap.size At nt t from(Rd.below ht hb).more hb.size);have Y5:=qqh ht;have sV:=qqh (show s.passes.length=n2 from hs.pas.len);have hm2:=hs.m2;clear hb0 hs ht;go_enter Tryz.func8,Tryz.ntmps8;go_upto_region 1 with fail;generalize (w.alloc (.cells #[.bool s.only?,.slice A1 n1 c1,.slice A2 n2 c2] 27)).alloc (.cells #[.int .i64 0,.int .i64 0] 38)=W0 at *;have HW:=qqh (Dl X s A1 A2 n1 c1 n2 c2 W0 (Y8.out W0 dY.out));have x0:W0.cell? ⟨w.heap.size,0,none⟩=some (.bool s.only?):=BK.out.cell 0;have x1:W0.cell? ⟨w.heap.size,1,none⟩=some (.slice A1 n1 c1):=BK.out.cell 1;have x2:W0.cell? ⟨w.heap.size,2,none⟩=some (.slice A2 n2 c2):=BK.out.cell 2;go_wp2_with fail;refine HW.out.mono ?_;rintro e w1 ⟨rfl,aR⟩;have sN:=qqh (aj.below BK.out aR BK.out.lt);have Ax:=qqh (aj.below FL.out aR FL.out.lt);have bJ:=qqh (dY.out.trans (aR.mono dY.out.size));clear aR HW BK FL dY x0 x1 x2;obtain⟨r1,r2,hR⟩:∃ r1 r2,di s=(r1,r2):=⟨_,_,rfl⟩;have qo:=qqh (fun(h:r1=0) (ho:s.only? = true)=>zY (s:=s) (by rw [hR];exact h) ho);have Zw:=qqh (show P9 s t=if r1≠0 then ([],(r1,r2))else if dW t≠0 then ([],(dW t,0))else if (oH s t [] []).2.1≠0 then ([],(oH s t [] []).2)else if 4000<(oH s t [] []).1.length then ([],(4,(s.passes.length:Int)))else ((oH s t [] []).1,(0,0)) by unfold P9;rw [hR]);rw [hR];dsimp only;clear hR;have hw1:=Ax.out.lt;have DR:=qqh (sN.out.alloc (.cells #[.int .i64 r1,.int .i64 r2] 38))
 have Fa:=qqh (Ax.out.alloc (.cells #[.int .i64 r1,.int .i64 r2] 38));have HQ2:=qqh (aj.new w1 38 #[.int .i64 r1,.int .i64 r2]);have bD:=qqh (bJ.out.alloc bJ.out.size (.cells #[.int .i64 r1,.int .i64 r2] 38));go_upto_region 2 with fail;clear sN Ax bJ;generalize hW2:w1.alloc (.cells #[.int .i64 r1,.int .i64 r2] 38)=W2 at *;clear hW2;have z0':=HQ2.out.cell 0;have z1':=HQ2.out.cell 1;by_cases hz:r1=0
 ·subst hz;have Og:=qqh (Zw.out.trans (if_neg (fun h=>h rfl)));have P0:=qqh (qg At nt ct t W2 hnt (Ay.out W2 bD.out));go_wp2_with fail;refine P0.out.mono ?_;rintro e w3 ⟨rfl,bL⟩;have Iz:=qqh (aj.below DR.out bL DR.out.lt);have BH:=qqh (aj.below Fa.out bL Fa.out.lt);have bG:=qqh (bD.out.trans (bL.mono bD.out.size));clear bL P0 DR Fa bD HQ2 Zw z0' z1';obtain⟨tp,xC⟩:∃ tp,dW t=tp:=⟨_,rfl⟩;have HTS:=qqh (fun(h:tp=0)=>nE (t:=t) (by rw [xC];exact h));rw [xC]at Og ⊢;clear xC;by_cases hz:tp=0
  ·subst hz;have O3:=qqh (Og.out.trans (if_neg (fun h=>h rfl)));have UL:nt≤4000:=(by have:=HTS.out rfl;omega);generalize hcs:(#[.bool s.only?,.slice A1 n1 c1,.slice A2 n2 c2]:Array Value)=cs at *;have E3:=qqh (show cs[0]? = some (.bool s.only?)∧cs[1]? = some (.slice A1 n1 c1)∧cs[2]? = some (.slice A2 n2 c2) by subst hcs;exact⟨rfl,rfl,rfl⟩);have Vf:=qqh (show AN w cs (.slice none 0 0) [] 0 w3 from⟨World.ownsRow_nil _ _ _ _,rfl,Iz.out,BH.out,bG.out⟩);clear Og hcs Iz BH bG;go_wp2_with fail;go_loopw [8,9] (UR w s t cs nt) (fun _ s9 _=>nt - (intOf s9).toNat);(case atStart=>exact⟨0,0,[],Nat.zero_le _,rfl,Nat.le_refl _,rfl,Vf.out⟩);clear Vf;obtain⟨at_,no,out,kf,rfl,hno,aV,hst⟩:=hrel;have fD:=qqh hst;have dO:=qqh aV;obtain⟨Av,cv,rfl,_⟩:=aI hst.own;have j6:=hst.below;have hzw:=j6.size;clear aV;by_cases hlt:at_<nt
   ·obtain⟨tb,Hy,rfl,htb,_⟩:=Y5.out.at hlt;have afn:decide ((at_:Int)<(nt:Int))=true:=decide_eq_true (by omega);clear hst;go_wp2_with fail;go_loopw [10] (Ub wr s t out at_ nt) (fun i _=>nt - (intOf i).toNat);(case atStart=>exact⟨0,by omega,rfl,by simp,Below.refl _ _⟩);obtain⟨j,hj,rfl,ZN,hbi⟩:=hrel;have NW:=qqh (dO.out.trans ZN);have YH:=qqh ZN;have Kh:=qqh (fD.out.go hbi);have R4:=qqh hbi;have s0:wr.cell? ⟨w.heap.size,0,none⟩=some (.bool s.only?):=(Kh.out.scr.cell 0).trans E3.out.1;have s1:wr.cell? ⟨w.heap.size,1,none⟩=some (.slice A1 n1 c1):=(Kh.out.scr.cell 1).trans E3.out.2.1;obtain⟨en,YN⟩:∃ en,at_+j=en:=⟨_,rfl⟩;have Gt:=qqh (Ic hj htl);rw [YN]at hj NW YH ⊢;clear ZN hbi;by_cases hle:en<nt
    ·obtain⟨x,hx⟩:∃ z,t[en]? = some z:=⟨_,List.getElem?_eq_getElem (by omega)⟩;obtain⟨b',o',eA,_,cx⟩:=Y5.out.at hle;cases eA;rw [show t.getD en 0=x by simp [List.getD,hx]]at cx;have dx:wr.cell? ⟨tb,Hy+en,none⟩=some (.int .i32 x):=(Kh.out.below.cell (p:=⟨tb,Hy+en,none⟩) htb).trans cx;have abN:decide ((en:Int)<(nt:Int))=true:=decide_eq_true (by omega);have HDX:=qqh (cW hx);have HAS:=qqh (Om (t:=t) (at_:=at_) (j:=j) (by rw [YN];exact hx));rw [HDX.out]at NW YH;clear hx cx;cases ho:s.only?
     ·have NN:=qqh (show tU s x=true by unfold tU;rw [ho];rfl);rw [ho]at s0;have U1:=qqh (YH.out.trans (Ls NN.out));rw [HAS.out]at U1;clear ho;go_upto_region 11 with fail;go_quiet (fail);go_wp2_with fail;exact⟨⟨j+1,by omega,by go_num,by rw [← Nat.add_assoc,YN];exact U1.out,below_drewN R4.out nq⟩,by simp [intOf];omega⟩
     have Yo:=qqh (fun(W:World) (hb:Below w.heap.size w W)=>qN A1 n1 c1 s.only x W (qo.out (by trivial) ho) (cE.of (Y8.out W hb).only));rw [ho]at s0;have NN:=qqh (show tU s x=bf s.only x by unfold tU;rw [ho];rfl);clear ho;go_upto_region 11 with fail;go_region_with (go_at_call 13;refine(Yo.out _ (aC Kh.out.below)).mono ?_;rintro e wh ⟨rfl,hbh⟩)
     all_goals
       have HBH:=qqh ((aC (Below.refl wr.heap.size wr)).trans hbh)
       clear hbh
       cases hh:bf s.only x
       · have HMF:=qqh (NN.out.trans hh)
         have Eh:=qqh (Kh.out.go HBH.out)
         clear hh
         by_cases hj0:j=0
         · have hgt:decide ((at_:Int)<(en:Int))=false:=decide_eq_false (by omega)
           have Hv:=(Below.refl wh.heap.size wh).alloc (Nat.le_refl _) (.cells #[.int .i32 x] 21)
           have i9:=qqh (Eh.out.go Hv)
           have QK:=qqh (Rd.new wh 21 1 1 [.int .i32 x] rfl)
           have dx2:wh.cell? ⟨tb,Hy+en,none⟩=some (.int .i32 x):=(Eh.out.below.cell (p:=⟨tb,Hy+en,none⟩) htb).trans (((Kh.out.below.cell (p:=⟨tb,Hy+en,none⟩) htb).symm).trans dx)
           clear Hv
           go_wp2_with (at_builtin;refine ak _ rfl (.tmp 73) (.tmp 78) 33 rfl w.heap.size 21 i0 _ 1 4 Tryz.underlying33 hi z0 z1 z2 rfl (by decide) _ (no) _ rfl i9.out.own _ (some ⟨wh.heap.size,0,none⟩) 1 1 (runeCells [x]) rfl QK.out (bl _) (by simp only [maxLen];omega) (by omega) i9.out.below.size ?_)
           intro vf wf au
           have jx:=qqh (i9.out.push (E:=[x]) rfl au)
           obtain⟨Af,cf,rfl,_⟩:=aI jx.out.own
           have xV:=qqh (show oH s t [] [] = oH s (t.drop (en+1)) [] (out++[x]) from NW.out.trans (Gq HMF.out (by rw [show(t.drop at_).take j = [] by rw [hj0];rfl];exact rQ s out)))
           clear au i9 QK
           go_wp2_with fail
           exact⟨⟨en+1,no+1,out++[x],by omega,by go_num,by omega,xV.out,jx.out⟩,by simp [intOf];omega⟩
         · have Qg:0<j:=by omega
           have hne:¬ ct=at_:=by omega
           have acq:en - at_=j:=by omega
           have qB:=qqh (cE.Dv (X:=fun _=>True) (Ay.out _ Eh.out.below) (Nat.le_refl _) (fun _ _=>trivial))
           have Rb:=qT (vG qB.out (show at_≤nt by omega)) (show j≤nt - at_ by omega)
           rw [kB,iC]at Rb
           have uC:=qqh (th tb (Hy+at_) j (ct - at_) ((t.drop at_).take j) _ (by omega) Rb.of)
           have hgt:decide ((at_:Int)<(en:Int))=true:=decide_eq_true (by omega)
           clear Rb qB
           go_wp2_with fail
           refine uC.out.mono ?_
           rintro e wc ⟨⟨v,rfl,hown⟩,hbc⟩
           obtain⟨Ac,cc,rfl,_⟩:=aI hown
           have FH:=qqh (Eh.out.go hbc)
           have jH:=qqh (yW X (fun b=>w.heap.size≤b) s w.heap.size A1 A2 Ac n1 n2 c2 j cc ((t.drop at_).take j) wc (Y8.out wc FH.out.below) ((FH.out.scr.cell 2).trans E3.out.2.2) FH.out.scr.lt (by rw [Gt.out];omega) (cE.cP hown (fun b hb=>Nat.le_trans Eh.out.below.size (aY hown hb).1)))
           have OV:=qqh (wm s.passes 0 ((t.drop at_).take j) (by rw [Gt.out];omega))
           clear hown hbc uC
           go_wp2_with fail
           refine jH.out.mono ?_
           rintro e wd ⟨⟨A4,n4,c4,rfl,DZ⟩,hb4⟩
           have hzc:=FH.out.below.size
           obtain⟨y,f1,f2,hall⟩:∃ y f1 f2,allI 0 s.passes ((t.drop at_).take j)=(y,(f1,f2)):=⟨_,_,_,rfl⟩
           have SQ:=qqh hall
           rw [hall]at DZ OV ⊢
           dsimp only at DZ OV ⊢
           have hba:=(Below.refl wd.heap.size wd).alloc (Nat.le_refl _) (.cells #[.int .i64 f1,.int .i64 f2] 38)
           have xM:=qqh ((FH.out.go hb4).go hba)
           have E0:=qqh (Rd.below DZ.of hba)
           have Vd:=qqh (show y.length=n4 by have:=DZ.1;rw [runeCells_length]at this;omega)
           have JE:=qqh (aj.new wd 38 #[.int .i64 f1,.int .i64 f2])
           have VD:w.heap.size+1<wd.heap.size:=Nat.lt_of_lt_of_le FH.out.fau.lt hb4.size
           have uW:=qqh (show(t.drop at_).take j ≠ [] by intro e;have:=Gt.out;rw [e]at this;simp at this;omega)
           clear DZ hba hb4 jH hall
           go_upto_region 15 with fail
           generalize hWD:wd.alloc (.cells #[.int .i64 f1,.int .i64 f2] 38)=WD at *
           have ab':wd.heap.size<WD.heap.size:=JE.out.lt
           clear hWD
           have q0:=JE.out.cell 0
           have q1:=JE.out.cell 1
           by_cases hf:f1=0
           · subst hf
             have rD:n4≤4000:=by rw [← Vd.out];exact OV.out
             have nk:=qqh (CK uW.out SQ.out (out:=out))
             go_wp2_with (at_builtin;refine ak _ rfl (.tmp 66) (.tmp 67) 33 rfl w.heap.size 21 i0 _ 1 4 Tryz.underlying33 hi z0 z1 z2 rfl (by decide) _ no _ rfl xM.out.own _ A4 n4 c4 (runeCells y) rfl E0.out (bl _) (by simp only [maxLen];omega) (by omega) xM.out.below.size ?_)
             intro ve we au
             have yH:=qqh (xM.out.push Vd.out au)
             obtain⟨Ae,ce,rfl,_⟩:=aI yH.out.own
             clear au xM FH Eh SQ uW q0 q1 JE
             have Hv:=(Below.refl we.heap.size we).alloc (Nat.le_refl _) (.cells #[.int .i32 x] 21)
             have i9:=qqh (yH.out.go Hv)
             have QK:=qqh (Rd.new we 21 1 1 [.int .i32 x] rfl)
             have dx2:we.cell? ⟨tb,Hy+en,none⟩=some (.int .i32 x):=(yH.out.below.cell (p:=⟨tb,Hy+en,none⟩) htb).trans (((Kh.out.below.cell (p:=⟨tb,Hy+en,none⟩) htb).symm).trans dx)
             clear Hv
             go_wp2_with (at_builtin;refine ak _ rfl (.tmp 73) (.tmp 78) 33 rfl w.heap.size 21 i0 _ 1 4 Tryz.underlying33 hi z0 z1 z2 rfl (by decide) _ ((no+n4)) _ rfl i9.out.own _ (some ⟨we.heap.size,0,none⟩) 1 1 (runeCells [x]) rfl QK.out (bl _) (by simp only [maxLen];omega) (by omega) i9.out.below.size ?_)
             intro vf wf au
             have jx:=qqh (i9.out.push (E:=[x]) rfl au)
             obtain⟨Af,cf,rfl,_⟩:=aI jx.out.own
             have xV:=qqh (show oH s t [] [] = oH s (t.drop (en+1)) [] ((out++y)++[x]) from NW.out.trans (Gq HMF.out nk.out))
             clear au i9 QK
             go_wp2_with fail
             exact⟨⟨en+1,(no+n4)+1,(out++y)++[x],by omega,by go_num,by omega,xV.out,jx.out⟩,by simp [intOf];omega⟩
           · have nk:=qqh (yR uW.out SQ.out hf (out:=out))
             have HG:=qqh (show P9 s t=([],(f1,f2)) by rw [O3.out,NW.out,On (s:=s) (t:=x::t.drop (en+1)) (fun x' t' e=>by cases e;exact HMF.out) nk.out hf,if_pos hf])
             have y0:=xM.out.fau.cell 0
             have y1:=xM.out.fau.cell 1
             have g0:=xM.out.fau.frozen 0
             have g1:=xM.out.fau.frozen 1
             have JV:¬ w.heap.size+1=wd.heap.size:=by omega
             have JM:¬ wd.heap.size=w.heap.size+1:=by omega
             go_upto_region 16 with fail
             go_region
             all_goals
               go_wp2_with fail
               rw [HG.out]
               exact bodyPost_ret (v:=.tuple #[.slice none 0 0,.agg #[.int .i64 f1,.int .i64 f2]]) (by simp [results,Tryz.results8,go_sem,y0,y1]) rfl ⟨⟨none,0,0,rfl,⟨rfl,fun h=>absurd h (Nat.lt_irrefl 0)⟩⟩,((xM.out.below.setCell (by simp) _).setCell (by simp) _).drew⟩
       · have U1:=qqh (YH.out.trans (Ls (NN.out.trans hh)))
         rw [HAS.out]at U1
         clear hh
         go_wp2_with fail
         exact⟨⟨j+1,by omega,by go_num,by rw [← Nat.add_assoc,YN];exact U1.out,R4.out.trans (HBH.out.mono R4.out.size)⟩,by simp [intOf];omega⟩
    obtain rfl:en=nt:=(by omega);have abN:decide ((en:Int)<(en:Int))=false:=decide_eq_false (by omega);go_upto_region 11 with fail;go_quiet (fail);have Eh:=qqh (show AN w cs (.slice Av no cv) out no (wr.drewN nq) from Kh.out.go (below_drewN (Below.refl _ _) nq));have Qg:0<j:=(by omega);generalize wr.drewN nq=wh at *;have hne:¬ ct=at_:=(by omega);have acq:en - at_=j:=(by omega);have qB:=qqh (cE.Dv (X:=fun _=>True) (Ay.out _ Eh.out.below) (Nat.le_refl _) (fun _ _=>trivial));have Rb:=qT (vG qB.out (show at_≤en by omega)) (show j≤en - at_ by omega);rw [kB,iC]at Rb;have uC:=qqh (th tb (Hy+at_) j (ct - at_) ((t.drop at_).take j) _ (by omega) Rb.of);have hgt:decide ((at_:Int)<(en:Int))=true:=decide_eq_true (by omega);clear Rb qB;go_wp2_with fail;refine uC.out.mono ?_;rintro e wc ⟨⟨v,rfl,hown⟩,hbc⟩;obtain⟨Ac,cc,rfl,_⟩:=aI hown;have FH:=qqh (Eh.out.go hbc);have jH:=qqh (yW X (fun b=>w.heap.size≤b) s w.heap.size A1 A2 Ac n1 n2 c2 j cc ((t.drop at_).take j) wc (Y8.out wc FH.out.below) ((FH.out.scr.cell 2).trans E3.out.2.2) FH.out.scr.lt (by rw [Gt.out];omega) (cE.cP hown (fun b hb=>Nat.le_trans Eh.out.below.size (aY hown hb).1)));have OV:=qqh (wm s.passes 0 ((t.drop at_).take j) (by rw [Gt.out];omega));clear hown hbc uC;go_wp2_with fail;refine jH.out.mono ?_;rintro e wd ⟨⟨A4,n4,c4,rfl,DZ⟩,hb4⟩;have hzc:=FH.out.below.size;obtain⟨y,f1,f2,hall⟩:∃ y f1 f2,allI 0 s.passes ((t.drop at_).take j)=(y,(f1,f2)):=⟨_,_,_,rfl⟩;have SQ:=qqh hall;rw [hall]at DZ OV ⊢;dsimp only at DZ OV ⊢;have hba:=(Below.refl wd.heap.size wd).alloc (Nat.le_refl _) (.cells #[.int .i64 f1,.int .i64 f2] 38);have xM:=qqh ((FH.out.go hb4).go hba);have E0:=qqh (Rd.below DZ.of hba)
    have Vd:=qqh (show y.length=n4 by have:=DZ.1;rw [runeCells_length]at this;omega);have JE:=qqh (aj.new wd 38 #[.int .i64 f1,.int .i64 f2]);have VD:w.heap.size+1<wd.heap.size:=Nat.lt_of_lt_of_le FH.out.fau.lt hb4.size;have uW:=qqh (show(t.drop at_).take j ≠ [] by intro e;have:=Gt.out;rw [e]at this;simp at this;omega);clear DZ hba hb4 jH hall;go_upto_region 15 with fail;generalize hWD:wd.alloc (.cells #[.int .i64 f1,.int .i64 f2] 38)=WD at *;have ab':wd.heap.size<WD.heap.size:=JE.out.lt;clear hWD;have q0:=JE.out.cell 0;have q1:=JE.out.cell 1;by_cases hf:f1=0
    ·subst hf;have rD:n4≤4000:=(by rw [← Vd.out];exact OV.out);have nk:=qqh (CK uW.out SQ.out (out:=out));go_wp2_with (at_builtin;refine ak _ rfl (.tmp 66) (.tmp 67) 33 rfl w.heap.size 21 i0 _ 1 4 Tryz.underlying33 hi z0 z1 z2 rfl (by decide) _ no _ rfl xM.out.own _ A4 n4 c4 (runeCells y) rfl E0.out (bl _) (by simp only [maxLen];omega) (by omega) xM.out.below.size ?_);intro ve we au;have yH:=qqh (xM.out.push Vd.out au);obtain⟨Ae,ce,rfl,_⟩:=aI yH.out.own;clear au xM FH Eh SQ uW q0 q1 JE;have Oj:oH s t [] [] = oH s (t.drop en) [] (out++y):=by
      rw [NW.out,List.drop_of_length_le (by omega),oH,oH,nk.out,rQ]
     have xV:=qqh Oj;clear Oj;go_wp2_with fail;exact⟨⟨en,no+n4,out++y,Nat.le_refl _,rfl,by omega,xV.out,yH.out⟩,by simp [intOf];omega⟩
    have nk:=qqh (yR uW.out SQ.out hf (out:=out));have HG:=qqh (show P9 s t=([],(f1,f2)) by rw [O3.out,NW.out,List.drop_of_length_le (by omega),oH,nk.out,if_pos hf]);have y0:=xM.out.fau.cell 0;have y1:=xM.out.fau.cell 1;have g0:=xM.out.fau.frozen 0;have g1:=xM.out.fau.frozen 1;have JV:¬ w.heap.size+1=wd.heap.size:=(by omega);have JM:¬ wd.heap.size=w.heap.size+1:=(by omega);go_upto_region 16 with fail;go_region
    all_goals
      go_wp2_with fail
      rw [HG.out]
      exact bodyPost_ret (v:=.tuple #[.slice none 0 0,.agg #[.int .i64 f1,.int .i64 f2]]) (by simp [results,Tryz.results8,go_sem,y0,y1]) rfl ⟨⟨none,0,0,rfl,⟨rfl,fun h=>absurd h (Nat.lt_irrefl 0)⟩⟩,((xM.out.below.setCell (by simp) _).setCell (by simp) _).drew⟩
   obtain rfl:at_=nt:=(by omega);have Qv:=qqh (show oH s t [] [] =(out,(0,0)) by rw [dO.out,List.drop_of_length_le (by omega),oH,rQ]);have hlen:=fD.out.len;by_cases h4:4000<no
   ·have HG:=qqh (show P9 s t=([],(4,(n2:Int))) by rw [O3.out,Qv.out,if_neg (fun h=>h rfl),if_pos (by rw [hlen];exact h4),sV.out]);have d2:wr.cell? ⟨w.heap.size,2,none⟩=some (.slice A2 n2 c2):=(hst.scr.cell 2).trans E3.out.2.2;have y0:=hst.fau.cell 0;have y1:=hst.fau.cell 1;have g0:=hst.fau.frozen 0;have g1:=hst.fau.frozen 1;have hne:¬ w.heap.size=w.heap.size+1:=(by omega);clear hst;go_upto_region 23 with fail;go_region
    all_goals
      go_wp2_with fail
      rw [HG.out]
      exact bodyPost_ret (v:=.tuple #[.slice none 0 0,.agg #[.int .i64 4,.int .i64 n2]]) (by simp [results,Tryz.results8,go_sem,y0,y1]) rfl ⟨⟨none,0,0,rfl,⟨rfl,fun h=>absurd h (Nat.lt_irrefl 0)⟩⟩,((fD.out.below.setCell (by simp) _).setCell (by simp) _).drew⟩
   have HG:=qqh (show P9 s t=(out,(0,0)) by rw [O3.out,Qv.out,if_neg (fun h=>h rfl),if_neg (by rw [hlen];exact h4)]);have y0:=hst.fau.cell 0;have y1:=hst.fau.cell 1;have g0:=hst.fau.frozen 0;have g1:=hst.fau.frozen 1;have q1:=gi (i:=0) (u:=.int .i64 0) hst.own hst.fau (by decide);have q2:=gi (i:=1) (u:=.int .i64 0) q1 (hst.fau.put 0 _) (by decide);have pS:=qqh (cE.cP (X:=fun b=>w.heap.size≤b) q2 (fun b hb=>(aY q2 hb).1));clear hst q1 q2;go_wp2_with fail;rw [HG.out];exact bodyPost_ret (v:=.tuple #[.slice Av no cv,.agg #[.int .i64 0,.int .i64 0]]) (by simp [results,Tryz.results8,go_sem,y0,y1]) rfl ⟨⟨Av,no,cv,rfl,pS.out⟩,(fD.out.below.setCell (by simp) _).setCell (by simp) _⟩
  have HG:=qqh (Og.out.trans (if_pos hz));have y0:=BH.out.cell 0;have y1:=BH.out.cell 1;have g0:=BH.out.frozen 0;have g1:=BH.out.frozen 1;go_wp2_with fail;rw [HG.out];exact bodyPost_ret (v:=.tuple #[.slice none 0 0,.agg #[.int .i64 tp,.int .i64 0]]) (by simp [results,Tryz.results8,go_sem,y0,y1]) rfl ⟨⟨none,0,0,rfl,⟨rfl,fun h=>absurd h (Nat.lt_irrefl 0)⟩⟩,(bG.out.setCell (by simp) _).setCell (by simp) _⟩
 have HG:=qqh (Zw.out.trans (if_pos hz));have y0:=Fa.out.cell 0;have y1:=Fa.out.cell 1;have g0:=Fa.out.frozen 0;have g1:=Fa.out.frozen 1;have JV:¬ w.heap.size+1=w1.heap.size:=(by omega);have JM:¬ w1.heap.size=w.heap.size+1:=(by omega);go_upto_region 3 with fail;go_region
 all_goals
   go_wp2_with fail
   rw [HG.out]
   exact bodyPost_ret (v:=.tuple #[.slice none 0 0,.agg #[.int .i64 r1,.int .i64 r2]]) (by simp [results,Tryz.results8,go_sem,y0,y1]) rfl ⟨⟨none,0,0,rfl,⟨rfl,fun h=>absurd h (Nat.lt_irrefl 0)⟩⟩,((bD.out.setCell (by simp) _).setCell (by simp) _).drew⟩
def nw (l:List ai):Bool:=l.all fun r=>r.ag ==(r.target.length:Int)
theorem Ij (r:ai) (l:List ai):nw (r::l)=((r.ag ==(r.target.length:Int)) && nw l):=rfl
def PA (w:World) (l:List ai) (n:Nat) (i:Value) (wr:World):Prop :=
  ∃ k:Nat,k≤n∧i=.int .i64 k∧nw l=nw (l.drop k)∧Below w.heap.size w wr
theorem Nl (r:ai) (A1 A2 A3 A4:Option Addr) (n1 c1 n2 c2 n3 c3 n4 c4:Nat) (w:World) (h4:r.target.length=n4) :
    Calls Tryz.prog 90 #[.agg #[.bool r.start,.bool r.fin,.slice A1 n1 c1,.slice A2 n2 c2,.slice A3 n3 c3,.slice A4 n4 c4,.int .i64 r.ag]] w fun e w'=>e=.returned (.bool (!(r.ag ==(r.target.length:Int))))∧Below w.heap.size w w':=by
 subst h4;go_enter Tryz.func90,Tryz.ntmps90;go_wp2_with fail;go_ret;exact⟨rfl,(Below.refl _ _).alloc (Nat.le_refl _) _⟩
theorem Gh (X:Nat→Prop) (A:Option Addr) (n c:Nat) (l:List ai) (w:World) (hl:bt (aL w X) w X 7 A n l) (hn:n≤maxLen) :
    Calls Tryz.prog 63 #[.slice A n c,.func (.func 90) #[] #[]] w fun e w'=>(∃ z:Int,e=.returned (.int .i64 z)∧(decide (0≤z) = !nw l))∧Below w.heap.size w w':=by
 have aQ:=qqh (show l.length=n from hl.len);have HL:=qqh hl;clear hl;simp only [maxLen]at hn;go_enter Tryz.func63,Tryz.ntmps63;go_wp2_with fail;go_loopw [8] (PA w l n) (fun i _=>n - (intOf i).toNat);(case atStart=>exact⟨0,Nat.zero_le _,rfl,rfl,Below.refl _ _⟩);obtain⟨k,hk,rfl,aV,hb⟩:=hrel;by_cases hlt:k<n
 ·obtain⟨r,hr⟩:∃ z,l[k]? = some z:=⟨_,List.getElem?_eq_getElem (by rw [aQ.out];exact hlt)⟩;obtain⟨b,off,A1,A2,A3,A4,n1,c1,n2,c2,n3,c3,n4,c4,rfl,_,cH,⟨d0,d1,d2,d3,d4,d5,d6⟩,s1,s2,s3,s4,rD⟩:=gT (HL.out.keep (aa.any hb) (fun _ _=>aL.keep (aa.any hb))) hr;have Tj:r.target.length=n4:=(by have:=s4.1;rw [runeCells_length]at this;omega);have HM:=qqh (Nl r A1 A2 A3 A4 n1 c1 n2 c2 n3 c3 n4 c4 wr Tj);rw [cW hr,Ij]at aV;have dO:=qqh aV;have HB:=qqh hb;clear aV hr hb s1 s2 s3 s4 rD Tj;go_wp2_with fail;refine HM.out.mono ?_;rintro e w9 ⟨rfl,bY⟩;have eG:=qqh (HB.out.trans (bY.mono HB.out.size));clear bY;cases hh:(r.ag ==(r.target.length:Int))
  ·have HG:=qqh (dO.out.trans (by rw [hh,Bool.false_and]));clear hh;go_wp2_with fail;go_ret;exact⟨⟨_,rfl,by rw [HG.out];simp⟩,eG.out⟩
  have HG:=qqh (dO.out.trans (by rw [hh,Bool.true_and]));clear hh;go_wp2_with fail;exact⟨⟨k+1,by omega,by go_num,HG.out,eG.out⟩,by simp [intOf];omega⟩
 obtain rfl:k=n:=(by omega);rw [List.drop_of_length_le (by rw [aQ.out];omega)]at aV;have HG:=qqh (aV.trans (show nw [] = true from rfl));clear aV;go_wp2_with fail;go_ret;exact⟨⟨_,rfl,by rw [HG.out];simp⟩,hb⟩
theorem Mw (X:Nat→Prop) (A:Option Addr) (n c:Nat) (l:List ai) (w:World) (hl:bt (aL w X) w X 7 A n l) (hn:n≤maxLen) :
    Calls Tryz.prog 57 #[.slice A n c,.func (.func 90) #[] #[]] w fun e w'=>e=.returned (.bool (!nw l))∧Below w.heap.size w w':=by
 have H:=qqh (Gh X A n c l w hl hn);clear hl;go_enter Tryz.func57,Tryz.ntmps57;go_wp2_with fail;refine H.out.mono ?_;rintro e w2 ⟨⟨z,rfl,hz⟩,hb⟩;have HZ:=qqh hz;clear hz;go_wp2_with fail;go_ret;exact⟨aW HZ.out,hb⟩
theorem AI (X:Nat→Prop) (A:Option Addr) (n c:Nat) (l:List ai) (w:World) (hl:bt (aL w X) w X 7 A n l) (hn:n≤maxLen) :
    Calls Tryz.prog 56 #[.slice A n c] w fun e w'=>e=.returned (.bool (nw l))∧Below w.heap.size w w':=by
 have H:=qqh (Mw X A n c l w hl hn);clear hl;go_enter Tryz.func56,Tryz.ntmps56;go_wp2_with fail;refine H.out.mono ?_;rintro e w2 ⟨rfl,hb⟩;go_wp2_with fail;go_ret;exact⟨aW (by simp),hb⟩
theorem tE:∀ (l:List af) (Z Y:List Int),l.length≤Z.length→ep l (Z++Y)=ep l Z:=by
 intro l;induction l with
 | nil=>intro Z Y _;rfl
 | cons s l ih=>
  intro Z Y h;cases Z with
  | nil=>simp at h
  | cons z Z=>rw [List.cons_append,ep,ep,ih Z Y (by simpa using h)]
def F0 (l:List ai) (O:List Int) (cS:Nat) (done Z:List Int) (s:Nat):Prop:=s≤cS∧done.length+Z.length≤4000∧∃ p o,bK l (cS - s) done Z s p=(o,0)∧o.text=O
theorem F0.left {l:List ai} {O done Z:List Int} {cS s:Nat} {z:Int} (h:F0 l O cS done (z::Z) s):s<cS:=by
 obtain⟨h1,h2,p,o,h3,_⟩:=h;rcases Nat.lt_or_ge s cS with h4 | h4;exact h4;rw [show cS - s=0 by omega]at h3;simp [bK]at h3
theorem F0.none {l:List ai} {O done Z:List Int} {cS s:Nat} {z:Int} (h:F0 l O cS done (z::Z) s) (hw:bM l (done++z::Z) done.length = -1):F0 l O cS (done++[z]) Z (s+1):=by
 have hl:=h.left;obtain⟨h1,h2,p,o,h3,h4⟩:=h;refine⟨hl,by rw [List.length_append];simp at h2 ⊢;omega,p,o,?_,h4⟩;rw [show cS - s=(cS - (s+1))+1 by omega,kM hw]at h3;exact h3
theorem F0.done {l:List ai} {O done:List Int} {cS s:Nat} (h:F0 l O cS done [] s):done=O:=by
 obtain⟨_,_,p,o,h3,h4⟩:=h;rw [iZ]at h3;injection h3 with h3 _;rw [← h4,← h3]
structure nB (r:ai):Prop where
  cur:r.ag=(r.target.length:Int)
  start:r.start=false
  fin:r.fin=false
  before:r.before = []
  after:r.after = []
theorem lF:∀ (l:List af) (Z:List Int),ep l Z=true→l.length≤Z.length:=by
 intro l;induction l with
 | nil=>intro Z _;exact Nat.zero_le _
 | cons s l ih=>
  intro Z h;cases Z with
  | nil=>cases h
  | cons z Z=>
   rw [ep,Bool.and_eq_true]at h;have:=ih Z h.2;simpa using this
theorem CV {T:List Int} {p:Int} (h0:0≤p) (h1:p≤T.length):jR T p [] = true:=by
 unfold jR;rw [if_neg (by simp;omega)];rfl
theorem gY {r:ai} (hr:nB r) (D Z:List Int):ec r (D++Z) D.length=ep r.source Z:=by
 unfold ec;rw [hr.start,hr.fin,hr.before,hr.after];have e1:(D++Z).length=D.length+Z.length:=List.length_append;have e2:jR (D++Z) (D.length:Int) r.source=ep r.source Z:=by
  unfold jR;by_cases h:r.source.length≤Z.length
  ·rw [if_neg (by rw [e1];omega),Int.toNat_natCast,List.drop_left]
  rw [if_pos (.inr (by rw [e1];omega))];cases h2:ep r.source Z;rfl;exact absurd (lF _ _ h2) h
 rw [e2];cases h2:ep r.source Z;rfl;have h3:=lF _ _ h2;rw [CV (by simp) (by rw [e1,List.length_nil];omega),CV (by omega) (by rw [e1];omega)];rfl
theorem pK {l:List ai} {T T':List Int} {q q':Nat} (h:∀ r∈l,ec r T q=ec r T' q'):bM l T q=bM l T' q':=by
 have hk:∀ ks,ck l T q ks=ck l T' q' ks:=by
  intro ks;induction ks with
  | nil=>rfl
  | cons k ks ih=>
   rw [ck,ck,ih];have:hereAt l T q k=hereAt l T' q' k:=by
    unfold hereAt;cases hr:l[k.toNat]? with
    | none=>rfl
    | some r=>exact h r (List.mem_of_getElem? hr)
   rw [this]
 exact hk _
theorem tg {l:List ai} (hl:∀ r∈l,nB r) (D Z:List Int):bM l (D++Z) D.length=bM l Z 0:=by
 refine pK fun r hr=>?_;rw [gY (hl r hr)];exact(gY (hl r hr) [] Z).symm
theorem F4 {l:List ai} (hl:∀ r∈l,nB r) {Z Y:List Int} (h:∀ r∈l,r.source.length≤Z.length):bM l (Z++Y) 0=bM l Z 0:=by
 refine pK fun r hr=>?_;have h1:=gY (hl r hr) [] (Z++Y);have h2:=gY (hl r hr) [] Z;rw [List.nil_append]at h1 h2;rw [show(0:Nat)=([]:List Int).length from rfl,h1,h2,tE _ _ _ (h r hr)]
def Mt (dom:af) (r:ai):Prop:=∃ s∈r.source,∀ x,bf s x=true→bf dom x=false
theorem Oe {dom:af} {r:ai} (h:Mt dom r) (Z:List Int) (hZ:∀ x∈Z,bf dom x=true):ep r.source Z=false:=by
 obtain⟨s,hs,h⟩:=h;have key:∀ (l:List af) (Z:List Int),s∈l→(∀ x∈Z,bf dom x=true)→ep l Z=false:=by
  intro l;induction l with
  | nil=>intro Z h1 _;cases h1
  | cons t l ih=>
   intro Z h1 h2;cases Z with
   | nil=>rfl
   | cons z Z=>
    rw [ep];rcases List.mem_cons.1 h1 with rfl | h1
    ·cases h3:bf s z;rfl;have:=h z h3;rw [h2 z (by simp)]at this;cases this
    rw [ih Z h1 (fun x hx=>h2 x (by simp [hx])),Bool.and_false]
 exact key _ _ hs hZ
def aS (l:List ai) (u:Int):List Int:=if bM l [u] 0<0 then [u]else match l[(bM l [u] 0).toNat]? with | some r=>r.target | none=>[u]
structure AK (l:List ai) (dom:af):Prop where
  plain:∀ r∈l,nB r
  src:∀ r∈l,r.source ≠ []
  idle:∀ r∈l,1<r.source.length→Mt dom r
theorem Dk {l:List ai} {dom:af} (h:AK l dom) {A Z:List Int} {u:Int} (hZ:∀ x∈u::Z,bf dom x=true):bM l (A++u::Z) A.length=bM l [u] 0:=by
 rw [tg h.plain];refine pK fun r hr=>?_;have h1:=gY (h.plain r hr) [] (u::Z);have h2:=gY (h.plain r hr) [] [u];rw [List.nil_append]at h1 h2;rw [show(0:Nat)=([]:List Int).length from rfl,h1,h2];by_cases hs:1<r.source.length
 ·rw [Oe (h.idle r hr hs) _ hZ];cases h3:ep r.source [u];rfl;have:=lF _ _ h3;simp at this;omega
 exact tE r.source [u] Z (by simpa using hs)
theorem FI {l:List ai} {T:List Int} {q:Nat}:∀ {ks:List Int},ck l T q ks = -1∨(∃ k∈ks,ck l T q ks=k∧hereAt l T q k=true):=by
 intro ks;induction ks with
 | nil=>exact .inl rfl
 | cons k ks ih=>
  rw [ck];by_cases h:hereAt l T q k=true
  ·rw [if_pos h];exact .inr ⟨k,by simp,rfl,h⟩
  rw [if_neg h];rcases ih with h1 | ⟨j,hj,h1,h2⟩;exact .inl h1;exact .inr ⟨j,by simp [hj],h1,h2⟩
theorem C7 {l:List ai} {T:List Int} {q:Nat}:bM l T q = -1∨∃ (k:Nat) (r:ai),bM l T q=(k:Int)∧l[k]? = some r∧ec r T q=true:=by
 rcases FI (l:=l) (T:=T) (q:=q) (ks:=upTo l.length)with h | ⟨k,hk,h1,h2⟩;exact .inl h;unfold upTo at hk;obtain⟨i,hi,rfl⟩:=List.mem_map.1 hk;rw [List.mem_range]at hi;refine .inr ⟨i,l[i],h1,List.getElem?_eq_getElem hi,?_⟩;unfold hereAt at h2;rw [Int.toNat_natCast,List.getElem?_eq_getElem hi]at h2;exact h2
theorem Jm {l:List ai} {dom:af} (h:AK l dom):∀ (Z:List Int) (left:Nat) (done:List Int) (s p:Nat),(∀ x∈Z,bf dom x=true)→Z.length≤left→(bK l left done Z s p).2=4∨((bK l left done Z s p).2=0∧(bK l left done Z s p).1.text=done++Z.flatMap (aS l)):=by
 intro Z;induction Z with
 | nil=>intro left done s p _ _;rw [iZ];exact .inr ⟨rfl,by simp⟩
 | cons u Z ih=>
  intro left done s p hZ hl;obtain⟨L,rfl⟩:∃ L,left=L+1:=⟨left - 1,by simp at hl;omega⟩;have hw:=Dk h (A:=done) hZ;have hZ2:∀ x∈Z,bf dom x=true:=fun x hx=>hZ x (by simp [hx]);have iw:Z.length≤L:=(by simpa using hl);rcases C7 (l:=l) (T:=[u]) (q:=0)with h1 | ⟨k,r,h1,hk,hh⟩
  ·have e:aS l u = [u]:=(by unfold aS;rw [if_pos (by rw [h1];decide)]);rw [kM (hw.trans h1)];rcases ih L (done++[u]) (s+1) p hZ2 iw with h2 | ⟨h2,h3⟩;exact .inl h2;exact .inr ⟨h2,by rw [h3,List.flatMap_cons,e,List.append_assoc]⟩
  have hr:=List.mem_of_getElem? hk;have e:aS l u=r.target:=(by unfold aS;rw [if_neg (by rw [h1];omega),h1,Int.toNat_natCast,hk]);have hs1:r.source.length=1:=by
   have h2:=gY (h.plain r hr) [] [u];rw [List.nil_append]at h2;rw [show(0:Nat)=([]:List Int).length from rfl,h2]at hh;have h3:=lF _ _ hh;have h4:=List.length_pos_iff.2 (h.src r hr);simp at h3;omega
  by_cases hm:4000<done.length+(r.target++(u::Z).drop r.source.length).length
  ·rw [pN (hw.trans h1) hk hm];exact .inl rfl
  rw [mF (hw.trans h1) hk hm,(h.plain r hr).cur,Int.toNat_natCast,List.take_left,List.drop_left,hs1];rcases ih L (done++r.target) (s+1) (p+1) hZ2 iw with h2 | ⟨h2,h3⟩;exact .inl h2;exact .inr ⟨h2,by rw [List.drop_succ_cons,List.drop_zero,h3,List.flatMap_cons,e,List.append_assoc]⟩
def ld (l:List ai) (text:List Int) (n:Nat) (u:Int):Prop:=(bM l text 0 = -1∧n=1∧text[0]? = some u)∨∃ (k:Nat) (r:ai),bM l text 0=(k:Int)∧l[k]? = some r∧r.source.length=n∧r.target = [u]
structure K2 (l back:List ai) (dom:af):Prop where
  plain:∀ r∈back,nB r
  some:∀ u,bf dom u=true→aS l u ≠ []
  one:∀ u,bf dom u=true→ld back (aS l u) (aS l u).length u
  two:∀ u v,bf dom u=true→bf dom v=true→(∀ r∈back,r.source.length≤(aS l u++aS l v).length)∧ld back (aS l u++aS l v) (aS l u).length u
theorem Io {back:List ai} (hp:∀ r∈back,nB r) {t R done:List Int} {u:Int} {L s p:Nat} (ht:t ≠ []) (h4:done.length+(t++R).length≤4000) (h:ld back (t++R) t.length u) :
    ∃ p2,bK back (L+1) done (t++R) s p=bK back L (done++[u]) R (s+1) p2:=by
 obtain⟨z,t2,rfl⟩:∃ z t2,t=z::t2:=by
  cases t with
  | nil=>exact absurd rfl ht
  | cons z t2=>exact⟨z,t2,rfl⟩
 have hw:=tg hp done (z::t2++R);rcases h with ⟨h1,h2,h3⟩ | ⟨k,r,h1,hk,h2,h3⟩
 ·obtain rfl:t2 = []:=List.eq_nil_of_length_eq_zero (by simpa using h2);obtain rfl:z=u:=(by simpa using h3);exact⟨p,kM (hw.trans h1)⟩
 have e:(r.target++(z::t2++R).drop r.source.length)=u::R:=(by rw [h3,h2,List.drop_left];rfl);have hm:¬ 4000<done.length+(r.target++(z::(t2++R)).drop r.source.length).length:=by
  rw [show z::(t2++R)=z::t2++R from rfl,e];simp at h4 ⊢;omega
 refine⟨p+1,?_⟩;have h5:=mF (left:=L) (s:=s) (p:=p) (hw.trans h1) hk hm;have h6:bK back (L+1) done (z::t2++R) s p=bK back L (done++(r.target++(z::t2++R).drop r.source.length).take r.ag.toNat) ((r.target++(z::t2++R).drop r.source.length).drop r.ag.toNat) (s+1) (p+1):=h5;rw [e,(hp r (List.mem_of_getElem? hk)).cur,h3]at h6;exact h6
theorem CL {back:List ai} (hp:∀ r∈back,nB r) {Z Y:List Int} {n:Nat} {u:Int} (hl:∀ r∈back,r.source.length≤Z.length) (hZ:Z ≠ []) (h:ld back Z n u):ld back (Z++Y) n u:=by
 unfold ld at h ⊢;rw [F4 hp hl];rcases h with ⟨h1,h2,h3⟩ | h
 ·refine .inl ⟨h1,h2,?_⟩;cases Z with
  | nil=>exact absurd rfl hZ
  | cons z Z=>exact h3
 exact .inr h
theorem K5 {l back:List ai} {dom:af} (h:K2 l back dom):∀ (Z:List Int) (left:Nat) (done:List Int) (s p:Nat),(∀ x∈Z,bf dom x=true)→Z.length≤left→done.length+(Z.flatMap (aS l)).length≤4000→(bK back left done (Z.flatMap (aS l)) s p).2=0∧(bK back left done (Z.flatMap (aS l)) s p).1.text=done++Z:=by
 intro Z;induction Z with
 | nil=>intro left done s p _ _ _;rw [List.flatMap_nil,iZ];exact⟨rfl,by simp⟩
 | cons u Z ih=>
  intro left done s p hZ hl h4;obtain⟨L,rfl⟩:∃ L,left=L+1:=⟨left - 1,by simp at hl;omega⟩;have hu:=hZ u (by simp);have hne:=h.some u hu;rw [List.flatMap_cons]at h4 ⊢;have hst:ld back (aS l u++Z.flatMap (aS l)) (aS l u).length u:=by
   cases Z with
   | nil=>rw [List.flatMap_nil,List.append_nil];exact h.one u hu
   | cons v Z=>
    obtain⟨h1,h2⟩:=h.two u v hu (hZ v (by simp));rw [List.flatMap_cons,← List.append_assoc];exact CL h.plain h1 (fun e=>hne (List.append_eq_nil_iff.1 e).1) h2
  obtain⟨p2,e⟩:=Io h.plain (s:=s) (p:=p) (L:=L) hne h4 hst;rw [e];have hlen:=List.length_pos_iff.2 hne;obtain⟨h1,h2⟩:=ih L (done++[u]) (s+1) p2 (fun x hx=>hZ x (by simp [hx])) (by simpa using hl) (by simp at h4 ⊢;omega);exact⟨h1,by rw [h2,List.append_assoc];rfl⟩
end Go.Proofs.YtkggjgeihhialaaGreatDoor
