/- ChainAll + RefRunAll + ChainGoAll + StreamP + RunRun -/
import Derived.Test.YtkggjgeihhialaaGreatDoorZs34
import Derived.Test.YtkggjgeihhialaaGreatDoorZs28
import Derived.BigRegion
import Derived.Deep.RegionWith
import Derived.Test.YtkggjgeihhialaaGreatDoorZs13
import Derived.Test.YtkggjgeihhialaaGreatDoorZs1
set_option maxHeartbeats 12800000
set_option maxRecDepth 100000
namespace Go.Proofs.YtkggjgeihhialaaGreatDoor
open Go.RowKit
theorem CX (l:List ax):∀ (left:Nat) (done rest:List Int) (s p:Nat),done.length+rest.length≤4000→(ez l left done rest s p).1.text.length≤4000:=by
 intro left;induction left with
 | zero=>
  intro done rest s p h;cases rest with
  | nil=>simpa [lF] using h
  | cons z rest=>exact Nat.zero_le _
 | succ left ih=>
  intro done rest s p h;cases rest with
  | nil=>simpa [lF] using h
  | cons z rest=>
   rw [ez];split
   ·refine ih _ _ _ _ ?_;simp only [List.length_append,List.length_cons,List.length_nil]at h ⊢;omega
   split;exact Nat.zero_le _;split;exact Nat.zero_le _;rename_i hm;refine ih _ _ _ _ ?_;rw [List.length_append,Nat.add_assoc,← List.length_append,List.take_append_drop];omega
theorem sF {t:List Int} (h:dS t=0):t.length≤4000:=by
 unfold dS at h;by_cases h4:4000<t.length
 ·rw [if_pos h4]at h;cases h
 omega
theorem DK (l:List ax) (t:List Int):(fC l t).1.text.length≤4000:=by
 unfold fC;split;exact Nat.zero_le _;split;exact Nat.zero_le _;rename_i h;split;exact Nat.zero_le _;unfold sB;split;exact Nat.zero_le _;exact CX l _ _ _ _ _ (by have:=sF (t:=t) (by omega);simpa using this)
theorem uv (p:bZ) {l:List Int} (h:l.length≤4000):(gj p l).1.length≤4000:=by
 unfold gj;split
 ·simpa using h
 split
 ·simpa using h
 split;exact Nat.zero_le _;split;exact h;exact DK _ _
def allI:Nat→List bZ→List Int→List Int × (Int × Int)
  | _,[],l=>(l,(0,0))
  | k,p::ps,l=>if (gj p l).2≠0 then ([],((gj p l).2,(k:Int)))else allI (k+1) ps (gj p l).1
theorem wm:∀ (ps:List bZ) (k:Nat) (l:List Int),l.length≤4000→(allI k ps l).1.length≤4000:=by
 intro ps;induction ps with
 | nil=>intro k l h;exact h
 | cons p ps ih=>
  intro k l h;rw [allI];split;exact Nat.zero_le _;exact ih _ _ (uv p h)
def Nx (Y:Nat→Prop) (lo:Nat) (w':World) (o:List Int × (Int × Int)) (e:Ending):Prop :=
  ∃ (A:Option Addr) (n c:Nat),e=.returned (.tuple #[.slice A n c,.agg #[.int .i64 o.2.1,.int .i64 o.2.2]])∧cy w' (fun b=>Y b∨lo≤b) 1 A n (runeCells o.1)
def Un (w:World) (Y:Nat→Prop) (s:bC) (l:List Int) (n2:Nat) (s1 i:Value) (wr:World):Prop :=
  ∃ (k:Nat) (l':List Int) (A:Option Addr) (n c:Nat),k≤n2∧i=.int .i64 k∧s1=.slice A n c∧cy wr (fun b=>Y b∨w.heap.size≤b) 1 A n (runeCells l')∧cy wr (fun b=>(Y b∨w.heap.size≤b)∧b≠w.heap.size) 1 A n (runeCells l')∧l'.length≤4000∧allI 0 s.passes l=allI k (s.passes.drop k) l'∧aj wr w.heap.size 38 #[.int .i64 0,.int .i64 0]∧Below w.heap.size w wr
theorem yt (X Y:Nat→Prop) (s:bC) (b0:Nat) (A1 A2 A:Option Addr) (n1 n2 c2 n c:Nat) (l:List Int) (w:World) (hs:iq w X s A1 n1 A2 n2) (h0:w.cell? ⟨b0,2,none⟩=some (.slice A2 n2 c2)) (hb0:b0<w.heap.size) (UD:l.length≤4000) (hl:cy w Y 1 A n (runeCells l)) :
    Calls Tryz.prog 19 #[.pointer (some ⟨b0,0,none⟩),.slice A n c] w fun e w'=>Nx Y w.heap.size w' (allI 0 s.passes l) e∧Below w.heap.size w w':=by
 have hm2:=hs.m2;have hba:=(Below.refl w.heap.size w).alloc (Nat.le_refl _) (.cells #[.int .i64 0,.int .i64 0] 38);have d2:(w.alloc (.cells #[.int .i64 0,.int .i64 0] 38)).cell? ⟨b0,2,none⟩=some (.slice A2 n2 c2):=(hba.cell (p:=⟨b0,2,none⟩) hb0).trans h0;have aS:=qqh (show s.passes.length=n2 from hs.pas.len);have HS:=qqh hs;have qR:=qqh (aj.new w 38 #[.int .i64 0,.int .i64 0]);have dV:=qqh hba;have Q3:=qqh (hl.keep (X':=fun b=>Y b∨w.heap.size≤b) (aa.below hba (fun _ h _=>.inl h)));have C0:=qqh (hl.keep (X':=fun b=>(Y b∨w.heap.size≤b)∧b≠w.heap.size) (aa.below hba (fun b h hl=>⟨.inl h,by omega⟩)));have TA:=qqh UD;clear hs hba hl h0;simp only [maxLen]at hm2;go_enter Tryz.func19,Tryz.ntmps19;go_wp2_with fail;go_loopw [1,14] (Un w Y s l n2) (fun _ i _=>n2 - (intOf i).toNat);(case atStart=>exact⟨0,l,A,n,c,Nat.zero_le _,rfl,rfl,Q3.out,C0.out,TA.out,rfl,qR.out,dV.out⟩);obtain⟨k,l',A',n',c',hk,rfl,rfl,hl,hl',aaa,aY,hf,hb⟩:=hrel;have hz:=hb.size;have hln:=hl.1;rw [runeCells_length]at hln;by_cases hlt:k<n2
 ·obtain⟨p,hp⟩:∃ z,s.passes[k]? = some z:=⟨_,List.getElem?_eq_getElem (by rw [aS.out];exact hlt)⟩;obtain⟨b,off,Ar,nr,cr,rfl,_,dL,e0,e1,hr,xq⟩:=tL (HS.out.pas.keep (aa.any hb) (fun _ _=>cR.keep (aa.any hb))) hp;rw [dH hp,allI]at aY;have ep:=qqh aY;have hba:=(Below.refl wr.heap.size wr).alloc (Nat.le_refl _) (.cells #[.string p.name,.slice Ar nr cr] 32);have eT:=qqh (hf.alloc (.cells #[.string p.name,.slice Ar nr cr] 32));have bt:=qqh (hb.trans (hba.mono hz));have HP:=qqh (aj.new wr 32 #[.string p.name,.slice Ar nr cr]);have HM:=qqh (Ec X (fun b=>(Y b∨w.heap.size≤b)∧b≠w.heap.size) p Ar A' nr cr n' c' l' (wr.alloc (.cells #[.string p.name,.slice Ar nr cr] 32)) xq (hr.keep (aa.any hba) (fun _ _=>aO.keep (aa.any hba))) (by omega) (hl'.keep (aa.any hba)));have OG:=qqh (uv p aaa);clear aY hr hf hb hba hp hl hl';go_upto_region 4 with fail;generalize hW:wr.alloc (.cells #[.string p.name,.slice Ar nr cr] 32)=W at *;have hwz:wr.heap.size<W.heap.size:=HP.out.lt;clear hW e0 e1;have p0:W.cell? ⟨wr.heap.size,0,none⟩=some (.string p.name):=HP.out.cell 0;have p1:W.cell? ⟨wr.heap.size,1,none⟩=some (.slice Ar nr cr):=HP.out.cell 1;go_wp2_with fail;refine HM.out.mono ?_;rintro e w3 ⟨⟨A3,n3,c3,rfl,kH⟩,bJ⟩;have hwW:=eT.out.lt;have wH:=qqh (kH.keep (X':=fun b=>Y b∨w.heap.size≤b) (aa.refl (fun b h=>by rcases h with h | h;exact h.1;exact .inr (by omega))));have QJ:=qqh (kH.keep (X':=fun b=>(Y b∨w.heap.size≤b)∧b≠w.heap.size) (aa.refl (fun b h=>by rcases h with h | h;exact h;exact⟨.inr (by omega),by omega⟩)));have eF:=qqh (aj.below eT.out bJ eT.out.lt);have bN:=qqh (bt.out.trans (bJ.mono bt.out.size));have y0:=eF.out.cell 0
  have y1:=eF.out.cell 1;have g0:=eF.out.frozen 0;have g1:=eF.out.frozen 1;obtain⟨x,f,hx⟩:∃ x f,gj p l'=(x,f):=⟨_,_,rfl⟩;rw [hx]at ep OG wH QJ ⊢;dsimp only at ep OG wH QJ ⊢;clear bJ kH p0 p1 HM hx;by_cases Yu:f=0
  ·subst Yu;have HG:=qqh (ep.out.trans (if_neg (fun h=>h rfl)));go_wp2_with fail;exact⟨⟨k+1,x,A3,n3,c3,by omega,by go_num,rfl,wH.out,QJ.out,OG.out,HG.out,eF.out,bN.out⟩,by simp [intOf];omega⟩
  have HG:=qqh (ep.out.trans (if_pos Yu));go_wp2_with fail;rw [HG.out];exact bodyPost_ret (v:=.tuple #[.slice none 0 0,.agg #[.int .i64 f,.int .i64 k]]) (by simp [results,Tryz.results19,go_sem,y0,y1]) rfl ⟨⟨none,0,0,rfl,⟨rfl,fun h=>absurd h (Nat.lt_irrefl 0)⟩⟩,(bN.out.setCell (by simp) _).setCell (by simp) _⟩
 obtain rfl:k=n2:=(by omega);rw [List.drop_of_length_le (by rw [aS.out];exact Nat.le_refl _),allI]at aY;have HG:=qqh aY;have y0:=hf.cell 0;have y1:=hf.cell 1;have g0:=hf.frozen 0;have g1:=hf.frozen 1;have HR:=qqh ((hl'.keep (aa.setCell (X':=fun b=>(Y b∨w.heap.size≤b)∧b≠w.heap.size) (p:=⟨w.heap.size,0,none⟩) (.int .i64 0) (fun b h=>h.2) (fun _ h _=>h))).keep (aa.setCell (X':=fun b=>Y b∨w.heap.size≤b) (p:=⟨w.heap.size,1,none⟩) (.int .i64 0) (fun b h=>h.2) (fun _ h _=>h.1)));have HB:=qqh hb;clear aY hl hl' hf hb;go_wp2_with fail;rw [HG.out];exact bodyPost_ret (v:=.tuple #[.slice A' n' c',.agg #[.int .i64 0,.int .i64 0]]) (by simp [results,Tryz.results19,go_sem,y0,y1]) rfl ⟨⟨A',n',c',rfl,HR.out⟩,(HB.out.setCell (by simp) _).setCell (by simp) _⟩
theorem qG {w:World} {X:Nat→Prop} {A:Option Addr} {n k:Nat} {xs:List Value} (h:cy w X 1 A n xs) (hk:k≤n):cy w X 1 A k (xs.take k):=by
 refine⟨by rw [List.length_take,h.1];omega,fun h0=>?_⟩;obtain⟨b,off,e,hx,hl,hc⟩:=h.2 (by omega);refine⟨b,off,e,hx,hl,fun j u hu=>hc j u ?_⟩;rw [List.getElem?_take]at hu;split at hu;exact hu;cases hu
theorem vL {w:World} {X:Nat→Prop} {b off n k:Nat} {xs:List Value} (h:cy w X 1 (some ⟨b,off,none⟩) n xs) (hk:k≤n):cy w X 1 (some ⟨b,off+k,none⟩) (n - k) (xs.drop k):=by
 refine⟨by rw [List.length_drop,h.1];omega,fun h0=>?_⟩;obtain⟨b',off',e,hx,hl,hc⟩:=h.2 (by omega);cases e;refine⟨b,off+k,rfl,hx,hl,fun j u hu=>?_⟩;rw [List.getElem?_drop]at hu;have:=hc _ u hu;rwa [← Nat.add_assoc]at this
theorem iE (E:List Int) (k:Nat):(runeCells E).drop k=runeCells (E.drop k):=by simp [runeCells]
theorem gh (E:List Int) (k:Nat):(runeCells E).take k=runeCells (E.take k):=by simp [runeCells]
def Vh (lo M:Nat) (v:Value) (b:Nat):Prop:=lo≤b∧b≠M∧v.ownBlock≠some b
structure Kv (w:World) (M:Nat) (s8:Value) (done:List Int) (nd:Nat) (b9 o9 nz:Nat) (rest:List Int) (st pt:Int) (wr:World):Prop where
  own:wr.ownsRow w.heap.size 21 1 s8 nd (runeCells done)
  rd:cy wr (Vh w.heap.size M s8) 1 (some ⟨b9,o9,none⟩) nz (runeCells rest)
  out:aj wr M 51 #[.slice none 0 0,.int .i64 st,.int .i64 pt]
  r4:aj wr w.heap.size 51 #[.slice none 0 0,.int .i64 0,.int .i64 0]
  r5:aj wr (w.heap.size+1) 38 #[.int .i64 0,.int .i64 0]
  below:Below w.heap.size w wr
  dl:done.length=nd
  ml:w.heap.size+1<M
section
variable {w wr w' : World} {M nd b9 o9 nz : Nat} {s8 : Value} {done rest : List Int} {st pt : Int}
theorem Kv.set (h:Kv w M s8 done nd b9 o9 nz rest st pt wr) (i:Nat) (u:Value) {st' pt':Int} (he:(#[.slice none 0 0,.int .i64 st,.int .i64 pt]:Array Value).setIfInBounds i u = #[.slice none 0 0,.int .i64 st',.int .i64 pt']) :
    Kv w M s8 done nd b9 o9 nz rest st' pt' (wr.setCell ⟨M,i,none⟩ u) :=
  ⟨fY h.own h.out (by decide),h.rd.keep (aa.setCell u (fun b hb=>hb.2.1) (fun _ hb _=>hb)),by rw [← he];exact h.out.put i u,
    (by have:=h.ml;exact(Below.heap_setCell _ _ _ _ (by simp only;omega)).trans h.r4),(by have:=h.ml;exact(Below.heap_setCell _ _ _ _ (by simp only;omega)).trans h.r5),h.below.setCell (by have:=h.ml;simp only;omega) u,h.dl,h.ml⟩
end
def qC (s:bC) (x:Int):Bool:=!s.only? || bB s.only x
def iC (s:bC) (pc out:List Int):List Int × (Int × Int) :=
  if pc = []then (out,(0,0))else if (allI 0 s.passes pc).2.1≠0 then ([],(allI 0 s.passes pc).2)else (out++(allI 0 s.passes pc).1,(0,0))
def mu (s:bC):List Int→List Int→List Int→List Int × (Int × Int)
  | [],pc,out=>iC s pc out
  | x::t,pc,out=>if qC s x=true then mu s t (pc++[x]) out else if (iC s pc out).2.1≠0 then ([],(iC s pc out).2)else mu s t [] ((iC s pc out).1++[x])
def Di (s:bC) (t:List Int):List Int × (Int × Int) :=
  if (bS s).1≠0 then ([],bS s)else if dS t≠0 then ([],(dS t,0))else if (mu s t [] []).2.1≠0 then ([],(mu s t [] []).2)else if 4000<(mu s t [] []).1.length then ([],(4,(s.passes.length:Int)))else ((mu s t [] []).1,(0,0))
theorem DJ {s:bC} {x:Int} {t pc out:List Int} (h:qC s x=true):mu s (x::t) pc out=mu s t (pc++[x]) out:=by rw [mu,if_pos h]
theorem qV (s:bC) (out:List Int):iC s [] out=(out,(0,0)):=by rw [iC,if_pos rfl]
theorem Cb {s:bC} {pc out x:List Int} {f:Int} (hp:pc ≠ []) (h:allI 0 s.passes pc=(x,(0,f))):iC s pc out=(out++x,(0,0)):=by
 rw [iC,if_neg hp,h,if_neg (fun h=>h rfl)]
theorem yC {s:bC} {pc out x:List Int} {e f:Int} (hp:pc ≠ []) (h:allI 0 s.passes pc=(x,(e,f))) (he:e≠0):iC s pc out=([],(e,f)):=by
 rw [iC,if_neg hp,h,if_pos he]
theorem Fw {s:bC} {x:Int} {t pc out o2:List Int} (h:qC s x=false) (hf:iC s pc out=(o2,(0,0))):mu s (x::t) pc out=mu s t [] (o2++[x]):=by
 rw [mu,if_neg (by rw [h];decide),hf,if_neg (fun h=>h rfl)]
theorem N6 {s:bC} {t pc out:List Int} {e f:Int} (h:∀ x t',t=x::t'→qC s x=false) (hf:iC s pc out=([],(e,f))) (he:e≠0):mu s t pc out=([],(e,f)):=by
 cases t with
 | nil=>exact hf
 | cons x t=>rw [mu,if_neg (by rw [h x t rfl];decide),hf,if_pos he]
theorem zh {s:bC} (h:(bS s).1=0) (ho:s.only? = true):aG s.only:=by
 unfold bS at h;by_cases hz:bL s.only=0;exact nR hz;rw [if_pos ⟨ho,hz⟩]at h;exact absurd h hz
theorem rP (b o n c:Nat) (l:List Int) (w:World) (hn:n≤1000000) (hl:pN w w.heap.size (some ⟨b,o,none⟩) n l) :
    Calls Tryz.prog 20 #[.slice (some ⟨b,o,none⟩) n c] w fun e w'=>(∃ v,e=.returned v∧w'.ownsRow w.heap.size 21 1 v n (runeCells l))∧Below w.heap.size w w':=by
 obtain⟨i0,hi,z0,z1,z2⟩:=info_parts Tryz.info21;have hba:=(Below.refl w.heap.size w).alloc (Nat.le_refl _) (.cells #[] 21);have AF:=qqh hba;have Pj:=qqh (nK w 21 1 w.heap.size w.heap.size rfl (Nat.le_refl _));have HL:=qqh (Rd.below hl hba);have hnil:∀ W:World,(binOp .eql 33 (.slice (some ⟨b,o,none⟩) n c) (.slice none 0 0)).run Tryz.prog W=.ok (.bool false) W:=fun _=>(by kernel_rfl);clear hba hl;go_enter Tryz.func20,Tryz.ntmps20;go_wp2_with (at_builtin;refine ai _ rfl (.tmp 5) (.tmp 6) 33 rfl w.heap.size 21 i0 _ 1 4 Tryz.underlying33 hi z0 z1 z2 rfl (by decide) _ _ _ rfl Pj.out _ (some ⟨b,o,none⟩) n c (runeCells l) rfl HL.out (aP _) (by simp only [maxLen];omega) (by omega) (by simp) ?_);intro v1 w1 an;have HO:=qqh (show w1.ownsRow w.heap.size 21 1 v1 n (runeCells l) by have:=an.own;simpa using this);have HB:=qqh (AF.out.trans (an.below (by simp) Pj.out));clear an;go_wp2_with fail;go_ret;exact⟨⟨_,rfl,HO.out⟩,HB.out⟩
def yN (lo:Nat) (w':World) (o:List Int × (Int × Int)) (e:Ending):Prop :=
  ∃ (A:Option Addr) (n c:Nat),e=.returned (.tuple #[.slice A n c,.agg #[.int .i64 o.2.1,.int .i64 o.2.2]])∧cy w' (fun b=>lo≤b) 1 A n (runeCells o.1)
structure AA (w:World) (cs:Array Value) (s8:Value) (out:List Int) (no:Nat) (wr:World):Prop where
  own:wr.ownsRow w.heap.size 21 1 s8 no (runeCells out)
  len:out.length=no
  scr:aj wr w.heap.size 27 cs
  fau:aj wr (w.heap.size+1) 38 #[.int .i64 0,.int .i64 0]
  below:Below w.heap.size w wr
theorem AA.go {w wr w':World} {cs:Array Value} {s8:Value} {out:List Int} {no:Nat} (h:AA w cs s8 out no wr) (hb:Below wr.heap.size wr w'):AA w cs s8 out no w' :=
  ⟨dJ h.own hb,h.len,aj.below h.scr hb h.scr.lt,aj.below h.fau hb h.fau.lt,h.below.trans (hb.mono h.below.size)⟩
theorem AA.push {w wr w':World} {cs:Array Value} {s8 v:Value} {out E:List Int} {no m:Nat} (h:AA w cs s8 out no wr) (hE:E.length=m) (an:aV w.heap.size 21 1 s8 wr (no+m) (runeCells out++runeCells E) v w'):AA w cs v (out++E) (no+m) w' :=
  ⟨by rw [de];exact an.own,by rw [List.length_append,h.len,hE],bV h.scr h.own (by decide) an,bV h.fau h.own (by decide) an,h.below.trans (an.below h.below.size h.own)⟩
def T9 (w:World) (s:bC) (t:List Int) (cs:Array Value) (nt:Nat) (s8 s9:Value) (wr:World):Prop :=
  ∃ (at_ no:Nat) (out:List Int),at_≤nt∧s9=.int .i64 at_∧no≤4001*at_∧mu s t [] [] = mu s (t.drop at_) [] out∧AA w cs s8 out no wr
def V2 (w1:World) (s:bC) (t out:List Int) (at_ nt:Nat) (i:Value) (wr:World):Prop :=
  ∃ j:Nat,at_+j≤nt∧i=.int .i64 (at_+j:Nat)∧mu s (t.drop at_) [] out=mu s (t.drop (at_+j)) ((t.drop at_).take j) out∧Below w1.heap.size w1 wr
theorem M1 {t:List Int} {at_ j:Nat} {x:Int} (h:t[at_+j]? = some x):(t.drop at_).take j++[x] =(t.drop at_).take (j+1):=by
 rw [List.take_add_one,List.getElem?_drop,h];rfl
theorem GS {t:List Int} {at_ j nt:Nat} (h:at_+j≤nt) (ht:t.length=nt):((t.drop at_).take j).length=j:=by rw [List.length_take,List.length_drop];omega
theorem Cp (X:Nat→Prop) (s:bC) (t:List Int) (A1 A2 At:Option Addr) (n1 c1 n2 c2 nt ct:Nat) (w:World) (hs:iq w X s A1 n1 A2 n2) (hnc:nt≤ct) (hnt:nt≤maxLen) (ht:pN w w.heap.size At nt t) :
    Calls Tryz.prog 8 #[.agg #[.bool s.only?,.slice A1 n1 c1,.slice A2 n2 c2],.slice At nt ct] w fun e w'=>yN w.heap.size w' (Di s t) e∧Below w.heap.size w w':=by
 obtain⟨i0,hi,z0,z1,z2⟩:=info_parts Tryz.info21;have htl:=ht.len;have hb0:=((Below.refl w.heap.size w).alloc (Nat.le_refl _) (.cells #[.bool s.only?,.slice A1 n1 c1,.slice A2 n2 c2] 27)).alloc (by simp) (.cells #[.int .i64 0,.int .i64 0] 38);have wK:=qqh (aj.alloc (aj.new w 27 #[.bool s.only?,.slice A1 n1 c1,.slice A2 n2 c2]) (.cells #[.int .i64 0,.int .i64 0] 38));have J7:=qqh (show aj ((w.alloc (.cells #[.bool s.only?,.slice A1 n1 c1,.slice A2 n2 c2] 27)).alloc (.cells #[.int .i64 0,.int .i64 0] 38)) (w.heap.size+1) 38 #[.int .i64 0,.int .i64 0] by
  have:=aj.new (w.alloc (.cells #[.bool s.only?,.slice A1 n1 c1,.slice A2 n2 c2] 27)) 38 #[.int .i64 0,.int .i64 0];simpa using this)
 have dV:=qqh hb0;have Ws:=qqh (fun(W:World) (hb:Below w.heap.size w W)=>show iq W X s A1 n1 A2 n2 from hs.keep (aa.any hb));have xo:=qqh (fun(W:World) (hb:Below w.heap.size w W)=>show pN W W.heap.size At nt t from(Rd.below ht hb).more hb.size);have HTW:=qqh ht;have sn:=qqh (show s.passes.length=n2 from hs.pas.len);have hm2:=hs.m2;clear hb0 hs ht;go_enter Tryz.func8,Tryz.ntmps8;go_upto_region 1 with fail;generalize (w.alloc (.cells #[.bool s.only?,.slice A1 n1 c1,.slice A2 n2 c2] 27)).alloc (.cells #[.int .i64 0,.int .i64 0] 38)=W0 at *;have HW:=qqh (rS X s A1 A2 n1 c1 n2 c2 W0 (Ws.out W0 dV.out));have x0:W0.cell? ⟨w.heap.size,0,none⟩=some (.bool s.only?):=wK.out.cell 0;have x1:W0.cell? ⟨w.heap.size,1,none⟩=some (.slice A1 n1 c1):=wK.out.cell 1;have x2:W0.cell? ⟨w.heap.size,2,none⟩=some (.slice A2 n2 c2):=wK.out.cell 2;go_wp2_with fail;refine HW.out.mono ?_;rintro e w1 ⟨rfl,aT⟩;have sv:=qqh (aj.below wK.out aT wK.out.lt);have KH:=qqh (aj.below J7.out aT J7.out.lt);have bR:=qqh (dV.out.trans (aT.mono dV.out.size));clear aT HW wK J7 dV x0 x1 x2;obtain⟨r1,r2,hR⟩:∃ r1 r2,bS s=(r1,r2):=⟨_,_,rfl⟩;have tC:=qqh (fun(h:r1=0) (ho:s.only? = true)=>zh (s:=s) (by rw [hR];exact h) ho);have XS:=qqh (show Di s t=if r1≠0 then ([],(r1,r2))else if dS t≠0 then ([],(dS t,0))else if (mu s t [] []).2.1≠0 then ([],(mu s t [] []).2)else if 4000<(mu s t [] []).1.length then ([],(4,(s.passes.length:Int)))else ((mu s t [] []).1,(0,0)) by unfold Di;rw [hR]);rw [hR];dsimp only;clear hR;have hw1:=KH.out.lt;have Ml:=qqh (sv.out.alloc (.cells #[.int .i64 r1,.int .i64 r2] 38))
 have JV:=qqh (KH.out.alloc (.cells #[.int .i64 r1,.int .i64 r2] 38));have HQ2:=qqh (aj.new w1 38 #[.int .i64 r1,.int .i64 r2]);have bt:=qqh (bR.out.alloc bR.out.size (.cells #[.int .i64 r1,.int .i64 r2] 38));go_upto_region 2 with fail;clear sv KH bR;generalize hW2:w1.alloc (.cells #[.int .i64 r1,.int .i64 r2] 38)=W2 at *;clear hW2;have z0':=HQ2.out.cell 0;have z1':=HQ2.out.cell 1;by_cases hz:r1=0
 ·subst hz;have MS:=qqh (XS.out.trans (if_neg (fun h=>h rfl)));have No:=qqh (oI At nt ct t W2 hnt (xo.out W2 bt.out));go_wp2_with fail;refine No.out.mono ?_;rintro e w3 ⟨rfl,bJ⟩;have OJ:=qqh (aj.below Ml.out bJ Ml.out.lt);have Ja:=qqh (aj.below JV.out bJ JV.out.lt);have bN:=qqh (bt.out.trans (bJ.mono bt.out.size));clear bJ No Ml JV bt HQ2 XS z0' z1';obtain⟨tp,IM⟩:∃ tp,dS t=tp:=⟨_,rfl⟩;have HTS:=qqh (fun(h:tp=0)=>sF (t:=t) (by rw [IM];exact h));rw [IM]at MS ⊢;clear IM;by_cases hz:tp=0
  ·subst hz;have MR:=qqh (MS.out.trans (if_neg (fun h=>h rfl)));have ad8:nt≤4000:=(by have:=HTS.out rfl;omega);generalize hcs:(#[.bool s.only?,.slice A1 n1 c1,.slice A2 n2 c2]:Array Value)=cs at *;have Mt:=qqh (show cs[0]? = some (.bool s.only?)∧cs[1]? = some (.slice A1 n1 c1)∧cs[2]? = some (.slice A2 n2 c2) by subst hcs;exact⟨rfl,rfl,rfl⟩);have SZ:=qqh (show AA w cs (.slice none 0 0) [] 0 w3 from⟨World.ownsRow_nil _ _ _ _,rfl,OJ.out,Ja.out,bN.out⟩);clear MS hcs OJ Ja bN;go_wp2_with fail;go_loopw [8,9] (T9 w s t cs nt) (fun _ s9 _=>nt - (intOf s9).toNat);(case atStart=>exact⟨0,0,[],Nat.zero_le _,rfl,Nat.le_refl _,rfl,SZ.out⟩);clear SZ;obtain⟨at_,no,out,jB,rfl,hno,aY,hst⟩:=hrel;have fk:=qqh hst;have ep:=qqh aY;obtain⟨Av,cv,rfl,_⟩:=aJ hst.own;have jg:=hst.below;have hzw:=jg.size;clear aY;by_cases hlt:at_<nt
   ·obtain⟨tb,Ls,rfl,htb,_⟩:=HTW.out.at hlt;have af8:decide ((at_:Int)<(nt:Int))=true:=decide_eq_true (by omega);clear hst;go_wp2_with fail;go_loopw [10] (V2 wr s t out at_ nt) (fun i _=>nt - (intOf i).toNat);(case atStart=>exact⟨0,by omega,rfl,by simp,Below.refl _ _⟩);obtain⟨j,hj,rfl,XP,Yg⟩:=hrel;have Mj:=qqh (ep.out.trans XP);have Xw:=qqh XP;have I7:=qqh (fk.out.go Yg);have HBI:=qqh Yg;have s0:wr.cell? ⟨w.heap.size,0,none⟩=some (.bool s.only?):=(I7.out.scr.cell 0).trans Mt.out.1;have s1:wr.cell? ⟨w.heap.size,1,none⟩=some (.slice A1 n1 c1):=(I7.out.scr.cell 1).trans Mt.out.2.1;obtain⟨en,Xh⟩:∃ en,at_+j=en:=⟨_,rfl⟩;have Fs:=qqh (GS hj htl);rw [Xh]at hj Mj Xw ⊢;clear XP Yg;by_cases hle:en<nt
    ·obtain⟨x,hx⟩:∃ z,t[en]? = some z:=⟨_,List.getElem?_eq_getElem (by omega)⟩;obtain⟨b',o',eA,_,cx⟩:=HTW.out.at hle;cases eA;rw [show t.getD en 0=x by simp [List.getD,hx]]at cx;have dx:wr.cell? ⟨tb,Ls+en,none⟩=some (.int .i32 x):=(I7.out.below.cell (p:=⟨tb,Ls+en,none⟩) htb).trans cx;have X5:decide ((en:Int)<(nt:Int))=true:=decide_eq_true (by omega);have HDX:=qqh (dH hx);have HAS:=qqh (M1 (t:=t) (at_:=at_) (j:=j) (by rw [Xh];exact hx));rw [HDX.out]at Mj Xw;clear hx cx;cases ho:s.only?
     ·have Ms:=qqh (show qC s x=true by unfold qC;rw [ho];rfl);rw [ho]at s0;have Uu:=qqh (Xw.out.trans (DJ Ms.out));rw [HAS.out]at Uu;clear ho;go_upto_region 11 with fail;go_quiet (fail);go_wp2_with fail;exact⟨⟨j+1,by omega,by go_num,by rw [← Nat.add_assoc,Xh];exact Uu.out,below_drewN HBI.out nq⟩,by simp [intOf];omega⟩
     have WO:=qqh (fun(W:World) (hb:Below w.heap.size w W)=>uo A1 n1 c1 s.only x W (tC.out (by trivial) ho) (cy.of (Ws.out W hb).only));rw [ho]at s0;have Ms:=qqh (show qC s x=bB s.only x by unfold qC;rw [ho];rfl);clear ho;go_upto_region 11 with fail;go_region_with (go_at_call 13;refine(WO.out _ (az I7.out.below)).mono ?_;rintro e wh ⟨rfl,hbh⟩)
     all_goals
       have HBH:=qqh ((az (Below.refl wr.heap.size wr)).trans hbh)
       clear hbh
       cases hh:bB s.only x
       · have HMF:=qqh (Ms.out.trans hh)
         have C8:=qqh (I7.out.go HBH.out)
         clear hh
         by_cases hj0:j=0
         · have hgt:decide ((at_:Int)<(en:Int))=false:=decide_eq_false (by omega)
           have FZ:=(Below.refl wh.heap.size wh).alloc (Nat.le_refl _) (.cells #[.int .i32 x] 21)
           have iV:=qqh (C8.out.go FZ)
           have O7:=qqh (Rd.new wh 21 1 1 [.int .i32 x] rfl)
           have dx2:wh.cell? ⟨tb,Ls+en,none⟩=some (.int .i32 x):=(C8.out.below.cell (p:=⟨tb,Ls+en,none⟩) htb).trans (((I7.out.below.cell (p:=⟨tb,Ls+en,none⟩) htb).symm).trans dx)
           clear FZ
           go_wp2_with (at_builtin;refine ai _ rfl (.tmp 73) (.tmp 78) 33 rfl w.heap.size 21 i0 _ 1 4 Tryz.underlying33 hi z0 z1 z2 rfl (by decide) _ (no) _ rfl iV.out.own _ (some ⟨wh.heap.size,0,none⟩) 1 1 (runeCells [x]) rfl O7.out (aP _) (by simp only [maxLen];omega) (by omega) iV.out.below.size ?_)
           intro vf wf an
           have iz:=qqh (iV.out.push (E:=[x]) rfl an)
           obtain⟨Af,cf,rfl,_⟩:=aJ iz.out.own
           have qZ:=qqh (show mu s t [] [] = mu s (t.drop (en+1)) [] (out++[x]) from Mj.out.trans (Fw HMF.out (by rw [show(t.drop at_).take j = [] by rw [hj0];rfl];exact qV s out)))
           clear an iV O7
           go_wp2_with fail
           exact⟨⟨en+1,no+1,out++[x],by omega,by go_num,by omega,qZ.out,iz.out⟩,by simp [intOf];omega⟩
         · have QV:0<j:=by omega
           have hne:¬ ct=at_:=by omega
           have YK:en - at_=j:=by omega
           have xJ:=qqh (cy.FF (X:=fun _=>True) (xo.out _ C8.out.below) (Nat.le_refl _) (fun _ _=>trivial))
           have E2:=qG (vL xJ.out (show at_≤nt by omega)) (show j≤nt - at_ by omega)
           rw [iE,gh]at E2
           have tU:=qqh (rP tb (Ls+at_) j (ct - at_) ((t.drop at_).take j) _ (by omega) E2.of)
           have hgt:decide ((at_:Int)<(en:Int))=true:=decide_eq_true (by omega)
           clear E2 xJ
           go_wp2_with fail
           refine tU.out.mono ?_
           rintro e wc ⟨⟨v,rfl,hown⟩,hbc⟩
           obtain⟨Ac,cc,rfl,_⟩:=aJ hown
           have zw:=qqh (C8.out.go hbc)
           have oZ:=qqh (yt X (fun b=>w.heap.size≤b) s w.heap.size A1 A2 Ac n1 n2 c2 j cc ((t.drop at_).take j) wc (Ws.out wc zw.out.below) ((zw.out.scr.cell 2).trans Mt.out.2.2) zw.out.scr.lt (by rw [Fs.out];omega) (cy.cj hown (fun b hb=>Nat.le_trans C8.out.below.size (aU hown hb).1)))
           have Kz:=qqh (wm s.passes 0 ((t.drop at_).take j) (by rw [Fs.out];omega))
           clear hown hbc tU
           go_wp2_with fail
           refine oZ.out.mono ?_
           rintro e wd ⟨⟨A4,n4,c4,rfl,Ku⟩,hb4⟩
           have hzc:=zw.out.below.size
           obtain⟨y,f1,f2,hall⟩:∃ y f1 f2,allI 0 s.passes ((t.drop at_).take j)=(y,(f1,f2)):=⟨_,_,_,rfl⟩
           have P7:=qqh hall
           rw [hall]at Ku Kz ⊢
           dsimp only at Ku Kz ⊢
           have hba:=(Below.refl wd.heap.size wd).alloc (Nat.le_refl _) (.cells #[.int .i64 f1,.int .i64 f2] 38)
           have wD:=qqh ((zw.out.go hb4).go hba)
           have Dh:=qqh (Rd.below Ku.of hba)
           have Md:=qqh (show y.length=n4 by have:=Ku.1;rw [runeCells_length]at this;omega)
           have Gm:=qqh (aj.new wd 38 #[.int .i64 f1,.int .i64 f2])
           have T4:w.heap.size+1<wd.heap.size:=Nat.lt_of_lt_of_le zw.out.fau.lt hb4.size
           have CN:=qqh (show(t.drop at_).take j ≠ [] by intro e;have:=Fs.out;rw [e]at this;simp at this;omega)
           clear Ku hba hb4 oZ hall
           go_upto_region 15 with fail
           generalize YI:wd.alloc (.cells #[.int .i64 f1,.int .i64 f2] 38)=WD at *
           have aaK:wd.heap.size<WD.heap.size:=Gm.out.lt
           clear YI
           have q0:=Gm.out.cell 0
           have q1:=Gm.out.cell 1
           by_cases hf:f1=0
           · subst hf
             have AI:n4≤4000:=by rw [← Md.out];exact Kz.out
             have kZ:=qqh (Cb CN.out P7.out (out:=out))
             go_wp2_with (at_builtin;refine ai _ rfl (.tmp 66) (.tmp 67) 33 rfl w.heap.size 21 i0 _ 1 4 Tryz.underlying33 hi z0 z1 z2 rfl (by decide) _ no _ rfl wD.out.own _ A4 n4 c4 (runeCells y) rfl Dh.out (aP _) (by simp only [maxLen];omega) (by omega) wD.out.below.size ?_)
             intro ve we an
             have xK:=qqh (wD.out.push Md.out an)
             obtain⟨Ae,ce,rfl,_⟩:=aJ xK.out.own
             clear an wD zw C8 P7 CN q0 q1 Gm
             have FZ:=(Below.refl we.heap.size we).alloc (Nat.le_refl _) (.cells #[.int .i32 x] 21)
             have iV:=qqh (xK.out.go FZ)
             have O7:=qqh (Rd.new we 21 1 1 [.int .i32 x] rfl)
             have dx2:we.cell? ⟨tb,Ls+en,none⟩=some (.int .i32 x):=(xK.out.below.cell (p:=⟨tb,Ls+en,none⟩) htb).trans (((I7.out.below.cell (p:=⟨tb,Ls+en,none⟩) htb).symm).trans dx)
             clear FZ
             go_wp2_with (at_builtin;refine ai _ rfl (.tmp 73) (.tmp 78) 33 rfl w.heap.size 21 i0 _ 1 4 Tryz.underlying33 hi z0 z1 z2 rfl (by decide) _ ((no+n4)) _ rfl iV.out.own _ (some ⟨we.heap.size,0,none⟩) 1 1 (runeCells [x]) rfl O7.out (aP _) (by simp only [maxLen];omega) (by omega) iV.out.below.size ?_)
             intro vf wf an
             have iz:=qqh (iV.out.push (E:=[x]) rfl an)
             obtain⟨Af,cf,rfl,_⟩:=aJ iz.out.own
             have qZ:=qqh (show mu s t [] [] = mu s (t.drop (en+1)) [] ((out++y)++[x]) from Mj.out.trans (Fw HMF.out kZ.out))
             clear an iV O7
             go_wp2_with fail
             exact⟨⟨en+1,(no+n4)+1,(out++y)++[x],by omega,by go_num,by omega,qZ.out,iz.out⟩,by simp [intOf];omega⟩
           · have kZ:=qqh (yC CN.out P7.out hf (out:=out))
             have HG:=qqh (show Di s t=([],(f1,f2)) by rw [MR.out,Mj.out,N6 (s:=s) (t:=x::t.drop (en+1)) (fun x' t' e=>by cases e;exact HMF.out) kZ.out hf,if_pos hf])
             have y0:=wD.out.fau.cell 0
             have y1:=wD.out.fau.cell 1
             have g0:=wD.out.fau.frozen 0
             have g1:=wD.out.fau.frozen 1
             have JH:¬ w.heap.size+1=wd.heap.size:=by omega
             have KO:¬ wd.heap.size=w.heap.size+1:=by omega
             go_upto_region 16 with fail
             go_region
             all_goals
               go_wp2_with fail
               rw [HG.out]
               exact bodyPost_ret (v:=.tuple #[.slice none 0 0,.agg #[.int .i64 f1,.int .i64 f2]]) (by simp [results,Tryz.results8,go_sem,y0,y1]) rfl ⟨⟨none,0,0,rfl,⟨rfl,fun h=>absurd h (Nat.lt_irrefl 0)⟩⟩,((wD.out.below.setCell (by simp) _).setCell (by simp) _).drew⟩
       · have Uu:=qqh (Xw.out.trans (DJ (Ms.out.trans hh)))
         rw [HAS.out]at Uu
         clear hh
         go_wp2_with fail
         exact⟨⟨j+1,by omega,by go_num,by rw [← Nat.add_assoc,Xh];exact Uu.out,HBI.out.trans (HBH.out.mono HBI.out.size)⟩,by simp [intOf];omega⟩
    obtain rfl:en=nt:=(by omega);have X5:decide ((en:Int)<(en:Int))=false:=decide_eq_false (by omega);go_upto_region 11 with fail;go_quiet (fail);have C8:=qqh (show AA w cs (.slice Av no cv) out no (wr.drewN nq) from I7.out.go (below_drewN (Below.refl _ _) nq));have QV:0<j:=(by omega);generalize wr.drewN nq=wh at *;have hne:¬ ct=at_:=(by omega);have YK:en - at_=j:=(by omega);have xJ:=qqh (cy.FF (X:=fun _=>True) (xo.out _ C8.out.below) (Nat.le_refl _) (fun _ _=>trivial));have E2:=qG (vL xJ.out (show at_≤en by omega)) (show j≤en - at_ by omega);rw [iE,gh]at E2;have tU:=qqh (rP tb (Ls+at_) j (ct - at_) ((t.drop at_).take j) _ (by omega) E2.of);have hgt:decide ((at_:Int)<(en:Int))=true:=decide_eq_true (by omega);clear E2 xJ;go_wp2_with fail;refine tU.out.mono ?_;rintro e wc ⟨⟨v,rfl,hown⟩,hbc⟩;obtain⟨Ac,cc,rfl,_⟩:=aJ hown;have zw:=qqh (C8.out.go hbc);have oZ:=qqh (yt X (fun b=>w.heap.size≤b) s w.heap.size A1 A2 Ac n1 n2 c2 j cc ((t.drop at_).take j) wc (Ws.out wc zw.out.below) ((zw.out.scr.cell 2).trans Mt.out.2.2) zw.out.scr.lt (by rw [Fs.out];omega) (cy.cj hown (fun b hb=>Nat.le_trans C8.out.below.size (aU hown hb).1)));have Kz:=qqh (wm s.passes 0 ((t.drop at_).take j) (by rw [Fs.out];omega));clear hown hbc tU;go_wp2_with fail;refine oZ.out.mono ?_;rintro e wd ⟨⟨A4,n4,c4,rfl,Ku⟩,hb4⟩;have hzc:=zw.out.below.size;obtain⟨y,f1,f2,hall⟩:∃ y f1 f2,allI 0 s.passes ((t.drop at_).take j)=(y,(f1,f2)):=⟨_,_,_,rfl⟩;have P7:=qqh hall;rw [hall]at Ku Kz ⊢;dsimp only at Ku Kz ⊢;have hba:=(Below.refl wd.heap.size wd).alloc (Nat.le_refl _) (.cells #[.int .i64 f1,.int .i64 f2] 38);have wD:=qqh ((zw.out.go hb4).go hba);have Dh:=qqh (Rd.below Ku.of hba)
    have Md:=qqh (show y.length=n4 by have:=Ku.1;rw [runeCells_length]at this;omega);have Gm:=qqh (aj.new wd 38 #[.int .i64 f1,.int .i64 f2]);have T4:w.heap.size+1<wd.heap.size:=Nat.lt_of_lt_of_le zw.out.fau.lt hb4.size;have CN:=qqh (show(t.drop at_).take j ≠ [] by intro e;have:=Fs.out;rw [e]at this;simp at this;omega);clear Ku hba hb4 oZ hall;go_upto_region 15 with fail;generalize YI:wd.alloc (.cells #[.int .i64 f1,.int .i64 f2] 38)=WD at *;have aaK:wd.heap.size<WD.heap.size:=Gm.out.lt;clear YI;have q0:=Gm.out.cell 0;have q1:=Gm.out.cell 1;by_cases hf:f1=0
    ·subst hf;have AI:n4≤4000:=(by rw [← Md.out];exact Kz.out);have kZ:=qqh (Cb CN.out P7.out (out:=out));go_wp2_with (at_builtin;refine ai _ rfl (.tmp 66) (.tmp 67) 33 rfl w.heap.size 21 i0 _ 1 4 Tryz.underlying33 hi z0 z1 z2 rfl (by decide) _ no _ rfl wD.out.own _ A4 n4 c4 (runeCells y) rfl Dh.out (aP _) (by simp only [maxLen];omega) (by omega) wD.out.below.size ?_);intro ve we an;have xK:=qqh (wD.out.push Md.out an);obtain⟨Ae,ce,rfl,_⟩:=aJ xK.out.own;clear an wD zw C8 P7 CN q0 q1 Gm;have M9:mu s t [] [] = mu s (t.drop en) [] (out++y):=by
      rw [Mj.out,List.drop_of_length_le (by omega),mu,mu,kZ.out,qV]
     have qZ:=qqh M9;clear M9;go_wp2_with fail;exact⟨⟨en,no+n4,out++y,Nat.le_refl _,rfl,by omega,qZ.out,xK.out⟩,by simp [intOf];omega⟩
    have kZ:=qqh (yC CN.out P7.out hf (out:=out));have HG:=qqh (show Di s t=([],(f1,f2)) by rw [MR.out,Mj.out,List.drop_of_length_le (by omega),mu,kZ.out,if_pos hf]);have y0:=wD.out.fau.cell 0;have y1:=wD.out.fau.cell 1;have g0:=wD.out.fau.frozen 0;have g1:=wD.out.fau.frozen 1;have JH:¬ w.heap.size+1=wd.heap.size:=(by omega);have KO:¬ wd.heap.size=w.heap.size+1:=(by omega);go_upto_region 16 with fail;go_region
    all_goals
      go_wp2_with fail
      rw [HG.out]
      exact bodyPost_ret (v:=.tuple #[.slice none 0 0,.agg #[.int .i64 f1,.int .i64 f2]]) (by simp [results,Tryz.results8,go_sem,y0,y1]) rfl ⟨⟨none,0,0,rfl,⟨rfl,fun h=>absurd h (Nat.lt_irrefl 0)⟩⟩,((wD.out.below.setCell (by simp) _).setCell (by simp) _).drew⟩
   obtain rfl:at_=nt:=(by omega);have Tr:=qqh (show mu s t [] [] =(out,(0,0)) by rw [ep.out,List.drop_of_length_le (by omega),mu,qV]);have hlen:=fk.out.len;by_cases h4:4000<no
   ·have HG:=qqh (show Di s t=([],(4,(n2:Int))) by rw [MR.out,Tr.out,if_neg (fun h=>h rfl),if_pos (by rw [hlen];exact h4),sn.out]);have d2:wr.cell? ⟨w.heap.size,2,none⟩=some (.slice A2 n2 c2):=(hst.scr.cell 2).trans Mt.out.2.2;have y0:=hst.fau.cell 0;have y1:=hst.fau.cell 1;have g0:=hst.fau.frozen 0;have g1:=hst.fau.frozen 1;have hne:¬ w.heap.size=w.heap.size+1:=(by omega);clear hst;go_upto_region 23 with fail;go_region
    all_goals
      go_wp2_with fail
      rw [HG.out]
      exact bodyPost_ret (v:=.tuple #[.slice none 0 0,.agg #[.int .i64 4,.int .i64 n2]]) (by simp [results,Tryz.results8,go_sem,y0,y1]) rfl ⟨⟨none,0,0,rfl,⟨rfl,fun h=>absurd h (Nat.lt_irrefl 0)⟩⟩,((fk.out.below.setCell (by simp) _).setCell (by simp) _).drew⟩
   have HG:=qqh (show Di s t=(out,(0,0)) by rw [MR.out,Tr.out,if_neg (fun h=>h rfl),if_neg (by rw [hlen];exact h4)]);have y0:=hst.fau.cell 0;have y1:=hst.fau.cell 1;have g0:=hst.fau.frozen 0;have g1:=hst.fau.frozen 1;have q1:=fY (i:=0) (u:=.int .i64 0) hst.own hst.fau (by decide);have q2:=fY (i:=1) (u:=.int .i64 0) q1 (hst.fau.put 0 _) (by decide);have qD:=qqh (cy.cj (X:=fun b=>w.heap.size≤b) q2 (fun b hb=>(aU q2 hb).1));clear hst q1 q2;go_wp2_with fail;rw [HG.out];exact bodyPost_ret (v:=.tuple #[.slice Av no cv,.agg #[.int .i64 0,.int .i64 0]]) (by simp [results,Tryz.results8,go_sem,y0,y1]) rfl ⟨⟨Av,no,cv,rfl,qD.out⟩,(fk.out.below.setCell (by simp) _).setCell (by simp) _⟩
  have HG:=qqh (MS.out.trans (if_pos hz));have y0:=Ja.out.cell 0;have y1:=Ja.out.cell 1;have g0:=Ja.out.frozen 0;have g1:=Ja.out.frozen 1;go_wp2_with fail;rw [HG.out];exact bodyPost_ret (v:=.tuple #[.slice none 0 0,.agg #[.int .i64 tp,.int .i64 0]]) (by simp [results,Tryz.results8,go_sem,y0,y1]) rfl ⟨⟨none,0,0,rfl,⟨rfl,fun h=>absurd h (Nat.lt_irrefl 0)⟩⟩,(bN.out.setCell (by simp) _).setCell (by simp) _⟩
 have HG:=qqh (XS.out.trans (if_pos hz));have y0:=JV.out.cell 0;have y1:=JV.out.cell 1;have g0:=JV.out.frozen 0;have g1:=JV.out.frozen 1;have JH:¬ w.heap.size+1=w1.heap.size:=(by omega);have KO:¬ w1.heap.size=w.heap.size+1:=(by omega);go_upto_region 3 with fail;go_region
 all_goals
   go_wp2_with fail
   rw [HG.out]
   exact bodyPost_ret (v:=.tuple #[.slice none 0 0,.agg #[.int .i64 r1,.int .i64 r2]]) (by simp [results,Tryz.results8,go_sem,y0,y1]) rfl ⟨⟨none,0,0,rfl,⟨rfl,fun h=>absurd h (Nat.lt_irrefl 0)⟩⟩,((bt.out.setCell (by simp) _).setCell (by simp) _).drew⟩
theorem CM:∀ (l:List ag) (Z Y:List Int),l.length≤Z.length→iT l (Z++Y)=iT l Z:=by
 intro l;induction l with
 | nil=>intro Z Y _;rfl
 | cons s l ih=>
  intro Z Y h;cases Z with
  | nil=>simp at h
  | cons z Z=>rw [List.cons_append,iT,iT,ih Z Y (by simpa using h)]
theorem q7 {T Y:List Int} {p:Int} {l:List ag} (h:p+l.length≤T.length):kj (T++Y) p l=kj T p l:=by
 unfold kj;by_cases hp:p<0
 ·rw [if_pos (.inl hp),if_pos (.inl hp)]
 rw [if_neg (by rw [List.length_append];omega),if_neg (by omega),List.drop_append_of_le_length (by omega)];exact CM l _ _ (by rw [List.length_drop];omega)
theorem Ez {r:ax} {A Z Y:List Int} (h:r.source.length+r.after.length<Z.length):eu r (A++(Z++Y)) A.length=eu r (A++Z) A.length:=by
 have e1:(A++Z).length=A.length+Z.length:=List.length_append;unfold eu;rw [← List.append_assoc,q7 (T:=A++Z) (l:=r.source) (by omega),q7 (T:=A++Z) (l:=r.before) (by omega),q7 (T:=A++Z) (l:=r.after) (by omega)];have e2:(A++Z++Y).length=A.length+Z.length+Y.length:=(by rw [List.length_append,e1]);rw [decide_eq_true (show A.length+r.source.length+r.after.length≠(A++Z++Y).length by omega),decide_eq_true (show A.length+r.source.length+r.after.length≠(A++Z).length by omega)]
theorem B5 {l:List ax} {A Z Y:List Int} (h:∀ r∈l,r.source.length+r.after.length<Z.length):cH l (A++(Z++Y)) A.length=cH l (A++Z) A.length:=by
 have hk:∀ ks,cM l (A++(Z++Y)) A.length ks=cM l (A++Z) A.length ks:=by
  intro ks;induction ks with
  | nil=>rfl
  | cons k ks ih=>
   rw [cM,cM,ih];have:hereAt l (A++(Z++Y)) A.length k=hereAt l (A++Z) A.length k:=by
    unfold hereAt;cases hr:l[k.toNat]? with
    | none=>rfl
    | some r=>exact Ez (h r (List.mem_of_getElem? hr))
   rw [this]
 exact hk _
def ju (l:List ax) (O:List Int) (bI:Nat) (done Z:List Int) (s:Nat):Prop:=s≤bI∧done.length+Z.length≤4000∧∃ p o,ez l (bI - s) done Z s p=(o,0)∧o.text=O
theorem ju.left {l:List ax} {O done Z:List Int} {bI s:Nat} {z:Int} (h:ju l O bI done (z::Z) s):s<bI:=by
 obtain⟨h1,h2,p,o,h3,_⟩:=h;rcases Nat.lt_or_ge s bI with h4 | h4;exact h4;rw [show bI - s=0 by omega]at h3;simp [ez]at h3
theorem ju.none {l:List ax} {O done Z:List Int} {bI s:Nat} {z:Int} (h:ju l O bI done (z::Z) s) (hw:cH l (done++z::Z) done.length = -1):ju l O bI (done++[z]) Z (s+1):=by
 have hl:=h.left;obtain⟨h1,h2,p,o,h3,h4⟩:=h;refine⟨hl,by rw [List.length_append];simp at h2 ⊢;omega,p,o,?_,h4⟩;rw [show bI - s=(bI - (s+1))+1 by omega,um hw]at h3;exact h3
theorem ju.rule {l:List ax} {O done Z:List Int} {bI s k:Nat} {z:Int} {r:ax} (h:ju l O bI done (z::Z) s) (hw:cH l (done++z::Z) done.length=(k:Int)) (hk:l[k]? = some r) :
    done.length+(r.target++(z::Z).drop r.source.length).length≤4000∧ju l O bI (done++(r.target++(z::Z).drop r.source.length).take r.af.toNat) ((r.target++(z::Z).drop r.source.length).drop r.af.toNat) (s+1):=by
 have hl:=h.left;obtain⟨h1,h2,p,o,h3,h4⟩:=h;rw [show bI - s=(bI - (s+1))+1 by omega]at h3;by_cases hm:4000<done.length+(r.target++(z::Z).drop r.source.length).length
 ·rw [vQ hw hk hm]at h3;cases h3
 rw [uj hw hk hm]at h3;refine⟨by omega,hl,?_,p+1,o,h3,h4⟩;rw [List.length_append,Nat.add_assoc,← List.length_append,List.take_append_drop];omega
theorem ju.done {l:List ax} {O done:List Int} {bI s:Nat} (h:ju l O bI done [] s):done=O:=by
 obtain⟨_,_,p,o,h3,h4⟩:=h;rw [lF]at h3;injection h3 with h3 _;rw [← h4,← h3]
theorem Eh {p:bZ} (h:p.name.toList = []) (l:List Int):gj p l=((fC p.rules l).1.text,(fC p.rules l).2.1):=by
 unfold gj isUpper isLower vT isNull;rw [h];rfl
theorem Ir {s:bC} (h:s.only? = false):∀ (t pc out:List Int),mu s t pc out=iC s (pc++t) out:=by
 intro t;induction t with
 | nil=>intro pc out;rw [mu,List.append_nil]
 | cons x t ih=>
  intro pc out;rw [DJ (by unfold qC;rw [h];rfl),ih,List.append_assoc];rfl
theorem Ia {o:DL × Int} (h:(sB o).2.1=0):o.2=0∧(sB o).1=o.1:=by
 unfold sB at h ⊢;by_cases h2:o.2=0
 ·rw [if_neg (fun h=>h h2)];exact⟨h2,rfl⟩
 rw [if_pos h2]at h;exact absurd h h2
theorem LQ {l:List ax} {t:List Int} (h:(fC l t).2.1=0):dS t=0∧ju l (fC l t).1.text (8*t.length+40) [] t 0:=by
 unfold fC at h ⊢;by_cases h1:(cP l).1=0
 ·rw [if_neg (fun h=>h h1)]at h ⊢;by_cases h2:dS t=0
  ·rw [if_neg (fun h=>h h2)]at h ⊢;by_cases h3:(gO l).2.1=0
   ·rw [if_neg (fun h=>h h3)]at h ⊢;obtain⟨h4,h5⟩:=Ia h;refine⟨h2,Nat.zero_le _,?_,0,(ez l (8*t.length+40) [] t 0 0).1,?_,by rw [h5]⟩
    ·unfold dS at h2;by_cases h6:4000<t.length
     ·rw [if_pos h6]at h2;cases h2
     simpa using h6
    rw [Nat.sub_zero,← h4]
   rw [if_pos h3]at h;exact absurd h h3
  rw [if_pos h2]at h;exact absurd h h2
 rw [if_pos h1]at h;exact absurd h h1
theorem go_fed {s:bC} {p:bZ} {t:List Int} (ho:s.only? = false) (hp:s.passes = [p]) (hn:p.name.toList = []) (h:(Di s t).2.1=0):(cP p.rules).1=0∧dS t=0∧ju p.rules (Di s t).1 (8*t.length+40) [] t 0:=by
 have h1:(bS s).1=0:=by
  by_cases h1:(bS s).1=0;exact h1;unfold Di at h;rw [if_pos h1]at h;exact absurd h h1
 have hw:(cP p.rules).1=0:=by
  unfold bS at h1;rw [if_neg (by rw [ho];intro h;cases h.1),hp,if_neg (by simp),fh]at h1;have hq:gY p=(cP p.rules).1:=(by unfold gY isNone;rw [hn];rfl);rw [hq]at h1;by_cases h2:(cP p.rules).1=0;exact h2;rw [if_pos h2]at h1;exact absurd h1 h2
 unfold Di at h ⊢;rw [if_neg (fun h2=>h2 h1)]at h ⊢;by_cases h2:dS t=0
 ·rw [if_neg (fun h3=>h3 h2)]at h ⊢;by_cases h3:(mu s t [] []).2.1=0
  ·rw [if_neg (fun h4=>h4 h3)]at h ⊢;by_cases h4:4000<(mu s t [] []).1.length
   ·rw [if_pos h4]at h;cases h
   rw [if_neg h4]at h ⊢;refine⟨hw,h2,?_⟩;dsimp only;rw [Ir ho,List.nil_append]at h3 ⊢;unfold iC at h3 ⊢;by_cases h5:t = []
   ·rw [if_pos h5,h5];exact⟨Nat.zero_le _,by simp,0,_,lF _ _ _ _ _,rfl⟩
   rw [if_neg h5]at h3 ⊢;have hall:allI 0 s.passes t=if (gj p t).2≠0 then ([],((gj p t).2,((0:Nat):Int)))else ((gj p t).1,(0,0)):=by
    rw [hp,allI];rfl
   rw [Eh hn]at hall;dsimp only at hall;by_cases h6:(fC p.rules t).2.1=0
   ·rw [if_neg (fun h7=>h7 h6)]at hall;rw [hall,if_neg (fun h7=>h7 rfl),List.nil_append];exact(LQ h6).2
   rw [if_pos h6]at hall;rw [hall,if_pos h6]at h3;exact absurd h3 h6
  rw [if_pos h3]at h;exact absurd h h3
 rw [if_pos h2]at h;exact absurd h h2
theorem F6 {a b c:List Int} (h:dS (a++(b++c))=0):dS b=0:=by
 unfold dS at h ⊢;by_cases h4:4000<(a++(b++c)).length
 ·rw [if_pos h4]at h;cases h
 rw [if_neg h4]at h;rw [List.length_append,List.length_append]at h4;rw [if_neg (by omega)];by_cases h3:cC b=true
 ·have:cC (a++(b++c))=true:=by
   unfold cC at h3 ⊢;rw [List.any_append,List.any_append,h3];simp
  rw [if_pos this]at h;cases h
 rw [if_neg h3]
theorem flat3 (a b c:List Int):([a,b,c]:List (List Int)).flatten=a++(b++c):=by simp
theorem UR {w:World} {a b c:List Int} {A B C:Option Addr} {n1 c1 n2 c2 n3 c3:Nat} (h1:Rd w w.heap.size 1 A n1 (runeCells a)) (h2:Rd w w.heap.size 1 B n2 (runeCells b)) (h3:Rd w w.heap.size 1 C n3 (runeCells c)) :
    AR w [a,b,c] [.slice A n1 c1,.slice B n2 c2,.slice C n3 c3]:=by
 intro i l u hl hu;match i,hl,hu with
 | 0,hl,hu=>simp at hl hu;subst hl hu;exact⟨_,_,_,rfl,h1⟩
 | 1,hl,hu=>simp at hl hu;subst hl hu;exact⟨_,_,_,rfl,h2⟩
 | 2,hl,hu=>simp at hl hu;subst hl hu;exact⟨_,_,_,rfl,h3⟩
 | i+3,hl,hu=>simp at hl
theorem GI {w:World} {X:Nat→Prop} {b o n c k:Nat} {xs:List Value} (h:cy w X 1 (some ⟨b,o,none⟩) n xs) (hk:k≤n) (hc:n≤c):cy w X 1 (some ⟨b,if c=k then o else o+k,none⟩) (n - k) (xs.drop k):=by
 by_cases e:c=k
 ·rw [if_pos e];have h0:n - k=0:=(by omega);refine⟨?_,fun h1=>by omega⟩;rw [List.length_drop,h.1];omega
 rw [if_neg e];exact vL h hk
end Go.Proofs.YtkggjgeihhialaaGreatDoor
