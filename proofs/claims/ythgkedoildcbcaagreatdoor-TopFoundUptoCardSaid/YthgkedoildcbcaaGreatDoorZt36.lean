/- ChainAll + RefRunAll + ChainGoAll -/
import Derived.Test.YthgkedoildcbcaaGreatDoorZt35
import Derived.Test.YthgkedoildcbcaaGreatDoorZt28
import Derived.BigRegion
import Derived.Deep.RegionWith
set_option maxHeartbeats 12800000
set_option maxRecDepth 100000
namespace Go.Proofs.YthgkedoildcbcaaGreatDoor
open Go.RowKit
theorem Ds (l:List aj):∀ (left:Nat) (done rest:List Int) (s p:Nat),done.length+rest.length≤4000→(bC l left done rest s p).1.text.length≤4000:=by
 intro left;induction left with
 | zero=>
  intro done rest s p h;cases rest with
  | nil=>simpa [fI] using h
  | cons z rest=>exact Nat.zero_le _
 | succ left ih=>
  intro done rest s p h;cases rest with
  | nil=>simpa [fI] using h
  | cons z rest=>
   rw [bC];split
   ·refine ih _ _ _ _ ?_;simp only [List.length_append,List.length_cons,List.length_nil]at h ⊢;omega
   split;exact Nat.zero_le _;split;exact Nat.zero_le _;rename_i hm;refine ih _ _ _ _ ?_;rw [List.length_append,Nat.add_assoc,← List.length_append,List.take_append_drop];omega
theorem uG {t:List Int} (h:cP t=0):t.length≤4000:=by
 unfold cP at h;by_cases h4:4000<t.length
 ·rw [if_pos h4]at h;cases h
 omega
theorem Fm (l:List aj) (t:List Int):(cF l t).1.text.length≤4000:=by
 unfold cF;split;exact Nat.zero_le _;split;exact Nat.zero_le _;rename_i h;split;exact Nat.zero_le _;unfold jV;split;exact Nat.zero_le _;exact Ds l _ _ _ _ _ (by have:=uG (t:=t) (by omega);simpa using this)
theorem xV (p:cn) {l:List Int} (h:l.length≤4000):(jy p l).1.length≤4000:=by
 unfold jy;split
 ·simpa using h
 split
 ·simpa using h
 split;exact Nat.zero_le _;split;exact h;exact Fm _ _
def allI:Nat→List cn→List Int→List Int × (Int × Int)
  | _,[],l=>(l,(0,0))
  | k,p::ps,l=>if (jy p l).2≠0 then ([],((jy p l).2,(k:Int)))else allI (k+1) ps (jy p l).1
theorem yL:∀ (ps:List cn) (k:Nat) (l:List Int),l.length≤4000→(allI k ps l).1.length≤4000:=by
 intro ps;induction ps with
 | nil=>intro k l h;exact h
 | cons p ps ih=>
  intro k l h;rw [allI];split;exact Nat.zero_le _;exact ih _ _ (xV p h)
def OM (Y:Nat→Prop) (lo:Nat) (w':World) (o:List Int × (Int × Int)) (e:Ending):Prop :=
  ∃ (A:Option Addr) (n c:Nat),e=.returned (.tuple #[.slice A n c,.agg #[.int .i64 o.2.1,.int .i64 o.2.2]])∧bW w' (fun b=>Y b∨lo≤b) 1 A n (runeCells o.1)
def WO (w:World) (Y:Nat→Prop) (s:b8) (l:List Int) (n2:Nat) (s1 i:Value) (wr:World):Prop :=
  ∃ (k:Nat) (l':List Int) (A:Option Addr) (n c:Nat),k≤n2∧i=.int .i64 k∧s1=.slice A n c∧bW wr (fun b=>Y b∨w.heap.size≤b) 1 A n (runeCells l')∧bW wr (fun b=>(Y b∨w.heap.size≤b)∧b≠w.heap.size) 1 A n (runeCells l')∧l'.length≤4000∧allI 0 s.passes l=allI k (s.passes.drop k) l'∧ai wr w.heap.size 32 #[.int .i64 0,.int .i64 0]∧Below w.heap.size w wr
theorem zY (X Y:Nat→Prop) (s:b8) (b0:Nat) (A1 A2 A:Option Addr) (n1 n2 c2 n c:Nat) (l:List Int) (w:World) (hs:gW w X s A1 n1 A2 n2) (h0:w.cell? ⟨b0,2,none⟩=some (.slice A2 n2 c2)) (hb0:b0<w.heap.size) (TH:l.length≤4000) (hl:bW w Y 1 A n (runeCells l)) :
    Calls Tryz.prog 39 #[.pointer (some ⟨b0,0,none⟩),.slice A n c] w fun e w'=>OM Y w.heap.size w' (allI 0 s.passes l) e∧Below w.heap.size w w':=by
 have hm2:=hs.m2;have hba:=(Below.refl w.heap.size w).alloc (Nat.le_refl _) (.cells #[.int .i64 0,.int .i64 0] 32);have d2:(w.alloc (.cells #[.int .i64 0,.int .i64 0] 32)).cell? ⟨b0,2,none⟩=some (.slice A2 n2 c2):=(hba.cell (p:=⟨b0,2,none⟩) hb0).trans h0;have aV:=qqh (show s.passes.length=n2 from hs.pas.len);have HS:=qqh hs;have sY:=qqh (ai.new w 32 #[.int .i64 0,.int .i64 0]);have dO:=qqh hba;have N6:=qqh (hl.keep (X':=fun b=>Y b∨w.heap.size≤b) (af.below hba (fun _ h _=>.inl h)));have KN:=qqh (hl.keep (X':=fun b=>(Y b∨w.heap.size≤b)∧b≠w.heap.size) (af.below hba (fun b h hl=>⟨.inl h,by omega⟩)));have Wj:=qqh TH;clear hs hba hl h0;simp only [maxLen]at hm2;go_enter Tryz.func39,Tryz.ntmps39;go_wp2_with fail;go_loopw [1,14] (WO w Y s l n2) (fun _ i _=>n2 - (intOf i).toNat);(case atStart=>exact⟨0,l,A,n,c,Nat.zero_le _,rfl,rfl,N6.out,KN.out,Wj.out,rfl,sY.out,dO.out⟩);obtain⟨k,l',A',n',c',hk,rfl,rfl,hl,hl',acs,aX,hf,hb⟩:=hrel;have hz:=hb.size;have hln:=hl.1;rw [runeCells_length]at hln;by_cases hlt:k<n2
 ·obtain⟨p,hp⟩:∃ z,s.passes[k]? = some z:=⟨_,List.getElem?_eq_getElem (by rw [aV.out];exact hlt)⟩;obtain⟨b,off,Ar,nr,cr,rfl,_,dL,e0,e1,hr,wJ⟩:=rM (HS.out.pas.keep (af.any hb) (fun _ _=>cM.keep (af.any hb))) hp;rw [cB hp,allI]at aX;have dY:=qqh aX;have hba:=(Below.refl wr.heap.size wr).alloc (Nat.le_refl _) (.cells #[.string p.name,.slice Ar nr cr] 59);have fm:=qqh (hf.alloc (.cells #[.string p.name,.slice Ar nr cr] 59));have bG:=qqh (hb.trans (hba.mono hz));have HP:=qqh (ai.new wr 59 #[.string p.name,.slice Ar nr cr]);have HM:=qqh (F9 X (fun b=>(Y b∨w.heap.size≤b)∧b≠w.heap.size) p Ar A' nr cr n' c' l' (wr.alloc (.cells #[.string p.name,.slice Ar nr cr] 59)) wJ (hr.keep (af.any hba) (fun _ _=>aO.keep (af.any hba))) (by omega) (hl'.keep (af.any hba)));have Sp:=qqh (xV p acs);clear aX hr hf hb hba hp hl hl';go_upto_region 4 with fail;generalize hW:wr.alloc (.cells #[.string p.name,.slice Ar nr cr] 59)=W at *;have hwz:wr.heap.size<W.heap.size:=HP.out.lt;clear hW e0 e1;have p0:W.cell? ⟨wr.heap.size,0,none⟩=some (.string p.name):=HP.out.cell 0;have p1:W.cell? ⟨wr.heap.size,1,none⟩=some (.slice Ar nr cr):=HP.out.cell 1;go_wp2_with fail;refine HM.out.mono ?_;rintro e w3 ⟨⟨A3,n3,c3,rfl,lF⟩,bN⟩;have hwW:=fm.out.lt;have sX:=qqh (lF.keep (X':=fun b=>Y b∨w.heap.size≤b) (af.refl (fun b h=>by rcases h with h | h;exact h.1;exact .inr (by omega))));have Sd:=qqh (lF.keep (X':=fun b=>(Y b∨w.heap.size≤b)∧b≠w.heap.size) (af.refl (fun b h=>by rcases h with h | h;exact h;exact⟨.inr (by omega),by omega⟩)));have eV:=qqh (ai.below fm.out bN fm.out.lt);have bL:=qqh (bG.out.trans (bN.mono bG.out.size));have y0:=eV.out.cell 0
  have y1:=eV.out.cell 1;have g0:=eV.out.frozen 0;have g1:=eV.out.frozen 1;obtain⟨x,f,hx⟩:∃ x f,jy p l'=(x,f):=⟨_,_,rfl⟩;rw [hx]at dY Sp sX Sd ⊢;dsimp only at dY Sp sX Sd ⊢;clear bN lF p0 p1 HM hx;by_cases hf0:f=0
  ·subst hf0;have HG:=qqh (dY.out.trans (if_neg (fun h=>h rfl)));go_wp2_with fail;exact⟨⟨k+1,x,A3,n3,c3,by omega,by go_num,rfl,sX.out,Sd.out,Sp.out,HG.out,eV.out,bL.out⟩,by simp [intOf];omega⟩
  have HG:=qqh (dY.out.trans (if_pos hf0));go_wp2_with fail;rw [HG.out];exact bodyPost_ret (v:=.tuple #[.slice none 0 0,.agg #[.int .i64 f,.int .i64 k]]) (by simp [results,Tryz.results39,go_sem,y0,y1]) rfl ⟨⟨none,0,0,rfl,⟨rfl,fun h=>absurd h (Nat.lt_irrefl 0)⟩⟩,(bL.out.setCell (by simp) _).setCell (by simp) _⟩
 obtain rfl:k=n2:=(by omega);rw [List.drop_of_length_le (by rw [aV.out];exact Nat.le_refl _),allI]at aX;have HG:=qqh aX;have y0:=hf.cell 0;have y1:=hf.cell 1;have g0:=hf.frozen 0;have g1:=hf.frozen 1;have HR:=qqh ((hl'.keep (af.setCell (X':=fun b=>(Y b∨w.heap.size≤b)∧b≠w.heap.size) (p:=⟨w.heap.size,0,none⟩) (.int .i64 0) (fun b h=>h.2) (fun _ h _=>h))).keep (af.setCell (X':=fun b=>Y b∨w.heap.size≤b) (p:=⟨w.heap.size,1,none⟩) (.int .i64 0) (fun b h=>h.2) (fun _ h _=>h.1)));have HB:=qqh hb;clear aX hl hl' hf hb;go_wp2_with fail;rw [HG.out];exact bodyPost_ret (v:=.tuple #[.slice A' n' c',.agg #[.int .i64 0,.int .i64 0]]) (by simp [results,Tryz.results39,go_sem,y0,y1]) rfl ⟨⟨A',n',c',rfl,HR.out⟩,(HB.out.setCell (by simp) _).setCell (by simp) _⟩
def jB (l:List aj) (t:List Int):Int × Int:=if (cT l).1≠0 then cT l else (cP t,0)
def cN (l:List aj) (t:List Int):zL × (Int × Int):=if (jB l t).1≠0 then (dw,jB l t)else jV (bC l (8*t.length+40) [] t 0 0)
theorem oM {w:World} {X:Nat→Prop} {A:Option Addr} {n k:Nat} {xs:List Value} (h:bW w X 1 A n xs) (hk:k≤n):bW w X 1 A k (xs.take k):=by
 refine⟨by rw [List.length_take,h.1];omega,fun h0=>?_⟩;obtain⟨b,off,e,hx,hl,hc⟩:=h.2 (by omega);refine⟨b,off,e,hx,hl,fun j u hu=>hc j u ?_⟩;rw [List.getElem?_take]at hu;split at hu;exact hu;cases hu
theorem oW {w:World} {X:Nat→Prop} {b off n k:Nat} {xs:List Value} (h:bW w X 1 (some ⟨b,off,none⟩) n xs) (hk:k≤n):bW w X 1 (some ⟨b,off+k,none⟩) (n - k) (xs.drop k):=by
 refine⟨by rw [List.length_drop,h.1];omega,fun h0=>?_⟩;obtain⟨b',off',e,hx,hl,hc⟩:=h.2 (by omega);cases e;refine⟨b,off+k,rfl,hx,hl,fun j u hu=>?_⟩;rw [List.getElem?_drop]at hu;have:=hc _ u hu;rwa [← Nat.add_assoc]at this
theorem i9 (E:List Int) (k:Nat):(runeCells E).drop k=runeCells (E.drop k):=by simp [runeCells]
theorem gU (E:List Int) (k:Nat):(runeCells E).take k=runeCells (E.take k):=by simp [runeCells]
def Qm (lo M:Nat) (v:Value) (b:Nat):Prop:=lo≤b∧b≠M∧v.ownBlock≠some b
structure oy (w:World) (M:Nat) (s8:Value) (done:List Int) (nd:Nat) (b9 o9 nz:Nat) (rest:List Int) (st pt:Int) (wr:World):Prop where
  own:wr.ownsRow w.heap.size 21 1 s8 nd (runeCells done)
  rd:bW wr (Qm w.heap.size M s8) 1 (some ⟨b9,o9,none⟩) nz (runeCells rest)
  out:ai wr M 29 #[.slice none 0 0,.int .i64 st,.int .i64 pt]
  r4:ai wr w.heap.size 29 #[.slice none 0 0,.int .i64 0,.int .i64 0]
  r5:ai wr (w.heap.size+1) 32 #[.int .i64 0,.int .i64 0]
  below:Below w.heap.size w wr
  dl:done.length=nd
  ml:w.heap.size+1<M
section
variable {w wr w' : World} {M nd b9 o9 nz : Nat} {s8 : Value} {done rest : List Int} {st pt : Int}
theorem oy.aQ (h:oy w M s8 done nd b9 o9 nz rest st pt wr):∀ b,s8.ownBlock=some b→b<wr.heap.size:=fun _ hb=>(Go.Proofs.YthgkedoildcbcaaGreatDoor.aQ h.own hb).2
theorem oy.set (h:oy w M s8 done nd b9 o9 nz rest st pt wr) (i:Nat) (u:Value) {st' pt':Int} (he:(#[.slice none 0 0,.int .i64 st,.int .i64 pt]:Array Value).setIfInBounds i u = #[.slice none 0 0,.int .i64 st',.int .i64 pt']) :
    oy w M s8 done nd b9 o9 nz rest st' pt' (wr.setCell ⟨M,i,none⟩ u) :=
  ⟨eM h.own h.out (by decide),h.rd.keep (af.setCell u (fun b hb=>hb.2.1) (fun _ hb _=>hb)),by rw [← he];exact h.out.put i u,
    (by have:=h.ml;exact(Below.heap_setCell _ _ _ _ (by simp only;omega)).trans h.r4),(by have:=h.ml;exact(Below.heap_setCell _ _ _ _ (by simp only;omega)).trans h.r5),h.below.setCell (by have:=h.ml;simp only;omega) u,h.dl,h.ml⟩
theorem oy.push (h:oy w M s8 done nd b9 o9 nz rest st pt wr) {E:List Int} {m:Nat} {v:Value} (hE:E.length=m) (au:aR w.heap.size 21 1 s8 wr (nd+m) (runeCells done++runeCells E) v w') :
    oy w M v (done++E) (nd+m) b9 o9 nz rest st pt w' :=
  ⟨by rw [fH];exact au.own,
   h.rd.keep (af.app au (fun b hb=>hb.2.2) (fun b hb hl=>⟨hb.1,hb.2.1,by
     rcases au.2.2 with e | e
     · rw [e];exact hb.2.2
     · rw [e];intro e2;injection e2 with e2;omega⟩)),
   bM h.out h.own (by decide) au,bM h.r4 h.own (by decide) au,bM h.r5 h.own (by decide) au,h.below.trans (au.below h.below.size h.own),by rw [List.length_append,h.dl,hE],h.ml⟩
theorem oy.other (h:oy w M s8 done nd b9 o9 nz rest st pt wr) {b o n:Nat} {E:List Int} (hr:bW wr (Qm w.heap.size M s8) 1 (some ⟨b,o,none⟩) n (runeCells E)):oy w M s8 done nd b o n E st pt wr :=
  ⟨h.own,hr,h.out,h.r4,h.r5,h.below,h.dl,h.ml⟩
end
theorem xL {l:List aj} {t:List Int} (h:(jB l t).1=0):(cT l).1=0∧cP t=0:=by
 unfold jB at h;by_cases h2:(cT l).1≠0
 ·rw [if_pos h2]at h;exact absurd h h2
 rw [if_neg h2]at h;exact⟨by omega,h⟩
def tU (lo:Nat) (w':World) (o:zL × (Int × Int)) (e:Ending):Prop :=
  ∃ (A:Option Addr) (n c:Nat),e=.returned (.tuple #[.agg #[.slice A n c,.int .i64 o.1.steps,.int .i64 o.1.put],.agg #[.int .i64 o.2.1,.int .i64 o.2.2]])∧bW w' (fun b=>lo≤b) 1 A n (runeCells o.1.text)∧n≤c
def uR (s:b8) (x:Int):Bool:=!s.only? || bF s.only x
def kz (s:b8) (pc out:List Int):List Int × (Int × Int) :=
  if pc = []then (out,(0,0))else if (allI 0 s.passes pc).2.1≠0 then ([],(allI 0 s.passes pc).2)else (out++(allI 0 s.passes pc).1,(0,0))
def qn (s:b8):List Int→List Int→List Int→List Int × (Int × Int)
  | [],pc,out=>kz s pc out
  | x::t,pc,out=>if uR s x=true then qn s t (pc++[x]) out else if (kz s pc out).2.1≠0 then ([],(kz s pc out).2)else qn s t [] ((kz s pc out).1++[x])
def RN (s:b8) (t:List Int):List Int × (Int × Int) :=
  if (di s).1≠0 then ([],di s)else if cP t≠0 then ([],(cP t,0))else if (qn s t [] []).2.1≠0 then ([],(qn s t [] []).2)else if 4000<(qn s t [] []).1.length then ([],(4,(s.passes.length:Int)))else ((qn s t [] []).1,(0,0))
theorem Lt {s:b8} {x:Int} {t pc out:List Int} (h:uR s x=true):qn s (x::t) pc out=qn s t (pc++[x]) out:=by rw [qn,if_pos h]
theorem tQ (s:b8) (out:List Int):kz s [] out=(out,(0,0)):=by rw [kz,if_pos rfl]
theorem Em {s:b8} {pc out x:List Int} {f:Int} (hp:pc ≠ []) (h:allI 0 s.passes pc=(x,(0,f))):kz s pc out=(out++x,(0,0)):=by
 rw [kz,if_neg hp,h,if_neg (fun h=>h rfl)]
theorem zT {s:b8} {pc out x:List Int} {e f:Int} (hp:pc ≠ []) (h:allI 0 s.passes pc=(x,(e,f))) (he:e≠0):kz s pc out=([],(e,f)):=by
 rw [kz,if_neg hp,h,if_pos he]
theorem Ip {s:b8} {x:Int} {t pc out o2:List Int} (h:uR s x=false) (hf:kz s pc out=(o2,(0,0))):qn s (x::t) pc out=qn s t [] (o2++[x]):=by
 rw [qn,if_neg (by rw [h];decide),hf,if_neg (fun h=>h rfl)]
theorem Pu {s:b8} {t pc out:List Int} {e f:Int} (h:∀ x t',t=x::t'→uR s x=false) (hf:kz s pc out=([],(e,f))) (he:e≠0):qn s t pc out=([],(e,f)):=by
 cases t with
 | nil=>exact hf
 | cons x t=>rw [qn,if_neg (by rw [h x t rfl];decide),hf,if_pos he]
theorem BT {s:b8} (h:(di s).1=0) (ho:s.only? = true):aH s.only:=by
 unfold di at h;by_cases hz:bS s.only=0;exact pY hz;rw [if_pos ⟨ho,hz⟩]at h;exact absurd h hz
theorem uA (b o n c:Nat) (l:List Int) (w:World) (hn:n≤1000000) (hl:mc w w.heap.size (some ⟨b,o,none⟩) n l) :
    Calls Tryz.prog 19 #[.slice (some ⟨b,o,none⟩) n c] w fun e w'=>(∃ v,e=.returned v∧w'.ownsRow w.heap.size 21 1 v n (runeCells l))∧Below w.heap.size w w':=by
 obtain⟨i0,hi,z0,z1,z2⟩:=info_parts Tryz.info21;have hba:=(Below.refl w.heap.size w).alloc (Nat.le_refl _) (.cells #[] 21);have xo:=qqh hba;have QS:=qqh (pN w 21 1 w.heap.size w.heap.size rfl (Nat.le_refl _));have HL:=qqh (Rd.below hl hba);have hnil:∀ W:World,(binOp .eql 26 (.slice (some ⟨b,o,none⟩) n c) (.slice none 0 0)).run Tryz.prog W=.ok (.bool false) W:=fun _=>(by kernel_rfl);clear hba hl;go_enter Tryz.func19,Tryz.ntmps19;go_wp2_with (at_builtin;refine ak _ rfl (.tmp 5) (.tmp 6) 26 rfl w.heap.size 21 i0 _ 1 4 Tryz.underlying26 hi z0 z1 z2 rfl (by decide) _ _ _ rfl QS.out _ (some ⟨b,o,none⟩) n c (runeCells l) rfl HL.out (bk _) (by simp only [maxLen];omega) (by omega) (by simp) ?_);intro v1 w1 au;have HO:=qqh (show w1.ownsRow w.heap.size 21 1 v1 n (runeCells l) by have:=au.own;simpa using this);have HB:=qqh (xo.out.trans (au.below (by simp) QS.out));clear au;go_wp2_with fail;go_ret;exact⟨⟨_,rfl,HO.out⟩,HB.out⟩
def GP (lo:Nat) (w':World) (o:List Int × (Int × Int)) (e:Ending):Prop :=
  ∃ (A:Option Addr) (n c:Nat),e=.returned (.tuple #[.slice A n c,.agg #[.int .i64 o.2.1,.int .i64 o.2.2]])∧bW w' (fun b=>lo≤b) 1 A n (runeCells o.1)
structure BQ (w:World) (cs:Array Value) (s8:Value) (out:List Int) (no:Nat) (wr:World):Prop where
  own:wr.ownsRow w.heap.size 21 1 s8 no (runeCells out)
  len:out.length=no
  scr:ai wr w.heap.size 53 cs
  fau:ai wr (w.heap.size+1) 32 #[.int .i64 0,.int .i64 0]
  below:Below w.heap.size w wr
theorem BQ.go {w wr w':World} {cs:Array Value} {s8:Value} {out:List Int} {no:Nat} (h:BQ w cs s8 out no wr) (hb:Below wr.heap.size wr w'):BQ w cs s8 out no w' :=
  ⟨dy h.own hb,h.len,ai.below h.scr hb h.scr.lt,ai.below h.fau hb h.fau.lt,h.below.trans (hb.mono h.below.size)⟩
theorem BQ.push {w wr w':World} {cs:Array Value} {s8 v:Value} {out E:List Int} {no m:Nat} (h:BQ w cs s8 out no wr) (hE:E.length=m) (au:aR w.heap.size 21 1 s8 wr (no+m) (runeCells out++runeCells E) v w'):BQ w cs v (out++E) (no+m) w' :=
  ⟨by rw [fH];exact au.own,by rw [List.length_append,h.len,hE],bM h.scr h.own (by decide) au,bM h.fau h.own (by decide) au,h.below.trans (au.below h.below.size h.own)⟩
def V6 (w:World) (s:b8) (t:List Int) (cs:Array Value) (nt:Nat) (s8 s9:Value) (wr:World):Prop :=
  ∃ (at_ no:Nat) (out:List Int),at_≤nt∧s9=.int .i64 at_∧no≤4001*at_∧qn s t [] [] = qn s (t.drop at_) [] out∧BQ w cs s8 out no wr
def Uc (w1:World) (s:b8) (t out:List Int) (at_ nt:Nat) (i:Value) (wr:World):Prop :=
  ∃ j:Nat,at_+j≤nt∧i=.int .i64 (at_+j:Nat)∧qn s (t.drop at_) [] out=qn s (t.drop (at_+j)) ((t.drop at_).take j) out∧Below w1.heap.size w1 wr
theorem Ol {t:List Int} {at_ j:Nat} {x:Int} (h:t[at_+j]? = some x):(t.drop at_).take j++[x] =(t.drop at_).take (j+1):=by
 rw [List.take_add_one,List.getElem?_drop,h];rfl
theorem Ja {t:List Int} {at_ j nt:Nat} (h:at_+j≤nt) (ht:t.length=nt):((t.drop at_).take j).length=j:=by rw [List.length_take,List.length_drop];omega
theorem DD (X:Nat→Prop) (s:b8) (t:List Int) (A1 A2 At:Option Addr) (n1 c1 n2 c2 nt ct:Nat) (w:World) (hs:gW w X s A1 n1 A2 n2) (hnc:nt≤ct) (hnt:nt≤maxLen) (ht:mc w w.heap.size At nt t) :
    Calls Tryz.prog 15 #[.agg #[.bool s.only?,.slice A1 n1 c1,.slice A2 n2 c2],.slice At nt ct] w fun e w'=>GP w.heap.size w' (RN s t) e∧Below w.heap.size w w':=by
 obtain⟨i0,hi,z0,z1,z2⟩:=info_parts Tryz.info21;have htl:=ht.len;have hb0:=((Below.refl w.heap.size w).alloc (Nat.le_refl _) (.cells #[.bool s.only?,.slice A1 n1 c1,.slice A2 n2 c2] 53)).alloc (by simp) (.cells #[.int .i64 0,.int .i64 0] 32);have oV:=qqh (ai.alloc (ai.new w 53 #[.bool s.only?,.slice A1 n1 c1,.slice A2 n2 c2]) (.cells #[.int .i64 0,.int .i64 0] 32));have yQ:=qqh (show ai ((w.alloc (.cells #[.bool s.only?,.slice A1 n1 c1,.slice A2 n2 c2] 53)).alloc (.cells #[.int .i64 0,.int .i64 0] 32)) (w.heap.size+1) 32 #[.int .i64 0,.int .i64 0] by
  have:=ai.new (w.alloc (.cells #[.bool s.only?,.slice A1 n1 c1,.slice A2 n2 c2] 53)) 32 #[.int .i64 0,.int .i64 0];simpa using this)
 have dO:=qqh hb0;have Yi:=qqh (fun(W:World) (hb:Below w.heap.size w W)=>show gW W X s A1 n1 A2 n2 from hs.keep (af.any hb));have vu:=qqh (fun(W:World) (hb:Below w.heap.size w W)=>show mc W W.heap.size At nt t from(Rd.below ht hb).more hb.size);have HTW:=qqh ht;have qs:=qqh (show s.passes.length=n2 from hs.pas.len);have hm2:=hs.m2;clear hb0 hs ht;go_enter Tryz.func15,Tryz.ntmps15;go_upto_region 1 with fail;generalize (w.alloc (.cells #[.bool s.only?,.slice A1 n1 c1,.slice A2 n2 c2] 53)).alloc (.cells #[.int .i64 0,.int .i64 0] 32)=W0 at *;have HW:=qqh (Er X s A1 A2 n1 c1 n2 c2 W0 (Yi.out W0 dO.out));have x0:W0.cell? ⟨w.heap.size,0,none⟩=some (.bool s.only?):=oV.out.cell 0;have x1:W0.cell? ⟨w.heap.size,1,none⟩=some (.slice A1 n1 c1):=oV.out.cell 1;have x2:W0.cell? ⟨w.heap.size,2,none⟩=some (.slice A2 n2 c2):=oV.out.cell 2;go_wp2_with fail;refine HW.out.mono ?_;rintro e w1 ⟨rfl,aW⟩;have oH:=qqh (ai.below oV.out aW oV.out.lt);have wH:=qqh (ai.below yQ.out aW yQ.out.lt);have b7:=qqh (dO.out.trans (aW.mono dO.out.size));clear aW HW oV yQ dO x0 x1 x2;obtain⟨r1,r2,hR⟩:∃ r1 r2,di s=(r1,r2):=⟨_,_,rfl⟩;have wv:=qqh (fun(h:r1=0) (ho:s.only? = true)=>BT (s:=s) (by rw [hR];exact h) ho);have ZL:=qqh (show RN s t=if r1≠0 then ([],(r1,r2))else if cP t≠0 then ([],(cP t,0))else if (qn s t [] []).2.1≠0 then ([],(qn s t [] []).2)else if 4000<(qn s t [] []).1.length then ([],(4,(s.passes.length:Int)))else ((qn s t [] []).1,(0,0)) by unfold RN;rw [hR]);rw [hR];dsimp only;clear hR;have hw1:=wH.out.lt;have mh:=qqh (oH.out.alloc (.cells #[.int .i64 r1,.int .i64 r2] 32))
 have Cc:=qqh (wH.out.alloc (.cells #[.int .i64 r1,.int .i64 r2] 32));have Zj:=qqh (ai.new w1 32 #[.int .i64 r1,.int .i64 r2]);have bG:=qqh (b7.out.alloc b7.out.size (.cells #[.int .i64 r1,.int .i64 r2] 32));go_upto_region 2 with fail;clear oH wH b7;generalize hW2:w1.alloc (.cells #[.int .i64 r1,.int .i64 r2] 32)=W2 at *;clear hW2;have z0':=Zj.out.cell 0;have z1':=Zj.out.cell 1;by_cases hz:r1=0
 ·subst hz;have O1:=qqh (ZL.out.trans (if_neg (fun h=>h rfl)));have La:=qqh (ld At nt ct t W2 hnt (vu.out W2 bG.out));go_wp2_with fail;refine La.out.mono ?_;rintro e w3 ⟨rfl,bN⟩;have ou:=qqh (ai.below mh.out bN mh.out.lt);have vW:=qqh (ai.below Cc.out bN Cc.out.lt);have bL:=qqh (bG.out.trans (bN.mono bG.out.size));clear bN La mh Cc bG Zj ZL z0' z1';obtain⟨tp,nT⟩:∃ tp,cP t=tp:=⟨_,rfl⟩;have HTS:=qqh (fun(h:tp=0)=>uG (t:=t) (by rw [nT];exact h));rw [nT]at O1 ⊢;clear nT;by_cases hz:tp=0
  ·subst hz;have OJ:=qqh (O1.out.trans (if_neg (fun h=>h rfl)));have Ux:nt≤4000:=(by have:=HTS.out rfl;omega);generalize hcs:(#[.bool s.only?,.slice A1 n1 c1,.slice A2 n2 c2]:Array Value)=cs at *;have FC:=qqh (show cs[0]? = some (.bool s.only?)∧cs[1]? = some (.slice A1 n1 c1)∧cs[2]? = some (.slice A2 n2 c2) by subst hcs;exact⟨rfl,rfl,rfl⟩);have VZ:=qqh (show BQ w cs (.slice none 0 0) [] 0 w3 from⟨World.ownsRow_nil _ _ _ _,rfl,ou.out,vW.out,bL.out⟩);clear O1 hcs ou vW bL;go_wp2_with fail;go_loopw [8,9] (V6 w s t cs nt) (fun _ s9 _=>nt - (intOf s9).toNat);(case atStart=>exact⟨0,0,[],Nat.zero_le _,rfl,Nat.le_refl _,rfl,VZ.out⟩);clear VZ;obtain⟨at_,no,out,lY,rfl,hno,aX,hst⟩:=hrel;have fB:=qqh hst;have dY:=qqh aX;obtain⟨Av,cv,rfl,_⟩:=aI hst.own;have kY:=hst.below;have hzw:=kY.size;clear aX;by_cases hlt:at_<nt
   ·obtain⟨tb,NO,rfl,htb,_⟩:=HTW.out.at hlt;have afV:decide ((at_:Int)<(nt:Int))=true:=decide_eq_true (by omega);clear hst;go_wp2_with fail;go_loopw [10] (Uc wr s t out at_ nt) (fun i _=>nt - (intOf i).toNat);(case atStart=>exact⟨0,by omega,rfl,by simp,Below.refl _ _⟩);obtain⟨j,hj,rfl,hgi,hbi⟩:=hrel;have NQ:=qqh (dY.out.trans hgi);have Yf:=qqh hgi;have QE:=qqh (fB.out.go hbi);have HBI:=qqh hbi;have s0:wr.cell? ⟨w.heap.size,0,none⟩=some (.bool s.only?):=(QE.out.scr.cell 0).trans FC.out.1;have s1:wr.cell? ⟨w.heap.size,1,none⟩=some (.slice A1 n1 c1):=(QE.out.scr.cell 1).trans FC.out.2.1;obtain⟨en,Ym⟩:∃ en,at_+j=en:=⟨_,rfl⟩;have GW:=qqh (Ja hj htl);rw [Ym]at hj NQ Yf ⊢;clear hgi hbi;by_cases hle:en<nt
    ·obtain⟨x,hx⟩:∃ z,t[en]? = some z:=⟨_,List.getElem?_eq_getElem (by omega)⟩;obtain⟨b',o',eA,_,cx⟩:=HTW.out.at hle;cases eA;rw [show t.getD en 0=x by simp [List.getD,hx]]at cx;have dx:wr.cell? ⟨tb,NO+en,none⟩=some (.int .i32 x):=(QE.out.below.cell (p:=⟨tb,NO+en,none⟩) htb).trans cx;have ab5:decide ((en:Int)<(nt:Int))=true:=decide_eq_true (by omega);have HDX:=qqh (cB hx);have HAS:=qqh (Ol (t:=t) (at_:=at_) (j:=j) (by rw [Ym];exact hx));rw [HDX.out]at NQ Yf;clear hx cx;cases ho:s.only?
     ·have NK:=qqh (show uR s x=true by unfold uR;rw [ho];rfl);rw [ho]at s0;have Wy:=qqh (Yf.out.trans (Lt NK.out));rw [HAS.out]at Wy;clear ho;go_upto_region 11 with fail;go_quiet (fail);go_wp2_with fail;exact⟨⟨j+1,by omega,by go_num,by rw [← Nat.add_assoc,Ym];exact Wy.out,below_drewN HBI.out nq⟩,by simp [intOf];omega⟩
     have YT:=qqh (fun(W:World) (hb:Below w.heap.size w W)=>wZ A1 n1 c1 s.only x W (wv.out (by trivial) ho) (bW.of (Yi.out W hb).only));rw [ho]at s0;have NK:=qqh (show uR s x=bF s.only x by unfold uR;rw [ho];rfl);clear ho;go_upto_region 11 with fail;go_region_with (go_at_call 10;refine(YT.out _ (aD QE.out.below)).mono ?_;rintro e wh ⟨rfl,hbh⟩)
     all_goals
       have HBH:=qqh ((aD (Below.refl wr.heap.size wr)).trans hbh)
       clear hbh
       cases hh:bF s.only x
       · have Zw:=qqh (NK.out.trans hh)
         have EU:=qqh (QE.out.go HBH.out)
         clear hh
         by_cases hj0:j=0
         · have hgt:decide ((at_:Int)<(en:Int))=false:=decide_eq_false (by omega)
           have I5:=(Below.refl wh.heap.size wh).alloc (Nat.le_refl _) (.cells #[.int .i32 x] 21)
           have jF:=qqh (EU.out.go I5)
           have Qk:=qqh (Rd.new wh 21 1 1 [.int .i32 x] rfl)
           have dx2:wh.cell? ⟨tb,NO+en,none⟩=some (.int .i32 x):=(EU.out.below.cell (p:=⟨tb,NO+en,none⟩) htb).trans (((QE.out.below.cell (p:=⟨tb,NO+en,none⟩) htb).symm).trans dx)
           clear I5
           go_wp2_with (at_builtin;refine ak _ rfl (.tmp 73) (.tmp 78) 26 rfl w.heap.size 21 i0 _ 1 4 Tryz.underlying26 hi z0 z1 z2 rfl (by decide) _ (no) _ rfl jF.out.own _ (some ⟨wh.heap.size,0,none⟩) 1 1 (runeCells [x]) rfl Qk.out (bk _) (by simp only [maxLen];omega) (by omega) jF.out.below.size ?_)
           intro vf wf au
           have oo:=qqh (jF.out.push (E:=[x]) rfl au)
           obtain⟨Af,cf,rfl,_⟩:=aI oo.out.own
           have vv:=qqh (show qn s t [] [] = qn s (t.drop (en+1)) [] (out++[x]) from NQ.out.trans (Ip Zw.out (by rw [show(t.drop at_).take j = [] by rw [hj0];rfl];exact tQ s out)))
           clear au jF Qk
           go_wp2_with fail
           exact⟨⟨en+1,no+1,out++[x],by omega,by go_num,by omega,vv.out,oo.out⟩,by simp [intOf];omega⟩
         · have Q6:0<j:=by omega
           have hne:¬ ct=at_:=by omega
           have abO:en - at_=j:=by omega
           have tA:=qqh (bW.It (X:=fun _=>True) (vu.out _ EU.out.below) (Nat.le_refl _) (fun _ _=>trivial))
           have S8:=oM (oW tA.out (show at_≤nt by omega)) (show j≤nt - at_ by omega)
           rw [i9,gU]at S8
           have vC:=qqh (uA tb (NO+at_) j (ct - at_) ((t.drop at_).take j) _ (by omega) S8.of)
           have hgt:decide ((at_:Int)<(en:Int))=true:=decide_eq_true (by omega)
           clear S8 tA
           go_wp2_with fail
           refine vC.out.mono ?_
           rintro e wc ⟨⟨v,rfl,hown⟩,hbc⟩
           obtain⟨Ac,cc,rfl,_⟩:=aI hown
           have Gs:=qqh (EU.out.go hbc)
           have ue:=qqh (zY X (fun b=>w.heap.size≤b) s w.heap.size A1 A2 Ac n1 n2 c2 j cc ((t.drop at_).take j) wc (Yi.out wc Gs.out.below) ((Gs.out.scr.cell 2).trans FC.out.2.2) Gs.out.scr.lt (by rw [GW.out];omega) (bW.cy hown (fun b hb=>Nat.le_trans EU.out.below.size (aQ hown hb).1)))
           have Pe:=qqh (yL s.passes 0 ((t.drop at_).take j) (by rw [GW.out];omega))
           clear hown hbc vC
           go_wp2_with fail
           refine ue.out.mono ?_
           rintro e wd ⟨⟨A4,n4,c4,rfl,Lh⟩,hb4⟩
           have ZP:=Gs.out.below.size
           obtain⟨y,f1,f2,hall⟩:∃ y f1 f2,allI 0 s.passes ((t.drop at_).take j)=(y,(f1,f2)):=⟨_,_,_,rfl⟩
           have Re:=qqh hall
           rw [hall]at Lh Pe ⊢
           dsimp only at Lh Pe ⊢
           have hba:=(Below.refl wd.heap.size wd).alloc (Nat.le_refl _) (.cells #[.int .i64 f1,.int .i64 f2] 32)
           have yS:=qqh ((Gs.out.go hb4).go hba)
           have El:=qqh (Rd.below Lh.of hba)
           have V4:=qqh (show y.length=n4 by have:=Lh.1;rw [runeCells_length]at this;omega)
           have Ed:=qqh (ai.new wd 32 #[.int .i64 f1,.int .i64 f2])
           have U0:w.heap.size+1<wd.heap.size:=Nat.lt_of_lt_of_le Gs.out.fau.lt hb4.size
           have DK:=qqh (show(t.drop at_).take j ≠ [] by intro e;have:=GW.out;rw [e]at this;simp at this;omega)
           clear Lh hba hb4 ue hall
           go_upto_region 15 with fail
           generalize hWD:wd.alloc (.cells #[.int .i64 f1,.int .i64 f2] 32)=WD at *
           have abE:wd.heap.size<WD.heap.size:=Ed.out.lt
           clear hWD
           have q0:=Ed.out.cell 0
           have q1:=Ed.out.cell 1
           by_cases hf:f1=0
           · subst hf
             have uH:n4≤4000:=by rw [← V4.out];exact Pe.out
             have ov:=qqh (Em DK.out Re.out (out:=out))
             go_wp2_with (at_builtin;refine ak _ rfl (.tmp 66) (.tmp 67) 26 rfl w.heap.size 21 i0 _ 1 4 Tryz.underlying26 hi z0 z1 z2 rfl (by decide) _ no _ rfl yS.out.own _ A4 n4 c4 (runeCells y) rfl El.out (bk _) (by simp only [maxLen];omega) (by omega) yS.out.below.size ?_)
             intro ve we au
             have zg:=qqh (yS.out.push V4.out au)
             obtain⟨Ae,ce,rfl,_⟩:=aI zg.out.own
             clear au yS Gs EU Re DK q0 q1 Ed
             have I5:=(Below.refl we.heap.size we).alloc (Nat.le_refl _) (.cells #[.int .i32 x] 21)
             have jF:=qqh (zg.out.go I5)
             have Qk:=qqh (Rd.new we 21 1 1 [.int .i32 x] rfl)
             have dx2:we.cell? ⟨tb,NO+en,none⟩=some (.int .i32 x):=(zg.out.below.cell (p:=⟨tb,NO+en,none⟩) htb).trans (((QE.out.below.cell (p:=⟨tb,NO+en,none⟩) htb).symm).trans dx)
             clear I5
             go_wp2_with (at_builtin;refine ak _ rfl (.tmp 73) (.tmp 78) 26 rfl w.heap.size 21 i0 _ 1 4 Tryz.underlying26 hi z0 z1 z2 rfl (by decide) _ ((no+n4)) _ rfl jF.out.own _ (some ⟨we.heap.size,0,none⟩) 1 1 (runeCells [x]) rfl Qk.out (bk _) (by simp only [maxLen];omega) (by omega) jF.out.below.size ?_)
             intro vf wf au
             have oo:=qqh (jF.out.push (E:=[x]) rfl au)
             obtain⟨Af,cf,rfl,_⟩:=aI oo.out.own
             have vv:=qqh (show qn s t [] [] = qn s (t.drop (en+1)) [] ((out++y)++[x]) from NQ.out.trans (Ip Zw.out ov.out))
             clear au jF Qk
             go_wp2_with fail
             exact⟨⟨en+1,(no+n4)+1,(out++y)++[x],by omega,by go_num,by omega,vv.out,oo.out⟩,by simp [intOf];omega⟩
           · have ov:=qqh (zT DK.out Re.out hf (out:=out))
             have HG:=qqh (show RN s t=([],(f1,f2)) by rw [OJ.out,NQ.out,Pu (s:=s) (t:=x::t.drop (en+1)) (fun x' t' e=>by cases e;exact Zw.out) ov.out hf,if_pos hf])
             have y0:=yS.out.fau.cell 0
             have y1:=yS.out.fau.cell 1
             have g0:=yS.out.fau.frozen 0
             have g1:=yS.out.fau.frozen 1
             have xW:¬ w.heap.size+1=wd.heap.size:=by omega
             have yo:¬ wd.heap.size=w.heap.size+1:=by omega
             go_upto_region 16 with fail
             go_region
             all_goals
               go_wp2_with fail
               rw [HG.out]
               exact bodyPost_ret (v:=.tuple #[.slice none 0 0,.agg #[.int .i64 f1,.int .i64 f2]]) (by simp [results,Tryz.results15,go_sem,y0,y1]) rfl ⟨⟨none,0,0,rfl,⟨rfl,fun h=>absurd h (Nat.lt_irrefl 0)⟩⟩,((yS.out.below.setCell (by simp) _).setCell (by simp) _).drew⟩
       · have Wy:=qqh (Yf.out.trans (Lt (NK.out.trans hh)))
         rw [HAS.out]at Wy
         clear hh
         go_wp2_with fail
         exact⟨⟨j+1,by omega,by go_num,by rw [← Nat.add_assoc,Ym];exact Wy.out,HBI.out.trans (HBH.out.mono HBI.out.size)⟩,by simp [intOf];omega⟩
    obtain rfl:en=nt:=(by omega);have ab5:decide ((en:Int)<(en:Int))=false:=decide_eq_false (by omega);go_upto_region 11 with fail;go_quiet (fail);have EU:=qqh (show BQ w cs (.slice Av no cv) out no (wr.drewN nq) from QE.out.go (below_drewN (Below.refl _ _) nq));have Q6:0<j:=(by omega);generalize wr.drewN nq=wh at *;have hne:¬ ct=at_:=(by omega);have abO:en - at_=j:=(by omega);have tA:=qqh (bW.It (X:=fun _=>True) (vu.out _ EU.out.below) (Nat.le_refl _) (fun _ _=>trivial));have S8:=oM (oW tA.out (show at_≤en by omega)) (show j≤en - at_ by omega);rw [i9,gU]at S8;have vC:=qqh (uA tb (NO+at_) j (ct - at_) ((t.drop at_).take j) _ (by omega) S8.of);have hgt:decide ((at_:Int)<(en:Int))=true:=decide_eq_true (by omega);clear S8 tA;go_wp2_with fail;refine vC.out.mono ?_;rintro e wc ⟨⟨v,rfl,hown⟩,hbc⟩;obtain⟨Ac,cc,rfl,_⟩:=aI hown;have Gs:=qqh (EU.out.go hbc);have ue:=qqh (zY X (fun b=>w.heap.size≤b) s w.heap.size A1 A2 Ac n1 n2 c2 j cc ((t.drop at_).take j) wc (Yi.out wc Gs.out.below) ((Gs.out.scr.cell 2).trans FC.out.2.2) Gs.out.scr.lt (by rw [GW.out];omega) (bW.cy hown (fun b hb=>Nat.le_trans EU.out.below.size (aQ hown hb).1)));have Pe:=qqh (yL s.passes 0 ((t.drop at_).take j) (by rw [GW.out];omega));clear hown hbc vC;go_wp2_with fail;refine ue.out.mono ?_;rintro e wd ⟨⟨A4,n4,c4,rfl,Lh⟩,hb4⟩;have ZP:=Gs.out.below.size;obtain⟨y,f1,f2,hall⟩:∃ y f1 f2,allI 0 s.passes ((t.drop at_).take j)=(y,(f1,f2)):=⟨_,_,_,rfl⟩;have Re:=qqh hall;rw [hall]at Lh Pe ⊢;dsimp only at Lh Pe ⊢;have hba:=(Below.refl wd.heap.size wd).alloc (Nat.le_refl _) (.cells #[.int .i64 f1,.int .i64 f2] 32);have yS:=qqh ((Gs.out.go hb4).go hba);have El:=qqh (Rd.below Lh.of hba)
    have V4:=qqh (show y.length=n4 by have:=Lh.1;rw [runeCells_length]at this;omega);have Ed:=qqh (ai.new wd 32 #[.int .i64 f1,.int .i64 f2]);have U0:w.heap.size+1<wd.heap.size:=Nat.lt_of_lt_of_le Gs.out.fau.lt hb4.size;have DK:=qqh (show(t.drop at_).take j ≠ [] by intro e;have:=GW.out;rw [e]at this;simp at this;omega);clear Lh hba hb4 ue hall;go_upto_region 15 with fail;generalize hWD:wd.alloc (.cells #[.int .i64 f1,.int .i64 f2] 32)=WD at *;have abE:wd.heap.size<WD.heap.size:=Ed.out.lt;clear hWD;have q0:=Ed.out.cell 0;have q1:=Ed.out.cell 1;by_cases hf:f1=0
    ·subst hf;have uH:n4≤4000:=(by rw [← V4.out];exact Pe.out);have ov:=qqh (Em DK.out Re.out (out:=out));go_wp2_with (at_builtin;refine ak _ rfl (.tmp 66) (.tmp 67) 26 rfl w.heap.size 21 i0 _ 1 4 Tryz.underlying26 hi z0 z1 z2 rfl (by decide) _ no _ rfl yS.out.own _ A4 n4 c4 (runeCells y) rfl El.out (bk _) (by simp only [maxLen];omega) (by omega) yS.out.below.size ?_);intro ve we au;have zg:=qqh (yS.out.push V4.out au);obtain⟨Ae,ce,rfl,_⟩:=aI zg.out.own;clear au yS Gs EU Re DK q0 q1 Ed;have P4:qn s t [] [] = qn s (t.drop en) [] (out++y):=by
      rw [NQ.out,List.drop_of_length_le (by omega),qn,qn,ov.out,tQ]
     have vv:=qqh P4;clear P4;go_wp2_with fail;exact⟨⟨en,no+n4,out++y,Nat.le_refl _,rfl,by omega,vv.out,zg.out⟩,by simp [intOf];omega⟩
    have ov:=qqh (zT DK.out Re.out hf (out:=out));have HG:=qqh (show RN s t=([],(f1,f2)) by rw [OJ.out,NQ.out,List.drop_of_length_le (by omega),qn,ov.out,if_pos hf]);have y0:=yS.out.fau.cell 0;have y1:=yS.out.fau.cell 1;have g0:=yS.out.fau.frozen 0;have g1:=yS.out.fau.frozen 1;have xW:¬ w.heap.size+1=wd.heap.size:=(by omega);have yo:¬ wd.heap.size=w.heap.size+1:=(by omega);go_upto_region 16 with fail;go_region
    all_goals
      go_wp2_with fail
      rw [HG.out]
      exact bodyPost_ret (v:=.tuple #[.slice none 0 0,.agg #[.int .i64 f1,.int .i64 f2]]) (by simp [results,Tryz.results15,go_sem,y0,y1]) rfl ⟨⟨none,0,0,rfl,⟨rfl,fun h=>absurd h (Nat.lt_irrefl 0)⟩⟩,((yS.out.below.setCell (by simp) _).setCell (by simp) _).drew⟩
   obtain rfl:at_=nt:=(by omega);have NM:=qqh (show qn s t [] [] =(out,(0,0)) by rw [dY.out,List.drop_of_length_le (by omega),qn,tQ]);have hlen:=fB.out.len;by_cases h4:4000<no
   ·have HG:=qqh (show RN s t=([],(4,(n2:Int))) by rw [OJ.out,NM.out,if_neg (fun h=>h rfl),if_pos (by rw [hlen];exact h4),qs.out]);have d2:wr.cell? ⟨w.heap.size,2,none⟩=some (.slice A2 n2 c2):=(hst.scr.cell 2).trans FC.out.2.2;have y0:=hst.fau.cell 0;have y1:=hst.fau.cell 1;have g0:=hst.fau.frozen 0;have g1:=hst.fau.frozen 1;have hne:¬ w.heap.size=w.heap.size+1:=(by omega);clear hst;go_upto_region 23 with fail;go_region
    all_goals
      go_wp2_with fail
      rw [HG.out]
      exact bodyPost_ret (v:=.tuple #[.slice none 0 0,.agg #[.int .i64 4,.int .i64 n2]]) (by simp [results,Tryz.results15,go_sem,y0,y1]) rfl ⟨⟨none,0,0,rfl,⟨rfl,fun h=>absurd h (Nat.lt_irrefl 0)⟩⟩,((fB.out.below.setCell (by simp) _).setCell (by simp) _).drew⟩
   have HG:=qqh (show RN s t=(out,(0,0)) by rw [OJ.out,NM.out,if_neg (fun h=>h rfl),if_neg (by rw [hlen];exact h4)]);have y0:=hst.fau.cell 0;have y1:=hst.fau.cell 1;have g0:=hst.fau.frozen 0;have g1:=hst.fau.frozen 1;have q1:=eM (i:=0) (u:=.int .i64 0) hst.own hst.fau (by decide);have q2:=eM (i:=1) (u:=.int .i64 0) q1 (hst.fau.put 0 _) (by decide);have qj:=qqh (bW.cy (X:=fun b=>w.heap.size≤b) q2 (fun b hb=>(aQ q2 hb).1));clear hst q1 q2;go_wp2_with fail;rw [HG.out];exact bodyPost_ret (v:=.tuple #[.slice Av no cv,.agg #[.int .i64 0,.int .i64 0]]) (by simp [results,Tryz.results15,go_sem,y0,y1]) rfl ⟨⟨Av,no,cv,rfl,qj.out⟩,(fB.out.below.setCell (by simp) _).setCell (by simp) _⟩
  have HG:=qqh (O1.out.trans (if_pos hz));have y0:=vW.out.cell 0;have y1:=vW.out.cell 1;have g0:=vW.out.frozen 0;have g1:=vW.out.frozen 1;go_wp2_with fail;rw [HG.out];exact bodyPost_ret (v:=.tuple #[.slice none 0 0,.agg #[.int .i64 tp,.int .i64 0]]) (by simp [results,Tryz.results15,go_sem,y0,y1]) rfl ⟨⟨none,0,0,rfl,⟨rfl,fun h=>absurd h (Nat.lt_irrefl 0)⟩⟩,(bL.out.setCell (by simp) _).setCell (by simp) _⟩
 have HG:=qqh (ZL.out.trans (if_pos hz));have y0:=Cc.out.cell 0;have y1:=Cc.out.cell 1;have g0:=Cc.out.frozen 0;have g1:=Cc.out.frozen 1;have xW:¬ w.heap.size+1=w1.heap.size:=(by omega);have yo:¬ w1.heap.size=w.heap.size+1:=(by omega);go_upto_region 3 with fail;go_region
 all_goals
   go_wp2_with fail
   rw [HG.out]
   exact bodyPost_ret (v:=.tuple #[.slice none 0 0,.agg #[.int .i64 r1,.int .i64 r2]]) (by simp [results,Tryz.results15,go_sem,y0,y1]) rfl ⟨⟨none,0,0,rfl,⟨rfl,fun h=>absurd h (Nat.lt_irrefl 0)⟩⟩,((bG.out.setCell (by simp) _).setCell (by simp) _).drew⟩
end Go.Proofs.YthgkedoildcbcaaGreatDoor
