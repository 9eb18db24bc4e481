/- Trace + AlignP + RefPut + Sure + VmTrace -/
import Derived.Test.YthgkedoildcbcaaGreatDoorZt35
import Derived.Test.YthgkedoildcbcaaGreatDoorZt36
set_option maxHeartbeats 6400000
set_option maxRecDepth 100000
namespace Go.Proofs.YthgkedoildcbcaaGreatDoor
open Go.RowKit
def cY (l:List aj):Nat→List Int→List Int→List (Int × Int)
  | _,_,[]=>[]
  | 0,_,_::_=>[]
  | left+1,done,z::rest=>
    (done.length,dm l (done++z::rest) done.length)::(
    if dm l (done++z::rest) done.length<0 then cY l left (done++[z]) rest
    else match l[(dm l (done++z::rest) done.length).toNat]? with
      | none=>[]
      | some r=>cY l left (done++(r.target++(z::rest).drop r.source.length).take r.aa.toNat) ((r.target++(z::rest).drop r.source.length).drop r.aa.toNat))
theorem fQ (l:List aj) (left:Nat) (done:List Int):cY l left done [] = []:=by cases left <;> rfl
theorem jd {l:List aj} {left:Nat} {done rest:List Int} {z:Int} (h:dm l (done++z::rest) done.length = -1):cY l (left+1) done (z::rest)=((done.length:Int),-1)::cY l left (done++[z]) rest:=by
 rw [cY,if_pos (by rw [h];decide),h]
theorem i4 {l:List aj} {left:Nat} {done rest:List Int} {z:Int} {k:Nat} {r:aj} (h:dm l (done++z::rest) done.length=(k:Int)) (hk:l[k]? = some r) :
    cY l (left+1) done (z::rest)=((done.length:Int),(k:Int))::cY l left (done++(r.target++(z::rest).drop r.source.length).take r.aa.toNat) ((r.target++(z::rest).drop r.source.length).drop r.aa.toNat):=by
 rw [cY,if_neg (by rw [h];omega),h,Int.toNat_natCast,hk]
def aS (l:List (Int × Int)):List Value:=l.flatMap fun k=>[.int .i64 k.1,.int .i64 k.2]
theorem jD (l:List (Int × Int)):(aS l).length=l.length*2:=by
 induction l with
 | nil=>rfl
 | cons x l ih=>simp only [aS,List.flatMap_cons]at ih ⊢;simp [ih];omega
theorem jC (a b:List (Int × Int)):aS (a++b)=aS a++aS b:=by simp [aS]
theorem Nr:(Tryz.prog.info? 119).map (fun i=>(i.zero,i.size,i.bytes))=some (some (.agg #[.int .i64 0,.int .i64 0]),2,16):=by kernel_rfl
structure Bw (g:Nat) (v:Value) (w w':World):Prop where
  os:w'.os=w.os
  tape:w'.tape=w.tape
  output:w'.output=w.output
  size:w.heap.size≤w'.heap.size
  block:∀ k,k<w.heap.size→k≠g→v.ownBlock≠some k→w'.heap[k]? = w.heap[k]?
theorem wV (a r:Int) (g lo n:Nat) (v:Value) (xs:List Value) (w:World) (hg:ai w g 114 #[v]) (ho:w.ownsRow lo 119 2 v n xs) (hlo:lo≤w.heap.size) (KA:g<lo) (hn:n≤100000) :
    Calls Tryz.prog 76 #[.int .i64 a,.int .i64 r,.pointer (some ⟨g,0,none⟩)] w fun e w'=>e=.returned (.tuple #[])∧∃ v',ai w' g 114 #[v']∧w'.ownsRow lo 119 2 v' (n+1) (xs++[.int .i64 a,.int .i64 r])∧Bw g v w w':=by
 obtain⟨i1,hi1,q0,q1,q2⟩:=info_parts Nr;have HG:=qqh hg;have HO:=qqh ho;have c0:w.cell? ⟨g,0,none⟩=some v:=hg.cell 0;have xN:=qqh (World.ownsRow.alloc ho (.cells #[.int .i64 a,.int .i64 r] 119));have HN:=qqh (Rd.new w 119 2 1 [.int .i64 a,.int .i64 r] rfl);have H1:=qqh (show ∀ u ∈ [Value.int .i64 a,Value.int .i64 r],u.oneCell'=true by intro u hu;simp at hu;rcases hu with rfl | rfl <;> rfl);have Yb:=hg.lt;obtain⟨A,c,rfl,hc⟩:=aI ho;clear hg ho;go_enter Tryz.func76,Tryz.ntmps76;go_wp2_with (at_builtin;refine ak _ rfl (.tmp 5) (.tmp 9) 114 rfl lo 119 i1 _ 2 16 Tryz.underlying114 hi1 q0 q1 q2 rfl (by decide) _ n _ rfl xN.out _ (some ⟨w.heap.size,0,none⟩) 1 1 [.int .i64 a,.int .i64 r] rfl HN.out H1.out (by simp only [maxLen];omega) (by omega) (by simp;omega) ?_);intro v' w9 au;have VF:w9.heap[g]? = w.heap[g]?:=(au.2.1.block g (by simp;omega) (fun e=>by
  have:=(aQ xN.out e.symm).1;omega)).trans (heap_alloc_old w _ Yb)
 have T':ai w9 g 114 #[.slice A n c]:=VF.trans HG.out;have d0:w9.cell? ⟨g,0,none⟩=some (.slice A n c):=T'.cell 0;have d1:=T'.frozen 0;have T9:=qqh T';obtain⟨A',c',rfl,_⟩:=aI au.own;have N7:=qqh au;clear VF T' au;go_wp2_with fail;go_end0;refine⟨rfl,_,T9.out.put 0 _,?_,?_,?_,?_,?_,?_⟩;exact eM (i:=0) N7.out.own T9.out (by decide);exact N7.out.2.1.os;exact N7.out.2.1.tape;exact N7.out.2.1.output
 ·have:=N7.out.2.1.size;simp at this ⊢;omega
 intro k hk hkg hkv;rw [Below.heap_setCell _ _ _ _ (by simpa using hkg)];rw [N7.out.2.1.block k (by simp;omega) (fun e=>hkv e.symm)];exact heap_alloc_old w _ hk
def I8 (w:World) (g:Nat) (o:zL × (Int × Int)) (tr:List (Int × Int)) (e:Ending) (w':World):Prop :=
  si w.heap.size w' o e∧w.grownBy w' (some g)∧(o.2.1=0→∃ v,ai w' g 114 #[v]∧w'.ownsRow w.heap.size 119 2 v tr.length (aS tr)∧tr.length≤100000)
def gv (l:List aj) (t:List Int):List (Int × Int):=cY l (8*t.length+40) [] t
theorem sK {w w':World} (g:Nat) (hb:Below w.heap.size w w'):w.grownBy w' (some g):=⟨hb.os,hb.tape,hb.output,hb.size,fun i hi _=>hb.block i hi⟩
theorem pZ {w w1 w2:World} {g B:Nat} (h:w.grownBy w1 (some g)) (hb:Below B w1 w2) (hB:w.heap.size≤B):w.grownBy w2 (some g) :=
  ⟨hb.os.trans h.os,hb.tape.trans h.tape,hb.output.trans h.output,Nat.le_trans h.size hb.size,fun i hi hn=>(hb.block i (Nat.lt_of_lt_of_le hi hB)).trans (h.block i hi hn)⟩
theorem iy {w w1:World} {g:Nat} (h:w.grownBy w1 (some g)) {p:Addr} (hp:w.heap.size≤p.block) (u:Value):w.grownBy (w1.setCell p u) (some g) :=
  ⟨h.os,h.tape,h.output,by simpa [World.setCell] using h.size,fun i hi hne=>(Below.heap_setCell w1 p u i (by rintro rfl;omega)).trans (h.block i hi hne)⟩
theorem NI {w w1 w2:World} {g:Nat} {v:Value} (h:w.grownBy w1 (some g)) (ht:Bw g v w1 w2) (hv:∀ k,v.ownBlock=some k→w.heap.size≤k):w.grownBy w2 (some g) :=
  ⟨ht.os.trans h.os,ht.tape.trans h.tape,ht.output.trans h.output,Nat.le_trans h.size ht.size,fun i hi hn=>(ht.block i (Nat.lt_of_lt_of_le hi h.size) (fun e=>hn (by rw [e])) (fun e=>by have:=hv i e;omega)).trans (h.block i hi hn)⟩
theorem nW {w w':World} {g b:Nat} {v:Value} {t:TypeId} {cs:Array Value} (ht:Bw g v w w') (h:ai w b t cs) (hg:b≠g) (hv:v.ownBlock≠some b):ai w' b t cs:=(ht.block b h.lt hg hv).trans h
theorem gQ {w:World} {base sz n:Nat} {T t:TypeId} {v:Value} {xs:List Value} {b:Nat} {cs:Array Value} (ho:w.ownsRow base T sz v n xs) (h:ai w b t cs) (hne:T≠t):v.ownBlock≠some b:=by
 rcases ho.2 with ⟨rfl,_⟩ | ⟨g,cap,cur,rfl,_,hg,_⟩
 ·simp [Value.ownBlock]
 simp only [Value.ownBlock,ne_eq,Option.some.injEq];rintro rfl;unfold ai at h;rw [hg]at h;injection h with h;injection h with _ h;exact hne h
theorem cK.two {lo:Nat} {w w':World} {M b:Nat} {A Z:List Int} {l:List aj} {hs:List bt} {Ar:Option Addr} {nr cr:Nat} {Ah:Option Addr} {nh ch:Nat} {bO s p:Int} (h:cK lo w M b A Z l hs Ar nr cr Ah nh ch bO s p)
    {g n:Nat} {v:Value} {xs:List Value} (hg:g<lo) (ho:w.ownsRow lo 119 2 v n xs) (ht:Bw g v w w') (hr:aZ (aO w' (fun x=>x<lo)) w' (fun x=>x<lo) 7 Ar nr l) (hh:aZ (fS w' (fun x=>x<lo)) w' (fun x=>x<lo) 3 Ah nh hs) :
    cK lo w' M b A Z l hs Ar nr cr Ah nh ch bO s p:=by
 obtain⟨L,n',D,f,t,hb,h1,h2,h3,h4⟩:=h.buf;have hM:=h.ge;exact⟨h.ge,nW ht h.blk (by omega) (gQ ho h.blk (by decide)),⟨L,n',D,f,t,⟨nW ht hb.buf (by omega) (gQ ho hb.buf (by decide)),nW ht hb.row (by omega) (gQ ho hb.row (by decide)),hb.len,hb.le,hb.end_,hb.small⟩,h1,h2,h3,h4⟩,hr,hh⟩
def OF (lo g:Nat) (W5 wr:World):Prop:=∀ k,k<lo→k≠g→wr.heap[k]? = W5.heap[k]?
def RR (w:World) (lo M b g:Nat) (l:List aj) (hs:List bt) (Ar:Option Addr) (nr cr:Nat) (Ah:Option Addr) (nh ch bO:Nat) (t:List Int) (W5 wr:World):Prop :=
  ∃ (A Z:List Int) (s p:Nat),cK lo wr M b A Z l hs Ar nr cr Ah nh ch bO s p∧s≤bO∧p≤s∧(A++Z).length≤4000∧Runes (A++Z)∧bC l bO [] t 0 0=bC l (bO - s) A Z s p ∧
    (ai wr w.heap.size 29 #[.slice none 0 0,.int .i64 0,.int .i64 0]∧ai wr (w.heap.size+1) 32 #[.int .i64 0,.int .i64 0]∧w.grownBy wr (some g)) ∧
    OF lo g W5 wr∧∃ (v:Value) (tr:List (Int × Int)),ai wr g 114 #[v]∧wr.ownsRow lo 119 2 v s (aS tr)∧tr.length=s∧cY l bO [] t=tr++cY l (bO - s) A Z
theorem K0 {w w':World} {lo lo' sz n:Nat} {T:TypeId} {v:Value} {xs:List Value} (h:w.ownsRow lo T sz v n xs) (hk:Kq lo' w w') (h1:T ≠ 21) (h2:T ≠ 202) (h3:T ≠ 181):w'.ownsRow lo T sz v n xs:=by
 refine⟨h.1,?_⟩;rcases h.2 with h0 | ⟨g,cap,cur,rfl,hg,hh,r⟩;exact .inl h0;exact .inr ⟨g,cap,cur,rfl,hg,hk.other g _ _ hh h1 h2 h3,r⟩
theorem nQ {w w':World} {lo sz n:Nat} {T:TypeId} {v:Value} {xs:List Value} (h:w.ownsRow lo T sz v n xs) (hk:∀ k,v.ownBlock=some k→w'.heap[k]? = w.heap[k]?):w'.ownsRow lo T sz v n xs:=by
 refine⟨h.1,?_⟩;rcases h.2 with h2 | ⟨g,cap,cur,rfl,hg,hh,r⟩;exact .inl h2;exact .inr ⟨g,cap,cur,rfl,hg,(hk g rfl).trans hh,r⟩
theorem jN {w:World} {g:Nat} {t:TypeId} {cs:Array Value} (h:ai w g t cs) {p:Addr} (hp:g≠p.block) (u:Value):ai (w.setCell p u) g t cs:=(Below.heap_setCell w p u g hp).trans h
theorem dR {w:World} {lo sz n:Nat} {T:TypeId} {v:Value} {xs:List Value} (h:w.ownsRow lo T sz v n xs) {p:Addr} (hp:p.block<lo) (u:Value):(w.setCell p u).ownsRow lo T sz v n xs :=
  nQ h (fun k e=>Below.heap_setCell w p u k (by have:=(aQ h e).1;omega))
theorem Ld (g:Nat) (X:Nat→Prop) (l:List aj) (Ar:Option Addr) (nr cr:Nat) (t:List Int) (At:Option Addr) (nt ct:Nat) (w:World) (wJ:nr≤maxLen) (hl:aZ (aO w X) w X 7 Ar nr l) (hX:∀ b,X b→b≠g) (hG:ai w g 114 #[.slice none 0 0]) (hnt:nt≤maxLen) (ht:mc w w.heap.size At nt t) :
    Calls Tryz.prog 75 #[.slice Ar nr cr,.slice At nt ct,.func (.func 76) #[] #[.pointer (some ⟨g,0,none⟩)]] w (I8 w g (cF l t) (gv l t)):=by
 have oJ:=qqh hG;have KA:=hG.lt;have HXG:=qqh hX;clear hG hX;have htl:=ht.len;have hb0:=((Below.refl w.heap.size w).alloc (Nat.le_refl _) (.cells #[.slice none 0 0,.int .i64 0,.int .i64 0] 29)).alloc (by simp) (.cells #[.int .i64 0,.int .i64 0] 32);have oV:=qqh (ai.alloc (ai.new w 29 #[.slice none 0 0,.int .i64 0,.int .i64 0]) (.cells #[.int .i64 0,.int .i64 0] 32));have yQ:=qqh (show ai ((w.alloc (.cells #[.slice none 0 0,.int .i64 0,.int .i64 0] 29)).alloc (.cells #[.int .i64 0,.int .i64 0] 32)) (w.heap.size+1) 32 #[.int .i64 0,.int .i64 0] by
  have:=ai.new (w.alloc (.cells #[.slice none 0 0,.int .i64 0,.int .i64 0] 29)) 32 #[.int .i64 0,.int .i64 0];simpa using this)
 have dO:=qqh hb0;have HL:=qqh (fun(W:World) (hb:Below w.heap.size w W)=>show aZ (aO W X) W X 7 Ar nr l from hl.keep (af.any hb) (fun _ _=>aO.keep (af.any hb)));have vu:=qqh (fun(W:World) (hb:Below w.heap.size w W)=>show mc W W.heap.size At nt t from(Rd.below ht hb).more hb.size);clear hb0 hl ht;generalize Uf:(w.alloc (.cells #[.slice none 0 0,.int .i64 0,.int .i64 0] 29)).alloc (.cells #[.int .i64 0,.int .i64 0] 32)=W0 at *;have HW:=qqh (kV X l Ar nr cr W0 wJ (HL.out W0 dO.out));go_enter Tryz.func75,Tryz.ntmps75;go_wp2_with fail;clear Uf;refine HW.out.mono ?_;rintro e w1 ⟨rfl,aW⟩;have oH:=qqh (ai.below oV.out aW oV.out.lt);have wH:=qqh (ai.below yQ.out aW yQ.out.lt);have b7:=qqh (dO.out.trans (aW.mono dO.out.size));clear aW HW oV yQ dO;obtain⟨r1,r2,hR⟩:∃ r1 r2,cT l=(r1,r2):=⟨_,_,rfl⟩;rw [hR];by_cases hz:r1=0
 ·subst hz;have ko:=qqh (fV (l:=l) (by rw [hR]));have qO:=qqh (pK (l:=l) (by rw [hR]));have HP:=qqh (show cF l t=if cP t≠0 then (dw,(cP t,0))else if (dW l).2.1≠0 then (dw,(dW l).2)else jV (bC l (8*t.length+40) [] t 0 0) by unfold cF;rw [hR];rfl);have mh:=qqh (oH.out.alloc (.cells #[.int .i64 0,.int .i64 r2] 32));have Cc:=qqh (wH.out.alloc (.cells #[.int .i64 0,.int .i64 r2] 32));have bG:=qqh (b7.out.alloc b7.out.size (.cells #[.int .i64 0,.int .i64 r2] 32));have La:=qqh (ld At nt ct t _ hnt (vu.out _ bG.out));clear hR oH wH b7;go_wp2_with fail;refine La.out.mono ?_;rintro e w3 ⟨rfl,bN⟩;have ou:=qqh (ai.below mh.out bN mh.out.lt);have vW:=qqh (ai.below Cc.out bN Cc.out.lt);have bL:=qqh (bG.out.trans (bN.mono bG.out.size));clear bN mh Cc bG La;obtain⟨tp,nT⟩:∃ tp,cP t=tp:=⟨_,rfl⟩;rw [nT];have sJ:=qqh (show cF l t=if tp≠0 then (dw,(tp,0))else if (dW l).2.1≠0 then (dw,(dW l).2)else jV (bC l (8*t.length+40) [] t 0 0) by rw [← nT];exact HP.out);clear HP;by_cases hz:tp=0
  ·subst hz;have tA:=qqh (show t.length≤4000∧Runes t by
    unfold cP at nT;by_cases h4:4000<t.length
    ·rw [if_pos h4]at nT;cases nT
    rw [if_neg h4]at nT;refine⟨by omega,nc ?_⟩;cases hb:cz t;rfl;rw [hb]at nT;cases nT)
   have IF:=qqh (qx X l Ar nr cr w3 wJ (HL.out _ bL.out));have Pa:=qqh (@sj l);have FP:=qqh (@xF l);have kO:=qqh (sJ.out.trans (if_neg (by decide)));obtain⟨hs,f1,f2,hC⟩:∃ hs f1 f2,dW l=(hs,(f1,f2)):=⟨_,_,_,rfl⟩;rw [hC]at IF Pa FP kO;clear nT sJ hC;dsimp only at IF Pa FP kO;go_wp2_with fail;refine IF.out.mono ?_;rintro e w4 ⟨⟨v,rfl,hv⟩,hb4⟩;obtain⟨Ah,ch,rfl,hh,_⟩:=hv.form;have GX:=qqh (ai.alloc (ai.below ou.out hb4 ou.out.lt) (.cells #[.int .i64 f1,.int .i64 f2] 32));have MV:=qqh (ai.alloc (ai.below vW.out hb4 vW.out.lt) (.cells #[.int .i64 f1,.int .i64 f2] 32));have Ed:=qqh (ai.new w4 32 #[.int .i64 f1,.int .i64 f2]);have GA:=qqh (bL.out.trans (hb4.mono bL.out.size));have ek:=qqh (GA.out.alloc GA.out.size (.cells #[.int .i64 f1,.int .i64 f2] 32));have hba:=(Below.refl w4.heap.size w4).alloc (Nat.le_refl _) (.cells #[.int .i64 f1,.int .i64 f2] 32);have Sv:=qqh (hh.keep (af.below hba (fun b h _=>(show w.heap.size≤b from Nat.le_trans bL.out.size h))) (fun _ _=>fS.keep (X':=fun b=>w.heap.size≤b) (af.below hba (fun b h _=>(show w.heap.size≤b from Nat.le_trans bL.out.size h)))));have Y1:w.heap.size<w4.heap.size:=Nat.lt_of_lt_of_le ou.out.lt hb4.size;have hy4:w.heap.size+1<w4.heap.size:=Nat.lt_of_lt_of_le vW.out.lt hb4.size;clear hv hh hb4 hba ou vW bL IF GA;by_cases hz:f1=0
   ·subst hz;have iY:=qqh (kO.out.trans (if_neg (by decide)));have uH:=(Pa.out rfl).2.2;have Tl:=qqh (FP.out rfl);have uw:l.length≤200:=ko.out.size;obtain⟨bO,oA⟩:∃ bO:Nat,bO=8*t.length+40:=⟨_,rfl⟩;have Np:=qqh (show cF l t=jV (bC l bO [] t 0 0) by rw [iY.out,oA]);have QM:bO≤32040:=(by have:=tA.out.1;omega);have An:=qqh GX.out;have OR:=qqh MV.out;have dQ:=qqh ek.out;have Yt:=qqh Sv.out;clear GX MV ek Sv kO iY Pa FP;generalize VB:(w4.alloc (.cells #[.int .i64 0,.int .i64 f2] 32))=W5 at *;have IC:w4.heap.size<W5.heap.size:=(by rw [← VB];simp);have q0:=Ed.out.cell 0;have Pw:=qqh (show ai W5 g 114 #[.slice none 0 0] from ai.below oJ.out dQ.out KA)
    have Cq:=qqh (fun(W:World) (ho:OF W5.heap.size g W5 W) (hsz:W5.heap.size≤W.heap.size)=>show aZ (aO W (fun x=>x<W5.heap.size)) W (fun x=>x<W5.heap.size) 7 Ar nr l from
      (HL.out W5 dQ.out).keep (fun b hb hl=>⟨ho b hl (HXG.out b hb),hl,Nat.lt_of_lt_of_le hl hsz⟩) (fun _ _=>aO.keep (fun b hb hl=>⟨ho b hl (HXG.out b hb),hl,Nat.lt_of_lt_of_le hl hsz⟩)))
    have HH6:=qqh (fun(W:World) (ho:OF W5.heap.size g W5 W) (hsz:W5.heap.size≤W.heap.size)=>show aZ (fS W (fun x=>x<W5.heap.size)) W (fun x=>x<W5.heap.size) 3 Ah hs.length hs from
      Yt.out.keep (fun b hb hl=>⟨ho b hl (by have:g<b:=Nat.lt_of_lt_of_le KA hb;omega),hl,Nat.lt_of_lt_of_le hl hsz⟩) (fun _ _=>fS.keep (fun b hb hl=>⟨ho b hl (by have:g<b:=Nat.lt_of_lt_of_le KA hb;omega),hl,Nat.lt_of_lt_of_le hl hsz⟩)))
    have Je:=qqh (He t At nt ct W5 (vu.out W5 dQ.out) (by have:=tA.out.1;omega));have Mv:=qqh (fun W=>tj nt (by have:=tA.out.1;omega) W);have AK:((8*nt+40:Nat):Int)=(bO:Int):=(by omega);rw [AK]at Mv;go_upto_region 10 with fail;clear VB q0;go_wp2_with fail;refine Je.out.mono ?_;rintro e w6 ⟨rfl,o7,fu⟩;have HBU:=qqh o7;have gx:=qqh fu;clear o7 fu Je;go_wp2_with fail;refine(Mv.out _).mono ?_;rintro e w7 ⟨rfl,h7⟩;obtain rfl:=h7.symm;have gH:=gx.out.alloc gx.out.size (.cells (eZ (W5.heap.size+1) Ar nr cr Ah hs.length ch bO 0 0) 181)
    have oc:=qqh (show cK W5.heap.size (w6.alloc (.cells (eZ (W5.heap.size+1) Ar nr cr Ah hs.length ch bO 0 0) 181)) w6.heap.size (W5.heap.size+1) [] t l hs Ar nr cr Ah hs.length ch bO 0 0 from
      ⟨gx.out.size,ai.new _ _ _,HBU.out.below ((Below.refl _ _).alloc (Nat.le_refl _) _),
       (HL.out W5 dQ.out).keep (af.below gH (fun _ _ hl=>hl)) (fun _ _=>aO.keep (af.below gH (fun _ _ hl=>hl))),
       Yt.out.keep (af.below gH (fun _ _ hl=>hl)) (fun _ _=>fS.keep (af.below gH (fun _ _ hl=>hl)))⟩)
    have GI:=qqh (show ai (w6.alloc (.cells (eZ (W5.heap.size+1) Ar nr cr Ah hs.length ch bO 0 0) 181)) w.heap.size 29 #[.slice none 0 0,.int .i64 0,.int .i64 0]∧ai (w6.alloc (.cells (eZ (W5.heap.size+1) Ar nr cr Ah hs.length ch bO 0 0) 181)) (w.heap.size+1) 32 #[.int .i64 0,.int .i64 0]∧w.grownBy (w6.alloc (.cells (eZ (W5.heap.size+1) Ar nr cr Ah hs.length ch bO 0 0) 181)) (some g) from
      ⟨ai.below An.out gH (by omega),ai.below OR.out gH (by omega),sK g (dQ.out.trans (gH.mono (by omega)))⟩)
    have T4:=qqh (show OF W5.heap.size g W5 (w6.alloc (.cells (eZ (W5.heap.size+1) Ar nr cr Ah hs.length ch bO 0 0) 181))∧ai (w6.alloc (.cells (eZ (W5.heap.size+1) Ar nr cr Ah hs.length ch bO 0 0) 181)) g 114 #[.slice none 0 0] from⟨fun k hk _=>gH.block k hk,ai.below Pw.out gH Pw.out.lt⟩);simp only [eZ]at oc GI T4;clear gH Mv An OR;go_wp2_with fail;generalize hM:w6.heap.size=M at *;generalize hlo:W5.heap.size=lo at *;go_loopw [] (RR w lo M (lo+1) g l hs Ar nr cr Ah hs.length ch bO t W5) (fun wr=>bO - gG M wr);(case atStart=>exact⟨[],t,0,0,oc.out,Nat.zero_le _,Nat.le_refl _,tA.out.1,tA.out.2,rfl,GI.out,T4.out.1,_,[],T4.out.2,World.ownsRow_nil _ _ _ _,rfl,rfl⟩);obtain⟨A,Z,s,p,hma,Jh,hps,KI,Vg,aX,hxy,hoff,v0,tr,hgv,hov,Uh,htr⟩:=hrel;have aaX:=qqh hoff;have Y4:=qqh hgv;have HOV:=qqh hov;have RX:=qqh Uh;have RM:=qqh htr;clear hoff hgv hov Uh htr;have CZ:=qqh hma;have tO:=qqh hxy;have dY:=qqh aX;have nC:=qqh Vg;have oO:gG M wr=s:=by
     unfold gG;rw [hma.blk.cell];simp [eZ]
    have fB:=qqh oO;have m0:wr.cell? ⟨M,0,none⟩=some (.pointer (some ⟨lo+1,0,none⟩)):=hma.blk.cell 0;have rG:=qqh (fun(q:Nat)=>rB (CZ.out.buf.below (below_drewN (Below.refl wr.heap.size wr) q)));have vn:=qqh (fun(q:Nat)=>sU (CZ.out.buf.below (below_drewN (Below.refl wr.heap.size wr) q)));clear hma hxy aX oO Vg;cases Z with
    | nil=>
     have S1:=qqh (fun(q:Nat)=>show Calls Tryz.prog 101 #[.pointer (some ⟨lo+1,0,none⟩)] (wr.drewN q) fun e w'=>e=.returned (.int .i64 A.length)∧∃ k,w'=(wr.drewN q).drewN k by simpa using vn.out q);have Sw:decide ((A.length:Int)<(A.length:Int))=false:=decide_eq_false (by omega);have Wl:=qqh (fun(q:Nat)=>AL (CZ.out.buf.below (below_drewN (Below.refl wr.heap.size wr) q)));have N1:=qqh (show cF l t=(⟨A,s,p⟩,(0,0)) by rw [Np.out,dY.out,fI];rfl);go_wp2_with fail;go_quiet (first | (go_at_call 100;exact Calls.quiet_of_same (rG.out _)) | (go_at_call 101;exact Calls.quiet_of (S1.out _)));have U9:(wr.drewN nq).cell? ⟨M,0,none⟩=some (.pointer (some ⟨lo+1,0,none⟩)):=m0;go_wp2_with fail;refine(Wl.out nq).mono ?_;rintro e w8 ⟨⟨v,rfl,ho⟩,gh⟩;obtain⟨Av,cv,rfl,_⟩:=aI ho;rw [List.append_nil]at ho ⊢;have uq:Below wr.heap.size wr w8:=(below_drewN (Below.refl wr.heap.size wr) nq).trans gh;have Gk:=ai.below CZ.out.blk uq CZ.out.blk.lt;have Xe:=qqh (ai.below tO.out.1 uq tO.out.1.lt);have UC:=qqh (ai.below tO.out.2.1 uq tO.out.2.1.lt);have wD:=qqh (pZ tO.out.2.2 uq tO.out.2.2.size);have YE:=qqh (ai.below Y4.out uq Y4.out.lt);have Hp:=qqh (dy HOV.out uq);have hwM:w.heap.size+1<M:=by
      have h1:=GI.out.2.1.lt;have h2:=oc.out.ge;omega
     have u4:w8.cell? ⟨M,4,none⟩=some (.slice none 0 0):=Gk.cell 4;have g4:=Gk.frozen 4;have Rt:=qqh (Gk.put 4 (.slice Av A.length cv));have Uw:=CZ.out.blk.lt;have ZX:=qqh (show bW w8 (fun b=>wr.heap.size≤b) 1 Av A.length (runeCells A) from bW.cy ho (fun b hb=>(aQ ho hb).1));have Xn:=Xe.out.other Gk (by decide) 4 (.slice Av A.length cv);have Vy:=UC.out.other Gk (by decide) 4 (.slice Av A.length cv);have OG:=iy (p:=⟨M,4,none⟩) wD.out (by simp only;omega) (.slice Av A.length cv);have hgM:g≠M:=(by omega);have T':=YE.out.other Gk (by decide) 4 (.slice Av A.length cv);have hO9:=eM (i:=4) (u:=.slice Av A.length cv) Hp.out Gk (by decide);have SD:=qqh (ZX.out.keep (af.setCell (p:=⟨M,4,none⟩) (.slice Av A.length cv) (fun b hb=>by simp only;omega) (fun b h _=>(h:wr.heap.size≤b))));clear ho gh uq Gk Xe UC wD;go_upto_region 18 with fail;generalize hW9:w8.setCell ⟨M,4,none⟩ (.slice Av A.length cv)=W9 at *;have o4:W9.cell? ⟨M,4,none⟩=some (.slice Av A.length cv):=Rt.out.cell 4;have o5:W9.cell? ⟨M,5,none⟩=some (.int .i64 s):=Rt.out.cell 5;have o6:W9.cell? ⟨M,6,none⟩=some (.int .i64 p):=Rt.out.cell 6;have hX:=Xn;have hY:=Vy;have x0:=hX.cell 0;have x1:=hX.cell 1;have x2:=hX.cell 2;have y0:=hY.cell 0;have y1:=hY.cell 1;have p0:=hX.frozen 0;have p1:=hX.frozen 1;have p2:=hX.frozen 2;have p3:=hY.frozen 0;have p4:=hY.frozen 1;have fO:=iy (p:=⟨w.heap.size+1,1,none⟩) (iy (p:=⟨w.heap.size+1,0,none⟩) (iy (p:=⟨w.heap.size,2,none⟩) (iy (p:=⟨w.heap.size,1,none⟩) (iy (p:=⟨w.heap.size,0,none⟩) (OG) (by simp) (.slice Av A.length cv)) (by simp) (.int .i64 s)) (by simp) (.int .i64 p)) (by simp) (.int .i64 0)) (by simp) (.int .i64 0);have lO:=qqh fO;have NM:=qqh (show ∃ v,ai ((((((W9).setCell ⟨w.heap.size,0,none⟩ (.slice Av A.length cv)).setCell ⟨w.heap.size,1,none⟩ (.int .i64 s)).setCell ⟨w.heap.size,2,none⟩ (.int .i64 p)).setCell ⟨w.heap.size+1,0,none⟩ (.int .i64 0)).setCell ⟨w.heap.size+1,1,none⟩ (.int .i64 0)) g 114 #[v]∧((((((W9).setCell ⟨w.heap.size,0,none⟩ (.slice Av A.length cv)).setCell ⟨w.heap.size,1,none⟩ (.int .i64 s)).setCell ⟨w.heap.size,2,none⟩ (.int .i64 p)).setCell ⟨w.heap.size+1,0,none⟩ (.int .i64 0)).setCell ⟨w.heap.size+1,1,none⟩ (.int .i64 0)).ownsRow w.heap.size 119 2 v (gv l t).length (aS (gv l t))∧(gv l t).length≤100000 by
      have e1:gv l t=tr:=(by unfold gv;rw [← oA,RM.out,fQ,List.append_nil]);rw [e1,RX.out];exact⟨v0,jN (jN (jN (jN (jN (T') (p:=⟨w.heap.size,0,none⟩) (by simp only;omega) (.slice Av A.length cv)) (p:=⟨w.heap.size,1,none⟩) (by simp only;omega) (.int .i64 s)) (p:=⟨w.heap.size,2,none⟩) (by simp only;omega) (.int .i64 p)) (p:=⟨w.heap.size+1,0,none⟩) (by simp only;omega) (.int .i64 0)) (p:=⟨w.heap.size+1,1,none⟩) (by simp only;omega) (.int .i64 0),iE (dR (dR (dR (dR (dR (hO9) (p:=⟨w.heap.size,0,none⟩) (by simp only;omega) (.slice Av A.length cv)) (p:=⟨w.heap.size,1,none⟩) (by simp only;omega) (.int .i64 s)) (p:=⟨w.heap.size,2,none⟩) (by simp only;omega) (.int .i64 p)) (p:=⟨w.heap.size+1,0,none⟩) (by simp only;omega) (.int .i64 0)) (p:=⟨w.heap.size+1,1,none⟩) (by simp only;omega) (.int .i64 0)) (by omega),by omega⟩)
     have qj:=qqh (SD.out.keep (X':=fun b=>w.heap.size≤b) (((((af.setCell (X':=fun b=>wr.heap.size≤b) (p:=⟨w.heap.size,0,none⟩) (.slice Av A.length cv) (fun b h=>by have h':wr.heap.size≤b:=h;simp only;omega) (fun _ h _=>h)).trans (af.setCell (X':=fun b=>wr.heap.size≤b) (p:=⟨w.heap.size,1,none⟩) (.int .i64 s) (fun b h=>by have h':wr.heap.size≤b:=h;simp only;omega) (fun _ h _=>h))).trans (af.setCell (X':=fun b=>wr.heap.size≤b) (p:=⟨w.heap.size,2,none⟩) (.int .i64 p) (fun b h=>by have h':wr.heap.size≤b:=h;simp only;omega) (fun _ h _=>h))).trans (af.setCell (X':=fun b=>wr.heap.size≤b) (p:=⟨w.heap.size+1,0,none⟩) (.int .i64 0) (fun b h=>by have h':wr.heap.size≤b:=h;simp only;omega) (fun _ h _=>h))).trans (af.setCell (p:=⟨w.heap.size+1,1,none⟩) (.int .i64 0) (fun b h=>by have h':wr.heap.size≤b:=h;simp only;omega) (fun b h _=>by have h':wr.heap.size≤b:=h;have:=tO.out.2.2.size;omega))));clear hX hY fO Xn Vy OG u4 g4 hW9;go_wp2_with fail;rw [N1.out];exact bodyPost_ret (v:=.tuple #[.agg #[.slice Av A.length cv,.int .i64 s,.int .i64 p],.agg #[.int .i64 0,.int .i64 0]]) (by simp [results,Tryz.results75,go_sem,x0,x1,x2,y0,y1]) rfl ⟨⟨Av,A.length,cv,rfl,qj.out⟩,lO.out,fun _=>NM.out⟩
    | cons z Z'=>
     have OT:decide ((A.length:Int)<((A.length+(z::Z').length:Nat):Int))=true:=decide_eq_true (by simp only [List.length_cons];omega);have RS:(A++z::Z')[A.length]? = some z:=(by simp);have hz0:=nC.out z (by simp);have Z7:(A++z::Z').length=A.length+(Z'.length+1):=(by rw [List.length_append,List.length_cons]);have aa8:w.heap.size+1<lo:=by
      have:=dQ.out.size;omega
     go_wp2_with fail;go_quiet (first | (go_at_call 100;exact Calls.quiet_of_same (rG.out _)) | (go_at_call 101;exact Calls.quiet_of (vn.out _)));have U9:(wr.drewN nq).cell? ⟨M,0,none⟩=some (.pointer (some ⟨lo+1,0,none⟩)):=m0;go_wp2_with fail;refine(rG.out nq).mono ?_;rintro e w8 ⟨rfl,h8⟩;have gh:Below wr.heap.size wr w8:=(by rw [h8];exact below_drewN (Below.refl _ _) nq);have Ff:=qqh (CZ.out.below gh);have ke:=qqh (show ai w8 w.heap.size 29 #[.slice none 0 0,.int .i64 0,.int .i64 0]∧ai w8 (w.heap.size+1) 32 #[.int .i64 0,.int .i64 0]∧w.grownBy w8 (some g) from⟨ai.below tO.out.1 gh tO.out.1.lt,ai.below tO.out.2.1 gh tO.out.2.1.lt,pZ tO.out.2.2 gh tO.out.2.2.size⟩);have YE:=qqh (ai.below Y4.out gh Y4.out.lt);have Hp:=qqh (dy HOV.out gh);have vI:=qqh (show OF lo g W5 w8 from fun k hk hg=>(gh.block k (by have:=CZ.out.blk.lt;have:=CZ.out.ge;omega)).trans (aaX.out k hk hg));clear m0 U9 rG vn gh h8 OT;by_cases NV:s=bO
     ·have dY:=qqh (show bC l bO [] t 0 0=(dw,9) by rw [dY.out,show bO - s=0 by omega];exact jz l A s p (by simp));have KU:=qqh (wX Ff.out NV (by omega));go_wp2_with fail;refine KU.out.mono ?_;rintro e w9 ⟨rfl,kq,h9⟩;have bR:Below lo w8 w9:=(by rw [h9];exact below_drewN (Below.refl _ _) kq);have iM:=qqh (show ai w9 w.heap.size 29 #[.slice none 0 0,.int .i64 0,.int .i64 0]∧ai w9 (w.heap.size+1) 32 #[.int .i64 0,.int .i64 0]∧w.grownBy w9 (some g) from⟨ai.below ke.out.1 bR (by omega),ai.below ke.out.2.1 bR (by omega),pZ ke.out.2.2 bR (by omega)⟩);have yx:=bR;clear bR h9;have HP:=qqh (show cF l t=(dw,(9,0)) by rw [Np.out,dY.out];rfl);have hX:=iM.out.1;have hY:=iM.out.2.1;have x0:=hX.cell 0;have x1:=hX.cell 1;have x2:=hX.cell 2;have y0:=hY.cell 0;have y1:=hY.cell 1;have p0:=hX.frozen 0;have p1:=hX.frozen 1;have p2:=hX.frozen 2;have p3:=hY.frozen 0;have p4:=hY.frozen 1;have fO:=iy (p:=⟨w.heap.size+1,1,none⟩) (iy (p:=⟨w.heap.size+1,0,none⟩) (iy (p:=⟨w.heap.size,2,none⟩) (iy (p:=⟨w.heap.size,1,none⟩) (iy (p:=⟨w.heap.size,0,none⟩) (iM.out.2.2) (by simp) (.slice none 0 0)) (by simp) (.int .i64 0)) (by simp) (.int .i64 0)) (by simp) (.int .i64 9)) (by simp) (.int .i64 0);have lO:=qqh fO;clear hX hY fO;go_wp2_with fail;rw [HP.out];exact bodyPost_ret (v:=.tuple #[.agg #[.slice none 0 0,.int .i64 0,.int .i64 0],.agg #[.int .i64 9,.int .i64 0]]) (by simp [results,Tryz.results75,go_sem,x0,x1,x2,y0,y1]) rfl ⟨⟨none,0,0,rfl,⟨rfl,fun h=>absurd h (Nat.lt_irrefl 0)⟩⟩,lO.out,fun h=>absurd h (by decide)⟩
     rcases fW l (A++z::Z') A.length with jt | ⟨k,r,jt,hk,nZ⟩
     ·have kQ:=qqh (show bC l bO [] t 0 0=bC l (bO - (s+1)) (A++[z]) Z' (s+1) p by rw [dY.out,show bO - s=(bO - (s+1))+1 by omega,iQ jt]);have Q8:=qqh (show cY l bO [] t=(tr++[((A.length:Int),-1)])++cY l (bO - (s+1)) (A++[z]) Z' by rw [RM.out,show bO - s=(bO - (s+1))+1 by omega,jd jt,List.append_assoc];rfl);have yZ:=qqh (uM Ff.out z Z' rfl z RS hz0 KI uH Tl.out qO.out uw (by omega) (by omega) jt);clear jt;go_wp2_with fail;refine yZ.out.mono ?_;rintro e w9 ⟨rfl,K4,Ik⟩;have bR:=Ik.below;have zC:=qqh K4;have iM:=qqh (show ai w9 w.heap.size 29 #[.slice none 0 0,.int .i64 0,.int .i64 0]∧ai w9 (w.heap.size+1) 32 #[.int .i64 0,.int .i64 0]∧w.grownBy w9 (some g) from⟨ai.below ke.out.1 bR (by omega),ai.below ke.out.2.1 bR (by omega),pZ ke.out.2.2 bR (by omega)⟩);have yx:=bR;clear K4 bR;have T9:=qqh (ai.below YE.out yx (by omega));have fN:=qqh (K0 Hp.out Ik (by decide) (by decide) (by decide));have og:=qqh (show OF lo g W5 w9 from fun k hk hg=>(yx.block k hk).trans (vI.out k hk hg));have ZG:=yx.size;have SF:=Ff.out.blk.lt;have Sm:=Ff.out.ge;clear yx Ik;go_wp2_with fail;refine(wV _ _ g lo s v0 (aS tr) _ T9.out fN.out (by omega) (by omega) (by omega)).mono ?_;rintro e uN ⟨rfl,v10,M6,M8,CT⟩;have Sj:=qqh M6;have SX:=qqh (show uN.ownsRow lo 119 2 v10 (s+1) (aS (tr++[((A.length:Int),-1)])) by rw [jC];exact M8);have xb:=qqh (show OF lo g W5 uN from fun k hk hg=>(CT.block k (by omega) hg (fun e=>by have:=(aQ fN.out e).1;omega)).trans (og.out k hk hg))
      have KT:=qqh (zC.out.two (by omega) fN.out CT (Cq.out uN (xb.out) (Nat.le_trans (by omega) CT.size)) (HH6.out uN xb.out (Nat.le_trans (by omega) CT.size)));have MQ:=qqh (show ai uN w.heap.size 29 #[.slice none 0 0,.int .i64 0,.int .i64 0]∧ai uN (w.heap.size+1) 32 #[.int .i64 0,.int .i64 0]∧w.grownBy uN (some g) from⟨nW CT iM.out.1 (by omega) (gQ fN.out iM.out.1 (by decide)),nW CT iM.out.2.1 (by omega) (gQ fN.out iM.out.2.1 (by decide)),NI iM.out.2.2 CT (fun k e=>by have:=(aQ fN.out e).1;omega)⟩);clear M6 M8 CT ZG SF Sm;go_wp2_with fail;refine⟨⟨A++[z],Z',s+1,p,KT.out,by omega,by omega,by rw [List.append_assoc];exact KI,by rw [List.append_assoc];exact nC.out,kQ.out,MQ.out,xb.out,v10,_,Sj.out,SX.out,by rw [List.length_append,RX.out];rfl,Q8.out⟩,?_⟩;have e9:gG M uN=s+1:=by
       unfold gG;rw [KT.out.blk.cell];simp [eZ]
      rw [fB.out,e9];omega
     have hfit:=uu nZ;have vG:=qO.out r (List.mem_of_getElem? hk);have hs1:=hfit;have QA:=qqh (show(r.target++(z::Z').drop r.source.length).length=r.target.length+((z::Z').length - r.source.length) by rw [List.length_append,List.length_drop]);by_cases x7:4000<A.length+(r.target++(z::Z').drop r.source.length).length
     ·have dY:=qqh (show bC l bO [] t 0 0=(dw,4) by rw [dY.out,show bO - s=(bO - (s+1))+1 by omega];exact iL jt hk x7);have Sp:=qqh (Az Ff.out k r hk z RS hz0 KI uH Tl.out qO.out uw (by omega) (by omega) (by omega) jt hfit (by rw [QA.out]at x7;omega));clear jt hk nZ vG x7;go_wp2_with fail;refine Sp.out.mono ?_;rintro e w9 ⟨rfl,bR⟩;have iM:=qqh (show ai w9 w.heap.size 29 #[.slice none 0 0,.int .i64 0,.int .i64 0]∧ai w9 (w.heap.size+1) 32 #[.int .i64 0,.int .i64 0]∧w.grownBy w9 (some g) from⟨ai.below ke.out.1 bR (by omega),ai.below ke.out.2.1 bR (by omega),pZ ke.out.2.2 bR (by omega)⟩);have yx:=bR;clear bR;have HP:=qqh (show cF l t=(dw,(4,0)) by rw [Np.out,dY.out];rfl);have hX:=iM.out.1;have hY:=iM.out.2.1;have x0:=hX.cell 0;have x1:=hX.cell 1;have x2:=hX.cell 2;have y0:=hY.cell 0;have y1:=hY.cell 1;have p0:=hX.frozen 0;have p1:=hX.frozen 1;have p2:=hX.frozen 2;have p3:=hY.frozen 0;have p4:=hY.frozen 1;have fO:=iy (p:=⟨w.heap.size+1,1,none⟩) (iy (p:=⟨w.heap.size+1,0,none⟩) (iy (p:=⟨w.heap.size,2,none⟩) (iy (p:=⟨w.heap.size,1,none⟩) (iy (p:=⟨w.heap.size,0,none⟩) (iM.out.2.2) (by simp) (.slice none 0 0)) (by simp) (.int .i64 0)) (by simp) (.int .i64 0)) (by simp) (.int .i64 4)) (by simp) (.int .i64 0);have lO:=qqh fO;clear hX hY fO;go_wp2_with fail;rw [HP.out];exact bodyPost_ret (v:=.tuple #[.agg #[.slice none 0 0,.int .i64 0,.int .i64 0],.agg #[.int .i64 4,.int .i64 0]]) (by simp [results,Tryz.results75,go_sem,x0,x1,x2,y0,y1]) rfl ⟨⟨none,0,0,rfl,⟨rfl,fun h=>absurd h (Nat.lt_irrefl 0)⟩⟩,lO.out,fun h=>absurd h (by decide)⟩
     have kQ:=qqh (show bC l bO [] t 0 0=bC l (bO - (s+1)) ((A++r.target++(z::Z').drop r.source.length).take (A.length+r.aa.toNat)) ((A++r.target++(z::Z').drop r.source.length).drop (A.length+r.aa.toNat)) (s+1) (p+1) by
      rw [dY.out,show bO - s=(bO - (s+1))+1 by omega,iO jt hk x7,List.append_assoc,tL,pP])
     have Q8:=qqh (show cY l bO [] t=(tr++[((A.length:Int),(k:Int))])++cY l (bO - (s+1)) ((A++r.target++(z::Z').drop r.source.length).take (A.length+r.aa.toNat)) ((A++r.target++(z::Z').drop r.source.length).drop (A.length+r.aa.toNat)) by
      rw [RM.out,show bO - s=(bO - (s+1))+1 by omega,i4 jt hk,List.append_assoc A,tL,pP,List.append_assoc tr];rfl)
     have HSR:=qqh (uO Ff.out k r hk z RS hz0 KI uH Tl.out qO.out uw (by omega) (by omega) (by omega) jt hfit (by rw [QA.out]at x7;omega));have No:=qqh (show((A++r.target++(z::Z').drop r.source.length).take (A.length+r.aa.toNat)++(A++r.target++(z::Z').drop r.source.length).drop (A.length+r.aa.toNat)).length≤4000∧Runes ((A++r.target++(z::Z').drop r.source.length).take (A.length+r.aa.toNat)++(A++r.target++(z::Z').drop r.source.length).drop (A.length+r.aa.toNat)) by
      rw [List.take_append_drop];refine⟨by rw [List.append_assoc,List.length_append];omega,fun y hy=>?_⟩;rcases List.mem_append.1 hy with hy | hy
      ·rcases List.mem_append.1 hy with hy | hy;exact nC.out y (by simp [hy]);exact nc vG.tgt.2 y hy
      exact nC.out y (List.mem_append_right _ (List.mem_of_mem_drop hy)))
     clear jt hk nZ vG x7;generalize (A++r.target++(z::Z').drop r.source.length).take (A.length+r.aa.toNat)=A' at *;generalize (A++r.target++(z::Z').drop r.source.length).drop (A.length+r.aa.toNat)=Z2 at *;go_wp2_with fail;refine HSR.out.mono ?_;rintro e w9 ⟨rfl,K4,Ik⟩;have bR:=Ik.below;have zC:=qqh K4;have iM:=qqh (show ai w9 w.heap.size 29 #[.slice none 0 0,.int .i64 0,.int .i64 0]∧ai w9 (w.heap.size+1) 32 #[.int .i64 0,.int .i64 0]∧w.grownBy w9 (some g) from⟨ai.below ke.out.1 bR (by omega),ai.below ke.out.2.1 bR (by omega),pZ ke.out.2.2 bR (by omega)⟩);have yx:=bR;clear K4 bR;have T9:=qqh (ai.below YE.out yx (by omega));have fN:=qqh (K0 Hp.out Ik (by decide) (by decide) (by decide));have og:=qqh (show OF lo g W5 w9 from fun k hk hg=>(yx.block k hk).trans (vI.out k hk hg));have ZG:=yx.size;have SF:=Ff.out.blk.lt;have Sm:=Ff.out.ge;clear yx Ik;go_wp2_with fail;refine(wV _ _ g lo s v0 (aS tr) _ T9.out fN.out (by omega) (by omega) (by omega)).mono ?_;rintro e uN ⟨rfl,v10,M6,M8,CT⟩;have Sj:=qqh M6;have SX:=qqh (show uN.ownsRow lo 119 2 v10 (s+1) (aS (tr++[((A.length:Int),(k:Int))])) by rw [jC];exact M8);have xb:=qqh (show OF lo g W5 uN from fun k hk hg=>(CT.block k (by omega) hg (fun e=>by have:=(aQ fN.out e).1;omega)).trans (og.out k hk hg));have KT:=qqh (zC.out.two (by omega) fN.out CT (Cq.out uN (xb.out) (Nat.le_trans (by omega) CT.size)) (HH6.out uN xb.out (Nat.le_trans (by omega) CT.size)))
     have MQ:=qqh (show ai uN w.heap.size 29 #[.slice none 0 0,.int .i64 0,.int .i64 0]∧ai uN (w.heap.size+1) 32 #[.int .i64 0,.int .i64 0]∧w.grownBy uN (some g) from⟨nW CT iM.out.1 (by omega) (gQ fN.out iM.out.1 (by decide)),nW CT iM.out.2.1 (by omega) (gQ fN.out iM.out.2.1 (by decide)),NI iM.out.2.2 CT (fun k e=>by have:=(aQ fN.out e).1;omega)⟩);clear M6 M8 CT ZG SF Sm;go_wp2_with fail;refine⟨⟨A',Z2,s+1,p+1,KT.out,by omega,by omega,No.out.1,No.out.2,kQ.out,MQ.out,xb.out,v10,_,Sj.out,SX.out,by rw [List.length_append,RX.out];rfl,Q8.out⟩,?_⟩;have e9:gG M uN=s+1:=by
      unfold gG;rw [KT.out.blk.cell];simp [eZ]
     rw [fB.out,e9];omega
   have HP:=qqh (kO.out.trans (if_pos hz));go_upto_region 9 with fail;have hX:=GX.out;have hY:=MV.out;have hQ:=Ed.out;have dQ:=qqh ek.out;clear GX MV Ed Sv ek;generalize (w4.alloc (.cells #[.int .i64 f1,.int .i64 f2] 32))=W3 at *;have x0:=hX.cell 0;have x1:=hX.cell 1;have x2:=hX.cell 2;have y0:=hY.cell 0;have y1:=hY.cell 1;have p0:=hX.frozen 0;have p1:=hX.frozen 1;have p2:=hX.frozen 2;have p3:=hY.frozen 0;have p4:=hY.frozen 1;have q0:=hQ.cell 0;have q1:=hQ.cell 1;have xW:¬ w.heap.size=w.heap.size+1:=(by omega);have yo:¬ w.heap.size=w4.heap.size:=(by omega);have M7:¬ w.heap.size+1=w4.heap.size:=(by omega);clear hX hY hQ;go_region
   all_goals
     go_wp2_with fail
     have fO:=(((((dQ.out.setCell (p:=⟨w.heap.size,0,none⟩) (by simp) (.slice none 0 0)).setCell (p:=⟨w.heap.size,1,none⟩) (by simp) (.int .i64 0)).setCell (p:=⟨w.heap.size,2,none⟩) (by simp) (.int .i64 0)).setCell (p:=⟨w.heap.size+1,0,none⟩) (by simp) (.int .i64 f1)).setCell (p:=⟨w.heap.size+1,1,none⟩) (by simp) (.int .i64 f2)).drew
     rw [HP.out]
     exact bodyPost_ret (v:=.tuple #[.agg #[.slice none 0 0,.int .i64 0,.int .i64 0],.agg #[.int .i64 f1,.int .i64 f2]]) (by simp [results,Tryz.results75,go_sem,x0,x1,x2,y0,y1]) rfl ⟨⟨none,0,0,rfl,⟨rfl,fun h=>absurd h (Nat.lt_irrefl 0)⟩⟩,sK g fO,fun h=>absurd h hz⟩
  have HP:=qqh (sJ.out.trans (if_pos hz));clear sJ;have hX:=ou.out;have hY:=vW.out;have x0:=hX.cell 0;have x1:=hX.cell 1;have x2:=hX.cell 2;have y0:=hY.cell 0;have y1:=hY.cell 1;have p0:=hX.frozen 0;have p1:=hX.frozen 1;have p2:=hX.frozen 2;have p3:=hY.frozen 0;have p4:=hY.frozen 1;have fO:=((((bL.out.setCell (p:=⟨w.heap.size,0,none⟩) (by simp) (.slice none 0 0)).setCell (p:=⟨w.heap.size,1,none⟩) (by simp) (.int .i64 0)).setCell (p:=⟨w.heap.size,2,none⟩) (by simp) (.int .i64 0)).setCell (p:=⟨w.heap.size+1,0,none⟩) (by simp) (.int .i64 tp)).setCell (p:=⟨w.heap.size+1,1,none⟩) (by simp) (.int .i64 0);have lO:=qqh fO;clear hX hY fO;go_wp2_with fail;rw [HP.out];exact bodyPost_ret (v:=.tuple #[.agg #[.slice none 0 0,.int .i64 0,.int .i64 0],.agg #[.int .i64 tp,.int .i64 0]]) (by simp [results,Tryz.results75,go_sem,x0,x1,x2,y0,y1]) rfl ⟨⟨none,0,0,rfl,⟨rfl,fun h=>absurd h (Nat.lt_irrefl 0)⟩⟩,sK g lO.out,fun h=>absurd h hz⟩
 have HP:=qqh (show cF l t=(dw,(r1,r2)) by unfold cF;rw [hR,if_pos hz]);clear hR;go_upto_region 3 with fail;have bG:=qqh (b7.out.alloc b7.out.size (.cells #[.int .i64 r1,.int .i64 r2] 32));have hX:=ai.alloc oH.out (.cells #[.int .i64 r1,.int .i64 r2] 32);have hY:=ai.alloc wH.out (.cells #[.int .i64 r1,.int .i64 r2] 32);have hQ:=ai.new w1 32 #[.int .i64 r1,.int .i64 r2];have hxy:=oH.out.lt;have hyy:=wH.out.lt;generalize (w1.alloc (.cells #[.int .i64 r1,.int .i64 r2] 32))=W3 at *;have x0:=hX.cell 0;have x1:=hX.cell 1;have x2:=hX.cell 2;have y0:=hY.cell 0;have y1:=hY.cell 1;have p0:=hX.frozen 0;have p1:=hX.frozen 1;have p2:=hX.frozen 2;have p3:=hY.frozen 0;have p4:=hY.frozen 1;have q0:=hQ.cell 0;have q1:=hQ.cell 1;have xW:¬ w.heap.size=w.heap.size+1:=(by omega);have yo:¬ w.heap.size=w1.heap.size:=(by omega);have M7:¬ w.heap.size+1=w1.heap.size:=(by omega);clear hX hY hQ;go_region
 all_goals
   go_wp2_with fail
   have fO:=(((((bG.out.setCell (p:=⟨w.heap.size,0,none⟩) (by simp) (.slice none 0 0)).setCell (p:=⟨w.heap.size,1,none⟩) (by simp) (.int .i64 0)).setCell (p:=⟨w.heap.size,2,none⟩) (by simp) (.int .i64 0)).setCell (p:=⟨w.heap.size+1,0,none⟩) (by simp) (.int .i64 r1)).setCell (p:=⟨w.heap.size+1,1,none⟩) (by simp) (.int .i64 r2)).drew
   rw [HP.out]
   exact bodyPost_ret (v:=.tuple #[.agg #[.slice none 0 0,.int .i64 0,.int .i64 0],.agg #[.int .i64 r1,.int .i64 r2]]) (by simp [results,Tryz.results75,go_sem,x0,x1,x2,y0,y1]) rfl ⟨⟨none,0,0,rfl,⟨rfl,fun h=>absurd h (Nat.lt_irrefl 0)⟩⟩,sK g fO,fun h=>absurd h hz⟩
structure ep where
  src:Int
  upto:Int
  Cd:Int
  fin:Int
  rule:Int
def bK (l:List ep):List Value:=l.flatMap fun k=>[.int .i64 k.src,.int .i64 k.upto,.int .i64 k.Cd,.int .i64 k.fin,.int .i64 k.rule]
theorem tD (l:List ep):(bK l).length=l.length*5:=by
 induction l with
 | nil=>rfl
 | cons x l ih=>simp only [bK,List.flatMap_cons]at ih ⊢;simp [ih];omega
theorem mT (a b:List ep):bK (a++b)=bK a++bK b:=by simp [bK]
def ju (l:List aj):Bool:=l.all fun r=>r.aa ==(r.target.length:Int)
def xu (l:List aj) (src:Nat) (at_ k:Int):ep :=
  match (if k<0 then none else l[k.toNat]?)with
  | none=>⟨src,(src:Int)+1,at_,at_+1,-1⟩
  | some r=>⟨src,(src:Int)+r.source.length,at_,at_+r.target.length,k⟩
def jG (l:List aj) (k:Int):Nat :=
  match (if k<0 then none else l[k.toNat]?)with
  | none=>1
  | some r=>r.source.length
def cI (l:List aj):Nat→List (Int × Int)→List ep
  | _,[]=>[]
  | src,(a,k)::tr=>xu l src a k::cI l (src+jG l k) tr
def iW (l:List aj):List (Int × Int)→Nat
  | []=>0
  | (_,k)::tr=>jG l k+iW l tr
theorem xp (l:List aj):∀ (a b:List (Int × Int)) (s:Nat),cI l s (a++b)=cI l s a++cI l (s+iW l a) b:=by
 intro a;induction a with
 | nil=>intro b s;simp [cI,iW]
 | cons x a ih=>
  intro b s;obtain⟨p,q⟩:=x;rw [List.cons_append,cI,cI,ih,List.cons_append,iW,Nat.add_assoc]
theorem Bo (l:List aj):∀ (a b:List (Int × Int)),iW l (a++b)=iW l a+iW l b:=by
 intro a;induction a with
 | nil=>intro b;simp [iW]
 | cons x a ih=>
  intro b;obtain⟨p,q⟩:=x;rw [List.cons_append,iW,iW,ih,Nat.add_assoc]
theorem yd (l:List aj):∀ (a:List (Int × Int)) (s:Nat),(cI l s a).length=a.length:=by
 intro a;induction a with
 | nil=>intro s;rfl
 | cons x a ih=>
  intro s;obtain⟨p,q⟩:=x;rw [cI,List.length_cons,List.length_cons,ih]
theorem FN {l:List aj} (hR:∀ r∈l,ef r) (k:Int):jG l k≤20:=by
 unfold jG;split;omega;rename_i r hr;split at hr
 ·cases hr
 have:=((hR r (List.mem_of_getElem? hr)).sets r.source (by simp [ee])).1;omega
theorem Ml {l:List aj} (hR:∀ r∈l,ef r):∀ (a:List (Int × Int)),iW l a≤20*a.length:=by
 intro a;induction a with
 | nil=>simp [iW]
 | cons x a ih=>
  obtain⟨p,q⟩:=x;have:=FN hR q;rw [iW,List.length_cons];omega
def tw (l:List aj) (tr:List (Int × Int)):Prop:=∀ x∈tr,0≤x.1∧x.1≤4000∧(x.2 = -1∨∃ (k:Nat) (r:aj),x.2=(k:Int)∧l[k]? = some r)
theorem F4 {l:List aj}:∀ (left:Nat) (done rest:List Int) (s p:Nat),done.length+rest.length≤4000→(bC l left done rest s p).2=0→tw l (cY l left done rest):=by
 intro left;induction left with
 | zero=>
  intro done rest s p _ _;cases rest with
  | nil=>rw [fQ];intro x hx;cases hx
  | cons z rest=>intro x hx;simp [cY]at hx
 | succ left ih=>
  intro done rest s p hlen h0;cases rest with
  | nil=>rw [fQ];intro x hx;cases hx
  | cons z rest=>
   rw [List.length_cons]at hlen;rcases fW l (done++z::rest) done.length with jt | ⟨k,r,jt,hk,nZ⟩
   ·rw [iQ jt]at h0;rw [jd jt];intro x hx;rcases List.mem_cons.1 hx with rfl | hx;exact⟨by simp,by simp;omega,.inl rfl⟩;exact ih _ _ _ _ (by rw [List.length_append,List.length_singleton];omega) h0 x hx
   by_cases x7:4000<done.length+(r.target++(z::rest).drop r.source.length).length
   ·rw [iL jt hk x7]at h0;cases h0
   rw [iO jt hk x7]at h0;rw [i4 jt hk];intro x hx;rcases List.mem_cons.1 hx with rfl | hx;exact⟨by simp,by simp;omega,.inr ⟨k,r,rfl,hk⟩⟩;refine ih _ _ _ _ ?_ h0 x hx;rw [List.length_append,List.length_take,List.length_drop];omega
theorem nS {o:zL × Int} (h:(jV o).2.1=0):o.2=0:=by
 unfold jV at h;by_cases h2:o.2=0;exact h2;rw [if_pos h2]at h;exact absurd h h2
theorem oN {l:List aj} {t:List Int} (h:(cF l t).2.1=0):(cT l).1=0∧cP t=0∧(dW l).2.1=0∧(bC l (8*t.length+40) [] t 0 0).2=0:=by
 unfold cF at h;by_cases h1:(cT l).1=0
 ·rw [if_neg (fun h=>h h1)]at h;by_cases h2:cP t=0
  ·rw [if_neg (fun h=>h h2)]at h;by_cases h3:(dW l).2.1=0
   ·rw [if_neg (fun h=>h h3)]at h;exact⟨h1,h2,h3,nS h⟩
   rw [if_pos h3]at h;exact absurd h h3
  rw [if_pos h2]at h;exact absurd h h2
 rw [if_pos h1]at h;exact absurd h h1
theorem mV {t:List Int} (h:cP t=0):t.length≤4000∧Runes t:=by
 unfold cP at h;by_cases h4:4000<t.length
 ·rw [if_pos h4]at h;cases h
 rw [if_neg h4]at h;refine⟨by omega,nc ?_⟩;cases hb:cz t;rfl;rw [hb]at h;cases h
theorem Eb {l:List aj} {t:List Int} (h:(cF l t).2.1=0):tw l (gv l t):=by
 obtain⟨_,h2,_,h4⟩:=oN h;exact F4 _ _ _ 0 0 (by have:=(mV h2).1;simpa using this) h4
def jg (l:List aj) (t:List Int):List ep × (Int × Int) :=
  if (cF l t).2.1≠0 then ([],(cF l t).2)else if ju l=false then ([],(8,0))else (cI l 0 (gv l t),(0,0))
theorem VD {w:World} {X:Nat→Prop} {b o n c k:Nat} {xs:List Value} (h:bW w X 1 (some ⟨b,o,none⟩) n xs) (hk:k≤n) (hc:n≤c):bW w X 1 (some ⟨b,if c=k then o else o+k,none⟩) (n - k) (xs.drop k):=by
 by_cases e:c=k
 ·rw [if_pos e];have h0:n - k=0:=(by omega);refine⟨?_,fun h1=>by omega⟩;rw [List.length_drop,h.1];omega
 rw [if_neg e];exact oW h hk
theorem Jk (r:aj) (l:List aj):ju (r::l)=((r.aa ==(r.target.length:Int)) && ju l):=rfl
def OO (w:World) (l:List aj) (n:Nat) (i:Value) (wr:World):Prop :=
  ∃ k:Nat,k≤n∧i=.int .i64 k∧ju l=ju (l.drop k)∧Below w.heap.size w wr
theorem Ly (r:aj) (A1 A2 A3 A4:Option Addr) (n1 c1 n2 c2 n3 c3 n4 c4:Nat) (w:World) (h4:r.target.length=n4) :
    Calls Tryz.prog 78 #[.agg #[.bool r.start,.bool r.fin,.slice A1 n1 c1,.slice A2 n2 c2,.slice A3 n3 c3,.slice A4 n4 c4,.int .i64 r.aa]] w fun e w'=>e=.returned (.bool (!(r.aa ==(r.target.length:Int))))∧Below w.heap.size w w':=by
 subst h4;go_enter Tryz.func78,Tryz.ntmps78;go_wp2_with fail;go_ret;exact⟨rfl,(Below.refl _ _).alloc (Nat.le_refl _) _⟩
theorem GD (X:Nat→Prop) (A:Option Addr) (n c:Nat) (l:List aj) (w:World) (hl:aZ (aO w X) w X 7 A n l) (hn:n≤maxLen) :
    Calls Tryz.prog 43 #[.slice A n c,.func (.func 78) #[] #[]] w fun e w'=>(∃ z:Int,e=.returned (.int .i64 z)∧(decide (0≤z) = !ju l))∧Below w.heap.size w w':=by
 have aV:=qqh (show l.length=n from hl.len);have HL:=qqh hl;clear hl;simp only [maxLen]at hn;go_enter Tryz.func43,Tryz.ntmps43;go_wp2_with fail;go_loopw [8] (OO w l n) (fun i _=>n - (intOf i).toNat);(case atStart=>exact⟨0,Nat.zero_le _,rfl,rfl,Below.refl _ _⟩);obtain⟨k,hk,rfl,aX,hb⟩:=hrel;by_cases hlt:k<n
 ·obtain⟨r,hr⟩:∃ z,l[k]? = some z:=⟨_,List.getElem?_eq_getElem (by rw [aV.out];exact hlt)⟩;obtain⟨b,off,A1,A2,A3,A4,n1,c1,n2,c2,n3,c3,n4,c4,rfl,_,dL,⟨d0,d1,d2,d3,d4,d5,d6⟩,s1,s2,s3,s4,uH⟩:=mu (HL.out.keep (af.any hb) (fun _ _=>aO.keep (af.any hb))) hr;have Ub:r.target.length=n4:=(by have:=s4.1;rw [runeCells_length]at this;omega);have HM:=qqh (Ly r A1 A2 A3 A4 n1 c1 n2 c2 n3 c3 n4 c4 wr Ub);rw [cB hr,Jk]at aX;have dY:=qqh aX;have HB:=qqh hb;clear aX hr hb s1 s2 s3 s4 uH Ub;go_wp2_with fail;refine HM.out.mono ?_;rintro e w9 ⟨rfl,bR⟩;have eK:=qqh (HB.out.trans (bR.mono HB.out.size));clear bR;cases hh:(r.aa ==(r.target.length:Int))
  ·have HG:=qqh (dY.out.trans (by rw [hh,Bool.false_and]));clear hh;go_wp2_with fail;go_ret;exact⟨⟨_,rfl,by rw [HG.out];simp⟩,eK.out⟩
  have HG:=qqh (dY.out.trans (by rw [hh,Bool.true_and]));clear hh;go_wp2_with fail;exact⟨⟨k+1,by omega,by go_num,HG.out,eK.out⟩,by simp [intOf];omega⟩
 obtain rfl:k=n:=(by omega);rw [List.drop_of_length_le (by rw [aV.out];omega)]at aX;have HG:=qqh (aX.trans (show ju [] = true from rfl));clear aX;go_wp2_with fail;go_ret;exact⟨⟨_,rfl,by rw [HG.out];simp⟩,hb⟩
theorem K7 (X:Nat→Prop) (A:Option Addr) (n c:Nat) (l:List aj) (w:World) (hl:aZ (aO w X) w X 7 A n l) (hn:n≤maxLen) :
    Calls Tryz.prog 77 #[.slice A n c,.func (.func 78) #[] #[]] w fun e w'=>e=.returned (.bool (!ju l))∧Below w.heap.size w w':=by
 have H:=qqh (GD X A n c l w hl hn);clear hl;go_enter Tryz.func77,Tryz.ntmps77;go_wp2_with fail;refine H.out.mono ?_;rintro e w2 ⟨⟨z,rfl,hz⟩,hb⟩;have HZ:=qqh hz;clear hz;go_wp2_with fail;go_ret;exact⟨bB HZ.out,hb⟩
theorem Cx (X:Nat→Prop) (A:Option Addr) (n c:Nat) (l:List aj) (w:World) (hl:aZ (aO w X) w X 7 A n l) (hn:n≤maxLen) :
    Calls Tryz.prog 48 #[.slice A n c] w fun e w'=>e=.returned (.bool (ju l))∧Below w.heap.size w w':=by
 have H:=qqh (K7 X A n c l w hl hn);clear hl;go_enter Tryz.func48,Tryz.ntmps48;go_wp2_with fail;refine H.out.mono ?_;rintro e w2 ⟨rfl,hb⟩;go_wp2_with fail;go_ret;exact⟨bB (by simp),hb⟩
def Loc (w:World) (l:List (Nat × TypeId × Array Value)):Prop:=∀ x∈l,ai w x.1 x.2.1 x.2.2
section
variable {w w' : World} {l : List (Nat × TypeId × Array Value)}
theorem Loc.nil (w:World):Loc w []:=fun _ h=>by cases h
theorem Loc.below (h:Loc w l) (hb:Below w.heap.size w w'):Loc w' l:=fun x hx=>ai.below (h x hx) hb (h x hx).lt
theorem Loc.new (h:Loc w l) (t:TypeId) (cs:Array Value):Loc (w.alloc (.cells cs t)) ((w.heap.size,t,cs)::l):=by
 intro x hx;rcases List.mem_cons.1 hx with rfl | hx;exact ai.new _ _ _;exact(h x hx).alloc _
theorem Loc.one (h:Loc w l) (i:Nat) {x:Nat × TypeId × Array Value} (hi:l[i]? = some x):ai w x.1 x.2.1 x.2.2:=h x (List.mem_of_getElem? hi)
end
def nP (l:List aj) (t:List Int):List (Int × Int) × (Int × Int):=if (cF l t).2.1≠0 then ([],(cF l t).2)else (gv l t,(0,0))
def SC (lo:Nat) (w':World) (o:List (Int × Int) × (Int × Int)) (e:Ending):Prop :=
  ∃ (A:Option Addr) (n c:Nat),e=.returned (.tuple #[.slice A n c,.agg #[.int .i64 o.2.1,.int .i64 o.2.2]])∧bW w' (fun b=>lo≤b) 2 A n (aS o.1)∧n≤100000
theorem Mw (X:Nat→Prop) (l:List aj) (Ar:Option Addr) (nr cr:Nat) (t:List Int) (At:Option Addr) (nt ct:Nat) (w:World) (wJ:nr≤maxLen) (hl:aZ (aO w X) w X 7 Ar nr l) (hnt:nt≤maxLen) (ht:mc w w.heap.size At nt t) :
    Calls Tryz.prog 47 #[.slice Ar nr cr,.slice At nt ct] w fun e w'=>SC w.heap.size w' (nP l t) e∧Below w.heap.size w w':=by
 have hb0:=((Below.refl w.heap.size w).alloc (Nat.le_refl _) (.cells #[.int .i64 0,.int .i64 0] 32)).alloc (by simp) (.cells #[.slice none 0 0] 114);have oV:=qqh (ai.alloc (ai.new w 32 #[.int .i64 0,.int .i64 0]) (.cells #[.slice none 0 0] 114));have yQ:=qqh (show ai ((w.alloc (.cells #[.int .i64 0,.int .i64 0] 32)).alloc (.cells #[.slice none 0 0] 114)) (w.heap.size+1) 114 #[.slice none 0 0] by
  have:=ai.new (w.alloc (.cells #[.int .i64 0,.int .i64 0] 32)) 114 #[.slice none 0 0];simpa using this)
 have dO:=qqh hb0;have N6:=qqh (hl.keep (X':=fun b=>b<w.heap.size) (fun b _ hlt=>⟨hb0.block b hlt,hlt,Nat.lt_of_lt_of_le hlt hb0.size⟩) (fun _ _=>aO.keep (X':=fun b=>b<w.heap.size) (fun b _ hlt=>⟨hb0.block b hlt,hlt,Nat.lt_of_lt_of_le hlt hb0.size⟩)));have T4:=qqh ((Rd.below ht hb0).more hb0.size);clear hb0 hl ht;go_enter Tryz.func47,Tryz.ntmps47;go_upto_region 2 with fail;generalize (w.alloc (.cells #[.int .i64 0,.int .i64 0] 32)).alloc (.cells #[.slice none 0 0] 114)=W0 at *;have HP:=qqh (Ld (w.heap.size+1) (fun b=>b<w.heap.size) l Ar nr cr t At nt ct W0 wJ N6.out (fun b hb=>by omega) yQ.out hnt T4.out);have hw0:=yQ.out.lt;have aaR:=dO.out.size;go_wp2_with fail;refine HP.out.mono ?_;rintro e w1 ⟨⟨A,n,c,rfl,_⟩,rJ,hok⟩;obtain⟨⟨xt,s,p⟩,f1,f2,hP⟩:∃ o f1 f2,cF l t=(o,(f1,f2)):=⟨_,_,_,rfl⟩;have QC:=qqh (show nP l t=if f1≠0 then ([],(f1,f2))else (gv l t,(0,0)) by unfold nP;rw [hP]);have GH:=qqh (show f1=0→_ from fun h=>hok (by rw [hP];exact h));rw [hP];dsimp only;have oH:=qqh (show ai w1 w.heap.size 32 #[.int .i64 0,.int .i64 0] from(rJ.block _ oV.out.lt (by simp)).trans oV.out);have b7:=qqh (show Below w.heap.size w w1 from dO.out.trans ⟨rJ.os,rJ.tape,rJ.output,rJ.size,fun k hk=>rJ.block k (by omega) (by simp;omega)⟩);have hs1:=rJ.size;clear hok hP rJ HP oV dO N6 T4;by_cases hz:f1=0
 ·subst hz;obtain⟨v,hg,ho,hn⟩:=GH.out rfl;have HG:=qqh (QC.out.trans (if_neg (fun h=>h rfl)));have hba:=(((Below.refl w1.heap.size w1).alloc (Nat.le_refl _) (.cells #[.slice A n c,.int .i64 s,.int .i64 p] 29)).alloc (by simp) (.cells #[.int .i64 0,.int .i64 f2] 32));have mZ:=qqh (ai.below hg hba hg.lt);have qS:=qqh (dy ho hba);have mh:=qqh (ai.below oH.out hba oH.out.lt);have bG:=qqh (b7.out.trans (hba.mono b7.out.size));have fm:=qqh (show ai ((w1.alloc (.cells #[.slice A n c,.int .i64 s,.int .i64 p] 29)).alloc (.cells #[.int .i64 0,.int .i64 f2] 32)) (w1.heap.size+1) 32 #[.int .i64 0,.int .i64 f2] by
   have:=ai.new (w1.alloc (.cells #[.slice A n c,.int .i64 s,.int .i64 p] 29)) 32 #[.int .i64 0,.int .i64 f2];simpa using this)
  clear hg hba QC GH;obtain⟨Av,cv,rfl,_⟩:=aI ho;clear ho;go_upto_region 3 with fail;generalize (w1.alloc (.cells #[.slice A n c,.int .i64 s,.int .i64 p] 29)).alloc (.cells #[.int .i64 0,.int .i64 f2] 32)=W2 at *;have q0:=fm.out.cell 0;have g0:W2.cell? ⟨w.heap.size+1,0,none⟩=some (.slice Av (gv l t).length cv):=mZ.out.cell 0;have x0:=mh.out.cell 0;have x1:=mh.out.cell 1;have p0:=mh.out.frozen 0;have p1:=mh.out.frozen 1;have fO:=(bG.out.setCell (p:=⟨w.heap.size,0,none⟩) (by simp) (.int .i64 0)).setCell (p:=⟨w.heap.size,1,none⟩) (by simp) (.int .i64 0);have hw9:=mZ.out.lt;have h5:=dR (dR qS.out (p:=⟨w.heap.size,0,none⟩) (by simp only;omega) (.int .i64 0)) (p:=⟨w.heap.size,1,none⟩) (by simp only;omega) (.int .i64 0)
  have HR:=qqh (show bW ((W2.setCell ⟨w.heap.size,0,none⟩ (.int .i64 0)).setCell ⟨w.heap.size,1,none⟩ (.int .i64 0)) (fun b=>w.heap.size≤b) 2 Av (gv l t).length (aS (gv l t)) from
    bW.cy h5 (fun b hb=>Nat.le_trans aaR (aQ h5 hb).1))
  have lO:=qqh fO;clear fO h5;go_wp2_with fail;rw [HG.out];exact bodyPost_ret (v:=.tuple #[.slice Av (gv l t).length cv,.agg #[.int .i64 0,.int .i64 0]]) (by simp [results,Tryz.results47,go_sem,x0,x1]) rfl ⟨⟨Av,_,cv,rfl,HR.out,hn⟩,lO.out⟩
 have HG:=qqh (QC.out.trans (if_pos hz));have hba:=(((Below.refl w1.heap.size w1).alloc (Nat.le_refl _) (.cells #[.slice A n c,.int .i64 s,.int .i64 p] 29)).alloc (by simp) (.cells #[.int .i64 f1,.int .i64 f2] 32));have mh:=qqh (ai.below oH.out hba oH.out.lt);have bG:=qqh (b7.out.trans (hba.mono b7.out.size));have fm:=qqh (show ai ((w1.alloc (.cells #[.slice A n c,.int .i64 s,.int .i64 p] 29)).alloc (.cells #[.int .i64 f1,.int .i64 f2] 32)) (w1.heap.size+1) 32 #[.int .i64 f1,.int .i64 f2] by
  have:=ai.new (w1.alloc (.cells #[.slice A n c,.int .i64 s,.int .i64 p] 29)) 32 #[.int .i64 f1,.int .i64 f2];simpa using this)
 clear hba QC GH;go_upto_region 3 with fail;generalize (w1.alloc (.cells #[.slice A n c,.int .i64 s,.int .i64 p] 29)).alloc (.cells #[.int .i64 f1,.int .i64 f2] 32)=W2 at *;have q0:=fm.out.cell 0;have q1:=fm.out.cell 1;have x0:=mh.out.cell 0;have x1:=mh.out.cell 1;have p0:=mh.out.frozen 0;have p1:=mh.out.frozen 1;have xW:¬ w.heap.size=w1.heap.size+1:=(by omega);have yo:¬ w1.heap.size+1=w.heap.size:=(by omega);have fO:=((bG.out.setCell (p:=⟨w.heap.size,0,none⟩) (by simp) (.int .i64 f1)).setCell (p:=⟨w.heap.size,1,none⟩) (by simp) (.int .i64 f2)).drew;have lO:=qqh fO;clear fO;go_wp2_with fail;go_region
 all_goals
   go_wp2_with fail
   rw [HG.out]
   exact bodyPost_ret (v:=.tuple #[.slice none 0 0,.agg #[.int .i64 f1,.int .i64 f2]]) (by simp [results,Tryz.results47,go_sem,x0,x1]) rfl ⟨⟨none,0,0,rfl,⟨rfl,fun h=>absurd h (Nat.lt_irrefl 0)⟩,Nat.zero_le _⟩,lO.out⟩
end Go.Proofs.YthgkedoildcbcaaGreatDoor
