/- ConcatR -/
import Derived.Test.YtkggjgeihhialaaGreatDoorZu6
import Derived.Test.YtkggjgeihhialaaGreatDoorZu11
import Derived.Lib.AppendZeros
import Derived.Lib.SliceRun
set_option maxHeartbeats 1600000
set_option maxRecDepth 100000
namespace Go.Proofs.YtkggjgeihhialaaGreatDoor
open Go.RowKit
def yU (w:World) (outs:List (List Int)) (us:List Value):Prop:=∀ (i:Nat) (l:List Int) (u:Value),outs[i]? = some l→us[i]? = some u→∃ A n c,u=.slice A n c∧Rd w w.heap.size 1 A n (runeCells l)
theorem yU.below {w w':World} {outs:List (List Int)} {us:List Value} (h:yU w outs us) (hb:Below w.heap.size w w'):yU w' outs us:=by
 intro i l u h1 h2;obtain⟨A,n,c,e,hr⟩:=h i l u h1 h2;exact⟨A,n,c,e,(Rd.below hr hb).more hb.size⟩
theorem Bx (A:Option Addr) (n c:Nat) (l:List Int) (w:World) (hn:n≤100000) (hl:lX w w.heap.size A n l) :
    Calls Tryz.prog 20 #[.slice A n c] w fun e w'=>(∃ v,e=.returned v∧w'.ownsRow w.heap.size 21 1 v n (runeCells l))∧Below w.heap.size w w':=by
 obtain⟨i0,hi,z0,z1,z2⟩:=info_parts Tryz.info21;have J8:=qqh (fun W=>Lib.run_eql_slice_nil (P:=Tryz.prog) W 33 21 A n c 0 0 Tryz.underlying33);have HL:=qqh hl;cases A with
 | none=>
  have h0:n=0:=by
   rcases Nat.eq_zero_or_pos n with h | h;exact h;obtain⟨b,o,e,_⟩:=hl.2 h;cases e
  subst h0;have CY:l = []:=List.eq_nil_of_length_eq_zero hl.len;subst CY;have heq:=fun W=>J8.out W;simp only [Option.isNone_none]at heq;clear hl;go_enter Tryz.func20,Tryz.ntmps20;go_wp2_with fail;go_ret;exact⟨⟨_,rfl,World.ownsRow_nil _ _ _ _⟩,Below.refl _ _⟩
 | some a=>
  have heq:=fun W=>J8.out W;simp only [Option.isNone_some]at heq;have PU:=qqh (om w 21 1 w.heap.size w.heap.size rfl (Nat.le_refl _));have hba:=(Below.refl w.heap.size w).alloc (Nat.le_refl _) (.cells #[] 21);have vu:=qqh hba;have ic:=qqh ((Rd.below hl hba).more hba.size);clear hba hl;go_enter Tryz.func20,Tryz.ntmps20;go_wp2_with (at_builtin;refine ak _ rfl (.tmp 5) (.tmp 6) 33 rfl w.heap.size 21 i0 _ 1 4 Tryz.underlying33 hi z0 z1 z2 rfl (by decide) _ _ _ rfl PU.out _ (some a) n c (runeCells l) rfl ic.out (bl _) (by simp only [maxLen];omega) (by omega) (by simp) ?_);intro v1 w3 au;have bG:=qqh (vu.out.trans (au.below (by simp) PU.out));have rz:=qqh au.own;clear au heq;go_wp2_with fail;go_ret;exact⟨⟨_,rfl,by simpa using rz.out⟩,bG.out⟩
theorem LF (n:Nat) (w:World) (hn:n≤100000) :
    Calls Tryz.prog 62 #[.slice none 0 0,.int .i64 n] w fun e w'=>(∃ v,e=.returned v∧w'.ownsRow w.heap.size 21 1 v 0 [])∧Below w.heap.size w w':=by
 obtain⟨i0,hi,z0,z1,z2⟩:=info_parts Tryz.info21;by_cases h0:n=0
 ·subst h0;go_enter Tryz.func62,Tryz.ntmps62;go_wp2_with fail;go_ret;exact⟨⟨_,rfl,World.ownsRow_nil _ _ _ _⟩,Below.refl _ _⟩
 have hrun:=Lib.run_append_nil_zeros (P:=Tryz.prog) w 33 3 33 21 i0 (.int .i32 0) .i64 .i64 Tryz.underlying33 Tryz.underlying3 hi z0 n (by omega) (by omega) (by omega) (by rw [z2];omega);generalize hcap:grownCap w n 0 21 = cap at hrun;have aaH:n≤cap:=(by rw [← hcap];exact grownCap_ge w _ 0 21);have QV:cap≤maxLen:=(by rw [← hcap];exact grownCap_le_maxLen w _ 0 21 (by simp only [maxLen];omega));generalize hZ:(Builtin.zeroCells (Value.int .i32 0).cells n++Builtin.zeroCells (Value.int .i32 0).cells (cap - n))=Z at hrun;have hZs:Z.size=cap:=(by rw [← hZ];simp [size_zeroCells,Value.cells];omega);have HR:=qqh hrun
 have HO:=qqh (show(w.drew.alloc (.cells Z 21)).ownsRow w.heap.size 21 1 (.slice (some ⟨w.heap.size,0,none⟩) 0 cap) 0 [] from
   ⟨rfl,.inr ⟨w.heap.size,cap,Z,rfl,Nat.le_refl _,heap_alloc_new w.drew _,Nat.zero_le _,QV,by omega,by simp⟩⟩)
 have HB:=qqh (show Below w.heap.size w (w.drew.alloc (.cells Z 21)) from((Below.refl w.heap.size w).drew).alloc (Nat.le_refl _) _);clear hcap hZ hZs hrun;go_enter Tryz.func62,Tryz.ntmps62;go_wp2_with (at_builtin;refine Lib.wpList_append_run _ rfl (.tmp 20) (.tmp 21) _ _ rfl (.slice none 0 0) (.int .i64 n) rfl rfl _ _ HR.out ?_);go_wp2_with fail;go_ret;exact⟨⟨_,rfl,HO.out⟩,HB.out⟩
theorem sL {outs:List (List Int)} {k:Nat} {x:List Int} (h:outs[k]? = some x):(outs.take (k+1)).flatten=(outs.take k).flatten++x:=by
 rw [List.take_add_one,h];simp
theorem uM (outs:List (List Int)) (k:Nat):(outs.take k).flatten.length≤outs.flatten.length:=by
 have h:=congrArg (fun z:List (List Int)=>z.flatten.length) (List.take_append_drop k outs);simp only [List.flatten_append,List.length_append]at h;omega
def UP (w:World) (outs:List (List Int)) (m:Nat) (s3 i:Value) (wr:World):Prop :=
  ∃ k:Nat,k≤m∧i=.int .i64 k∧s3=.int .i64 (outs.take k).flatten.length∧w=wr
def R5 (w:World) (outs:List (List Int)) (m:Nat) (s6 i:Value) (wr:World):Prop :=
  ∃ (k N:Nat),k≤m∧i=.int .i64 k∧(outs.take k).flatten.length=N∧wr.ownsRow w.heap.size 21 1 s6 N (runeCells (outs.take k).flatten)∧Below w.heap.size w wr
theorem mO (outs:List (List Int)) (us:List Value) (A:Option Addr) (m c:Nat) (w:World) (hlen:outs.length=m) (hrd:Rd w w.heap.size 1 A m us) (hpc:yU w outs us) (hsum:outs.flatten.length≤100000) (hm:m≤100000) :
    Calls Tryz.prog 32 #[.slice A m c] w fun e w'=>(∃ v,e=.returned v∧w'.ownsRow w.heap.size 21 1 v outs.flatten.length (runeCells outs.flatten))∧Below w.heap.size w w':=by
 obtain⟨i0,hi,z0,z1,z2⟩:=info_parts Tryz.info21;have aQ:=qqh hlen;have kT:=qqh hrd;have Gt:=qqh hpc;have NF:=qqh (show us.length=m by have:=hrd.1;omega);have AB:=qqh hsum;clear hlen hrd hpc hsum;go_enter Tryz.func32,Tryz.ntmps32;go_wp2_with fail;go_loopw [3,11] (UP w outs m) (fun _ i _=>m - (intOf i).toNat);(case atStart=>exact⟨0,Nat.zero_le _,rfl,rfl,rfl⟩);obtain⟨k,hk,rfl,rfl,rfl⟩:=hrel;obtain⟨S,hS⟩:∃ S,(outs.take k).flatten.length=S:=⟨_,rfl⟩;have hS1:S≤100000:=(by have:=uM outs k;have:=AB.out;omega);by_cases hlt:k<m
 ·obtain⟨x,hx⟩:∃ x,outs[k]? = some x:=⟨_,List.getElem?_eq_getElem (by rw [aQ.out];exact hlt)⟩;obtain⟨u,hu⟩:∃ u,us[k]? = some u:=⟨_,List.getElem?_eq_getElem (by rw [NF.out];exact hlt)⟩;obtain⟨P,n1,c1,rfl,hr⟩:=Gt.out k x u hx hu;obtain⟨b,o,rfl,_,hc⟩:=kT.out.2 (by omega);have u0:=hc _ _ hu;have ja:=hr.1;rw [runeCells_length]at ja;have N9:=qqh (show(outs.take (k+1)).flatten.length=S+n1 by rw [sL hx,List.length_append,hS];omega);have Km:S+n1≤100000:=(by have:=N9.out;have:=uM outs (k+1);have:=AB.out;omega);have hk0:(0:Int)≤(k:Int):=(by omega);have RS:decide ((S:Int)+(n1:Int)<0)=false:=decide_eq_false (by omega);rw [hS];clear hx hu hr hc ja hS;go_wp2_with fail;exact⟨⟨k+1,by omega,by go_num,by rw [N9.out];go_num,rfl⟩,by simp [intOf];omega⟩
 obtain rfl:k=m:=(by omega);rw [List.take_of_length_le (by rw [aQ.out];exact Nat.le_refl _)]at hS ⊢;have HS:=qqh hS;rw [hS];clear hS;go_wp2_with fail;refine(LF S _ hS1).mono ?_;rintro e w1 ⟨⟨v,rfl,ho⟩,aR⟩;have HO:=qqh ho;have HB:=qqh aR;obtain⟨A1,c1,rfl,_⟩:=aI ho;clear ho aR;go_wp2_with fail;go_loopw [6,27] (R5 w outs k) (fun _ i _=>k - (intOf i).toNat);(case atStart=>exact⟨0,0,Nat.zero_le _,rfl,rfl,HO.out,HB.out⟩);obtain⟨j,N,hj,rfl,hN,ho,hb⟩:=hrel;have HO:=qqh ho;have HB:=qqh hb;have HN:=qqh hN;have hz:=hb.size;have hN1:N≤100000:=(by have:=uM outs j;have:=AB.out;omega);obtain⟨A2,c2,rfl,_⟩:=aI ho;clear ho hN;by_cases hlt:j<k
 ·obtain⟨x,hx⟩:∃ x,outs[j]? = some x:=⟨_,List.getElem?_eq_getElem (by rw [aQ.out];exact hlt)⟩;obtain⟨u,hu⟩:∃ u,us[j]? = some u:=⟨_,List.getElem?_eq_getElem (by rw [NF.out];exact hlt)⟩;obtain⟨P,n1,TE,rfl,hr⟩:=(Gt.out.below hb) j x u hx hu;obtain⟨b,o,rfl,cH,hc⟩:=(Rd.below kT.out hb).2 (by omega);have u0:=hc _ _ hu;have ja:=hr.1;rw [runeCells_length]at ja;have N9:=qqh (sL hx);have nk:=qqh (show(outs.take (j+1)).flatten.length=N+n1 by rw [sL hx,List.length_append,HN.out];omega);have Km:N+n1≤100000:=(by have:=nk.out;have:=uM outs (j+1);have:=AB.out;omega);have HR:=qqh hr;clear hx hu hr hc ja hb;go_wp2_with (at_builtin;refine ak _ rfl (.tmp 31) (.tmp 32) 33 rfl w.heap.size 21 i0 _ 1 4 Tryz.underlying33 hi z0 z1 z2 rfl (by decide) _ N _ rfl HO.out _ P n1 TE (runeCells x) rfl HR.out (bl _) (by simp only [maxLen];omega) (by omega) hz ?_);intro v' w9 au;have eG:=qqh (HB.out.trans (au.below hz HO.out));have gL:=qqh (show w9.ownsRow w.heap.size 21 1 v' (N+n1) (runeCells (outs.take (j+1)).flatten) by rw [N9.out,ef];exact au.own);clear au;go_wp2_with fail;exact⟨⟨j+1,N+n1,by omega,by go_num,nk.out,gL.out,eG.out⟩,by simp [intOf];omega⟩
 obtain rfl:j=k:=(by omega);have HF:=qqh (show wr.ownsRow w.heap.size 21 1 (.slice A2 N c2) outs.flatten.length (runeCells outs.flatten) by
  have h1:=HO.out;have h2:=HN.out;rw [List.take_of_length_le (by rw [aQ.out];exact Nat.le_refl _)]at h1 h2;rw [h2];exact h1)
 clear hb;go_wp2_with fail;go_ret;exact⟨⟨_,rfl,HF.out⟩,HB.out⟩
theorem lX.at' {w:World} {B n:Nat} {A:Option Addr} {l:List Int} (h:lX w B A n l) {k:Nat} {x:Int} (hk:l[k]? = some x) :
    ∃ b off:Nat,A=some ⟨b,off,none⟩∧b<B∧w.cell? ⟨b,off+k,none⟩=some (.int .i32 x):=by
 have hl:k<l.length:=(List.getElem?_eq_some_iff.1 hk).1;have:=h.len;obtain⟨b,off,e,hb,hc⟩:=h.2 (by omega);exact⟨b,off,e,hb,hc k _ (by simp [runeCells,hk])⟩
theorem Dz (A C:Option Addr) (n m c d:Nat) (xs ys:List Int) (w:World) (hn:n≤9223372036854775807) (hx:lX w w.heap.size A n xs) (hy:lX w w.heap.size C m ys) :
    Calls Tryz.prog 61 #[.slice A n c,.slice C m d] w fun e w'=>e=.returned (.bool (xs == ys))∧∃ k,w'=w.drewN k:=by
 have LX:=qqh hx.len;have LY:=qqh hy.len;have HX:=qqh hx;have HY:=qqh hy;clear hx hy;by_cases hnm:n=m
 ·subst hnm;go_enter Tryz.func61,Tryz.ntmps61;go_wp2_with fail;go_loopw [13] (fun i wr=>∃ k q:Nat,k≤n∧i=.int .i64 k∧wr=w.drewN q∧xs.take k=ys.take k) (fun i _=>n - (intOf i).toNat);(case atStart=>exact⟨0,0,Nat.zero_le _,rfl,rfl,rfl⟩);obtain⟨k,q,hk,rfl,rfl,heq⟩:=hrel;have HE:=qqh heq;clear heq;by_cases hlt:k<n
  ·obtain⟨x,hx⟩:∃ z,xs[k]? = some z:=⟨_,List.getElem?_eq_getElem (by rw [LX.out];exact hlt)⟩;obtain⟨y,hy⟩:∃ z,ys[k]? = some z:=⟨_,List.getElem?_eq_getElem (by rw [LY.out];exact hlt)⟩;obtain⟨b1,o1,rfl,aR,hc1⟩:=lX.at' HX.out hx;obtain⟨b2,o2,rfl,aU,hc2⟩:=lX.at' HY.out hy;have sN:=qqh hx;have Ax:=qqh hy;clear hx hy;by_cases he:x=y
   ·subst he;go_wp2_with fail;go_quiet (fail);go_wp2_with fail;exact⟨⟨k+1,_,by omega,by go_num,rfl,xw sN.out Ax.out HE.out⟩,by simp [intOf];omega⟩
   have hd:(x != y)=true:=(by rw [bne_iff_ne];exact he);go_wp2_with fail;go_quiet (fail);go_wp2_with fail;go_ret;exact⟨aW (DS sN.out Ax.out he),_,World.drewN_drewN _ _ _⟩
  obtain rfl:k=n:=(by omega);go_wp2_with fail;go_ret;exact⟨aW (zb LX.out LY.out HE.out),_,rfl⟩
 have hne:((n:Int) !=(m:Int))=true:=(by rw [bne_iff_ne];omega);go_enter Tryz.func61,Tryz.ntmps61;go_wp2_with fail;go_ret;refine⟨aW ?_,0,rfl⟩;symm;rw [beq_eq_false_iff_ne];intro e;have h1:=LX.out;have h2:=LY.out;rw [e]at h1;omega
end Go.Proofs.YtkggjgeihhialaaGreatDoor
