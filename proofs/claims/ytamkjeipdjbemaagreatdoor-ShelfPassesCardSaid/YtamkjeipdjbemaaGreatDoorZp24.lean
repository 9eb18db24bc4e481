/- EdgesBoth + ClassMap + WholeBox -/
import Derived.Test.YtamkjeipdjbemaaGreatDoorZp10
import Derived.Test.YtamkjeipdjbemaaGreatDoorZp12
import Derived.Deep.DeepCutAuto
import Derived.Deep.CutBlock
import Derived.Test.YtamkjeipdjbemaaGreatDoorZp1
import Derived.Test.YtamkjeipdjbemaaGreatDoorZp23
import Derived.Test.YtamkjeipdjbemaaGreatDoorZp5
import Derived.Deep.WholeRow
set_option maxHeartbeats 6400000
set_option maxRecDepth 100000
namespace Go.Proofs.YtamkjeipdjbemaaGreatDoor
open Go.RowKit
def oh (lo g:Nat) (E:List Int) (w:World):Prop:=∃ (A:Option Addr) (n c:Nat),an w g 22 #[.slice A n c]∧cL w (fun b=>b≠g∧lo≤b) 1 A n (runeCells E)∧n≤c
def bQ (w:World) (g:Nat) (w':World):Prop:=w.heap.size≤w'.heap.size∧w'.os=w.os∧w'.tape=w.tape∧w'.output=w.output∧∀ k,k<w.heap.size→k≠g→w'.heap[k]? = w.heap[k]?
theorem bQ.refl (w:World) (g:Nat):bQ w g w:=⟨qql,rfl,rfl,rfl,fun _ _ _=>rfl⟩
theorem bQ.trans {w w1 w2:World} {g:Nat} (h:bQ w g w1) (h2:bQ w1 g w2):bQ w g w2 :=
  ⟨Nat.le_trans h.1 h2.1,h2.2.1.trans h.2.1,h2.2.2.1.trans h.2.2.1,h2.2.2.2.1.trans h.2.2.2.1,fun k hk hne=>(h2.2.2.2.2 k (Nat.lt_of_lt_of_le hk h.1) hne).trans (h.2.2.2.2 k hk hne)⟩
theorem bQ.below {w w1:World} (g:Nat) (h:Below w.heap.size w w1):bQ w g w1:=⟨h.size,h.os,h.tape,h.output,fun k hk _=>h.block k hk⟩
theorem bQ.set (w:World) (g i:Nat) (u:Value):bQ w g (w.setCell ⟨g,i,none⟩ u):=⟨by simp,rfl,rfl,rfl,fun k _ hne=>Below.heap_setCell _ _ _ _ hne⟩
theorem bQ.to {w w1:World} {g B:Nat} (h:bQ w g w1) (hB:B≤w.heap.size) (hg:B≤g):Below B w w1:=⟨h.2.1,h.2.2.1,h.2.2.2.1,h.1,fun k hk=>h.2.2.2.2 k (by omega) (by omega)⟩
theorem bQ.drewN (w:World) (C k:Nat):bQ w C (w.drewN k):=bQ.below C (below_drewN qqb k)
theorem bQ.keeps {w w1:World} {g:Nat} {X X':Nat→Prop} (h:bQ w g w1) (hX:∀ b,X b→b≠g) (h2:∀ b,X b→b<w.heap.size→X' b):aa w X w1 X' :=
  fun b hb hl=>⟨h.2.2.2.2 b hl (hX b hb),h2 b hb hl,Nat.lt_of_lt_of_le hl h.1⟩
theorem IN {w:World} {X:Nat→Prop} {b off n:Nat} {E:List Int} (h:cL w X 1 (some ⟨b,off,none⟩) n (runeCells E)) (hb:b<w.heap.size) {k:Nat} (hk:k≤n) :
    Rd w w.heap.size 1 (some ⟨b,off,none⟩) k (runeCells (E.take k))∧Rd w w.heap.size 1 (some ⟨b,off+k,none⟩) (n - k) (runeCells (E.drop k)):=by
 have hl:E.length=n:=(by have:=h.1;rw [runeCells_length]at this;omega);refine⟨⟨by rw [runeCells_length,List.length_take];omega,fun h0=>⟨b,off,rfl,hb,fun j u hu=>?_⟩⟩,⟨by rw [runeCells_length,List.length_drop];omega,fun h0=>⟨b,off+k,rfl,hb,fun j u hu=>?_⟩⟩⟩
 ·obtain⟨b',off',e,_,_,hc⟩:=h.2 (by omega);cases e;rw [cU,List.getElem?_take]at hu;by_cases hj:j<k
  ·rw [if_pos hj]at hu;exact hc j u (by rw [cU];exact hu)
  rw [if_neg hj]at hu;cases hu
 obtain⟨b',off',e,_,_,hc⟩:=h.2 (by omega);cases e;rw [cU,List.getElem?_drop]at hu;rw [Nat.add_assoc];exact hc (k+j) u (by rw [cU];exact hu)
theorem NQ {E:List Int} {r:Int} {k:Nat} (h1:∀ t x,t<k→E[t]? = some x→x<r) (h2:∀ x,E[k]? = some x→r≤x):E.takeWhile (fun x=>decide (x<r))=E.take k∧E.dropWhile (fun x=>decide (x<r))=E.drop k:=by
 induction E generalizing k with
 | nil=>simp
 | cons a E ih=>
  cases k with
  | zero=>
   have:=h2 a rfl;rw [List.takeWhile_cons,List.dropWhile_cons,if_neg (by simp;omega),if_neg (by simp;omega)];exact⟨rfl,rfl⟩
  | succ k=>
   have:=h1 0 a (by omega) rfl;rw [List.takeWhile_cons,List.dropWhile_cons,if_pos (by simpa using this),if_pos (by simpa using this)];obtain⟨g1,g2⟩:=ih (k:=k) (fun t x ht hx=>h1 (t+1) x (by omega) (by simpa using hx)) (fun x hx=>h2 x (by simpa using hx));rw [g1,g2];exact⟨rfl,rfl⟩
theorem BK (w:World) (B sz:Nat) (A:Option Addr):Rd w B sz A 0 []:=⟨by simp,fun h=>absurd h (Nat.lt_irrefl 0)⟩
theorem si {w w':World} {g base sz n:Nat} {t e:TypeId} {u v v':Value} {xs ys:List Value} {m:Nat} (h:an w g t #[u]) (_:w.ownsRow base e sz v m ys) (ha:bh base e sz v w n xs v' w') (hne:v.ownBlock≠some g):Rd w' w'.heap.size 1 (some ⟨g,0,none⟩) 1 [u]:=by
 have hb:=ha.2.1.block g h.lt (fun e=>hne e.symm);refine⟨rfl,fun _=>⟨g,0,rfl,Nat.lt_of_lt_of_le h.lt ha.2.1.size,fun j x hx=>?_⟩⟩;have h2:an w' g t #[u]:=hb.trans h;rw [h2.cell,Nat.zero_add];simpa using hx
def OT (w:World) (E:List Int) (r:Int) (n:Nat) (s:Value) (wr:World):Prop :=
  ∃ k:Nat,k≤n∧s=.int .i64 k∧w=wr∧∀ t x,t<k→E[t]? = some x→x<r
theorem ML (lo g b off n c:Nat) (E:List Int) (r:Int) (w:World) (hE:E.Pairwise (· < ·)) (_:lo≤w.heap.size) (hB:an w g 22 #[.slice (some ⟨b,off,none⟩) n c]) (hX:cL w (fun x=>x≠g∧lo≤x) 1 (some ⟨b,off,none⟩) n (runeCells E)) (cK:b<w.heap.size) (hbg:b≠g∧lo≤b) (hn:n≤1000000) (hnc:n≤c) :
    Calls Tryz.prog 111 (#[.int .i32 r] ++ #[.pointer (some ⟨g,0,none⟩)]) w fun e w'=>e=.returned (.tuple #[])∧oh lo g (jC E r) w'∧bQ w g w':=by
  obtain⟨i0,hi,hz0,i6,kO⟩:=info_parts Tryz.info21
  have hlen:E.length=n:=by have:=hX.1;rw [runeCells_length]at this;omega
  have c0:w.cell? ⟨g,0,none⟩=some (.slice (some ⟨b,off,none⟩) n c):=hB.cell 0
  have f0:=hB.frozen 0
  have HE:=qqh hE
  have HB:=qqh hB
  have HX:=qqh hX
  have aM:=qqh hlen
  have zn:=qqh (fun(k:Nat) (x:Int) (h:E[k]? = some x)=>show w.cell? ⟨b,off+k,none⟩=some (.int .i32 x) by
    have hk:=(List.getElem?_eq_some_iff.1 h).1
    obtain⟨b',off',e,_,_,hc⟩:=hX.2 (by omega)
    cases e
    exact hc k _ (by rw [cU,h];rfl))
  clear hE hB hX hlen
  go_enter Tryz.func111,Tryz.ntmps111
  go_wp2_with fail
  go_loopw [3] (OT w E r n) (fun i _=>n - (intOf i).toNat)
  case atStart=>exact⟨0,Nat.zero_le _,rfl,rfl,fun t x ht=>absurd ht (Nat.not_lt_zero _)⟩
  case round=>
    obtain⟨k,hk,rfl,rfl,nY⟩:=hrel
    have HL:=qqh nY
    clear nY
    by_cases aN:∃ x,E[k]? = some x∧x<r
    · obtain⟨x,hx,Mo⟩:=aN
      have hlt:k<n:=by rw [← aM.out];exact(List.getElem?_eq_some_iff.1 hx).1
      have hc:=zn.out k x hx
      have hd:decide (x<r)=true:=decide_eq_true Mo
      have HS:=qqh (fun t y (ht:t<k+1) (hy:E[t]? = some y)=>show y<r by
        rcases Nat.lt_or_ge t k with h | h
        · exact HL.out t y h hy
        · obtain rfl:t=k:=by omega
          rw [hx]at hy;cases hy;exact Mo)
      clear hx
      go_wp2_with fail
      exact⟨⟨k+1,by omega,by go_num,rfl,HS.out⟩,by simp [intOf];omega⟩
    · have pS:=qqh (NQ HL.out (fun y hy=>by
        rcases Int.lt_or_le y r with h | h
        · exact absurd ⟨y,hy,h⟩ aN
        · exact h))
      have zF:k=n∨∃ x,E[k]? = some x∧¬ x<r:=by
        rcases Nat.lt_or_ge k n with h | h
        · obtain⟨x,hx⟩:∃ z,E[k]? = some z:=⟨_,List.getElem?_eq_getElem (by rw [aM.out];exact h)⟩
          exact .inr ⟨x,hx,fun h2=>aN ⟨x,hx,h2⟩⟩
        · exact .inl (by omega)
      clear aN
      by_cases hbig:1114111<r
      · have HP:=qqh (show jC E r=E by unfold jC;rw [if_pos (.inl hbig)])
        rcases zF with rfl | ⟨x,hx,Mo⟩
        · go_wp2_with fail
          (try simp only [Exit.inBlock,Exit.then])
          refine bodyPost_ret (results_none rfl _ _ _) rfl ?_
          exact⟨rfl,by rw [HP.out];exact⟨_,_,_,HB.out,HX.out,hnc⟩,bQ.refl _ _⟩
        · have hlt:k<n:=by rw [← aM.out];exact(List.getElem?_eq_some_iff.1 hx).1
          have hc:=zn.out k x hx
          clear hx
          go_wp2_with fail
          (try simp only [Exit.inBlock,Exit.then])
          refine bodyPost_ret (results_none rfl _ _ _) rfl ?_
          exact⟨rfl,by rw [HP.out];exact⟨_,_,_,HB.out,HX.out,hnc⟩,bQ.refl _ _⟩
      · by_cases heq:E[k]? = some r
        · have HP:=qqh (show jC E r=E by unfold jC;rw [if_pos (.inr (List.mem_of_getElem? heq))])
          have hlt:k<n:=by rw [← aM.out];exact(List.getElem?_eq_some_iff.1 heq).1
          have hc:=zn.out k r heq
          clear heq zF
          go_wp2_with fail
          (try simp only [Exit.inBlock,Exit.then])
          refine bodyPost_ret (results_none rfl _ _ _) rfl ?_
          exact⟨rfl,by rw [HP.out];exact⟨_,_,_,HB.out,HX.out,hnc⟩,bQ.refl _ _⟩
        · have HP:=qqh (show jC E r=E.take k++r::E.drop k by
            unfold jC
            rw [if_neg,pS.out.1,pS.out.2]
            rw [not_or]
            refine⟨hbig,fun hm=>?_⟩
            obtain⟨i,hi⟩:=List.mem_iff_getElem?.1 hm
            rcases Nat.lt_trichotomy i k with h | rfl | h
            · have:=HL.out i r h hi;omega
            · exact heq hi
            · rcases zF with rfl | ⟨x,hx,Mo⟩
              · have:=(List.getElem?_eq_some_iff.1 hi).1
                rw [aM.out]at this
                omega
              · have:=jD HE.out hx hi h
                omega)
          have HR:=qqh (IN HX.out cK hk)
          have gX:=qqh (fun(W:World) (hw:Below w.heap.size w W)=>Rd.below HR.out.1 hw)
          have iz:=qqh (fun(W:World) (hw:Below w.heap.size w W)=>Rd.below HR.out.2 hw)
          have HC:=qqh (fun(W:World) (hw:Below w.heap.size w W)=>(an.below HB.out hw HB.out.lt).cell 0)
          have mS:=qqh (show ∀ u ∈ [Value.int .i32 r],u.oneCell'=true by intro x hx;simp at hx;subst hx;rfl)
          have UA:=qqh (show an ((w.alloc (.cells #[] 21)).alloc (.cells #[.int .i32 r] 21)) (w.heap.size+1) 21 #[.int .i32 r] by
            have:=an.new (w.alloc (.cells #[] 21)) 21 #[.int .i32 r]
            simpa using this)
          have Vz:=qqh (an.alloc (an.new w 21 #[.int .i32 r]) (.cells #[] 21))
          have nQ:=qqh (fun(v:Value) (W:World) (ho:W.ownsRow w.heap.size 21 1 v (k+1+(n - k)) (runeCells (E.take k)++[.int .i32 r]++runeCells (E.drop k))) (hw:Below w.heap.size w W)=>show oh lo g (jC E r) (W.setCell ⟨g,0,none⟩ v) by
            obtain⟨A,cc,rfl,EO⟩:=av ho
            refine⟨A,_,cc,an.put (an.below HB.out hw HB.out.lt) 0 _,?_,EO⟩
            rw [HP.out,show runeCells (E.take k++r::E.drop k)=runeCells (E.take k)++[.int .i32 r]++runeCells (E.drop k) by simp [runeCells]]
            have hlt:=HB.out.lt
            refine(cL.b8 (X:=fun x=>x≠g∧lo≤x) ho (fun x hx=>?_)).keep ((bQ.set W g 0 _).keeps (fun _ h=>h.1) (fun _ h _=>h))
            have:=(bt ho hx).1
            exact⟨by omega,by omega⟩)
          -- REGION
          rcases zF with rfl | ⟨x,hx,Mo⟩
          · have Ze:=qqh (show runeCells (E.drop k) = [] by rw [List.drop_of_length_le (by rw [aM.out];exact qql)];rfl)
            rw [Nat.sub_self]at nQ
            clear heq
            go_upto_region 4 with fail
            refine aC (S:=fun w'=>w'.cell? ⟨g,0,none⟩=some (.slice (some ⟨b,off,none⟩) k c)) [1,8] (by kernel_rfl) c0 (fun aQ=>?_)
            refine ee (i:=2) (v:=?_) rfl (by kernel_rfl) (by kernel_rfl) (by kernel_rfl) (fun _ _ _ h=>h) (Or.inl ⟨by rfl,?_⟩) ?_
            rotate_left 1
            · intro w _
              go_simp
              try with_reducible rfl
            try simp only [Act.put]
            refine ee (i:=5) (v:=?_) rfl (by kernel_rfl) (by kernel_rfl) (by kernel_rfl) (fun _ _ _ h=>h) (Or.inl ⟨by rfl,?_⟩) ?_
            rotate_left 1
            · intro w _
              go_simp
              try with_reducible rfl
            try simp only [Act.put]
            refine ee (i:=9) (v:=?_) rfl (by kernel_rfl) (by kernel_rfl) (by kernel_rfl) (fun _ _ _ h=>h) (Or.inl ⟨by rfl,?_⟩) ?_
            rotate_left 1
            · intro w _
              go_simp
              try with_reducible rfl
            try simp only [Act.put]
            refine jR (i:=1) (v:=?_) rfl (by kernel_rfl) (by kernel_rfl) (by kernel_rfl) (by kernel_rfl) (by kernel_rfl) (fun _ _ _ h=>h) (Or.inl ⟨by rfl,?_⟩) (by assumption) ?_
            rotate_left 1
            · intro w nO
              (try dsimp only at nO)
              go_simp
              try with_reducible rfl
            try simp only [Act.put]
            refine ee (i:=3) (v:=?_) rfl (by kernel_rfl) (by kernel_rfl) (by kernel_rfl) (fun _ _ _ h=>h) (Or.inl ⟨by rfl,?_⟩) ?_
            rotate_left 1
            · intro w _
              go_simp
              try with_reducible rfl
            try simp only [Act.put]
            refine jR (i:=8) (v:=?_) rfl (by kernel_rfl) (by kernel_rfl) (by kernel_rfl) (by kernel_rfl) (by kernel_rfl) (fun _ _ _ h=>h) (Or.inl ⟨by rfl,?_⟩) (by assumption) ?_
            rotate_left 1
            · intro w nO
              (try dsimp only at nO)
              go_simp
              try with_reducible rfl
            try simp only [Act.put]
            refine ee (i:=10) (v:=?_) rfl (by kernel_rfl) (by kernel_rfl) (by kernel_rfl) (fun _ _ _ h=>h) (Or.inl ⟨by rfl,?_⟩) ?_
            rotate_left 1
            · intro w _
              go_simp
              try with_reducible rfl
            try simp only [Act.put]
            refine dL (i:=0) (j:=6) (by kernel_rfl) rfl rfl (fun K hK=>?_) (fun K hK=>?_)
            · go_simp
              refine hK.out _ _ ?_ (fun aQ=>?_)
              · exact HC.out _ (ak ((Below.refl w.heap.size w).alloc (Below.refl w.heap.size w).size (.cells #[] 21)))
              clear hK K
              refine dL (i:=4) (j:=6) (by kernel_rfl) rfl rfl (fun K hK=>?_) (fun K hK=>?_)
              · refine aH _ rfl (.tmp 34) (.tmp 37) 22 rfl w.heap.size 21 i0 _ 1 4 Tryz.underlying22 hi hz0 i6 kO rfl (by decide) _ _ _ rfl (bH w 21 1 w.heap.size w.heap.size rfl qql) _ (some ⟨b,off,none⟩) k c (runeCells (E.take k)) rfl (gX.out _ (ak ((Below.refl w.heap.size w).alloc qql (.cells #[] 21)))) (aE _) (by simp only [maxLen];omega) (by omega) (ak ((Below.refl w.heap.size w).alloc qql (.cells #[] 21))).size ?_
                intro v9 w9 af
                try dsimp only
                refine hK.out _ _ ?_ (fun aQ=>?_)
                · exact HC.out _ ((ak ((Below.refl w.heap.size w).alloc qql (.cells #[] 21))).trans (af.below (ak ((Below.refl w.heap.size w).alloc qql (.cells #[] 21))).size (bH w 21 1 w.heap.size w.heap.size rfl qql)))
                clear hK K
                have jm:=qqh (show w9.ownsRow w.heap.size 21 1 v9 k (runeCells (E.take k)) by have:=af.own;rwa [Nat.zero_add,List.nil_append]at this)
                have bW:=qqh ((ak ((Below.refl w.heap.size w).alloc qql (.cells #[] 21))).trans (af.below (ak ((Below.refl w.heap.size w).alloc qql (.cells #[] 21))).size (bH w 21 1 w.heap.size w.heap.size rfl qql)))
                clear af
                obtain⟨XS,Xe,rfl,_⟩:=av jm.out
                refine ax (i:=6) (by kernel_rfl) rfl (fun K hK=>?_)
                go_simp
                refine hK.out _ _ ?_ (fun aQ=>?_)
                · exact HC.out _ (bW.out.alloc bW.out.size (.cells #[.int .i32 r] 21))
                clear hK K
                refine ax (i:=7) (by kernel_rfl) rfl (fun K hK=>?_)
                refine aH _ rfl (.tmp 38) (.tmp 40) 22 rfl w.heap.size 21 i0 _ 1 4 Tryz.underlying22 hi hz0 i6 kO rfl (by decide) _ _ _ rfl (World.ownsRow.alloc jm.out (.cells #[.int .i32 r] 21)) _ (some ⟨w9.heap.size,0,none⟩) 1 1 [.int .i32 r] rfl (Rd.new w9 21 1 1 [.int .i32 r] rfl) mS.out (by simp only [maxLen];omega) (by omega) (bW.out.alloc bW.out.size (.cells #[.int .i32 r] 21)).size ?_
                intro v9 w9 af
                try dsimp only
                refine hK.out _ _ ?_ (fun aQ=>?_)
                · exact HC.out _ ((bW.out.alloc bW.out.size (.cells #[.int .i32 r] 21)).trans (af.below (bW.out.alloc bW.out.size (.cells #[.int .i32 r] 21)).size (World.ownsRow.alloc jm.out (.cells #[.int .i32 r] 21))))
                clear hK K
                have jb:=qqh af.own
                have iF:=qqh ((bW.out.alloc bW.out.size (.cells #[.int .i32 r] 21)).trans (af.below (bW.out.alloc bW.out.size (.cells #[.int .i32 r] 21)).size (World.ownsRow.alloc jm.out (.cells #[.int .i32 r] 21))))
                clear af
                obtain⟨QF,QI,rfl,_⟩:=av jb.out
                refine aA (i:=11) (by kernel_rfl) rfl (by kernel_rfl) (fun K hK=>?_)
                refine aH _ rfl (.tmp 41) (.tmp 44) 22 rfl w.heap.size 21 i0 _ 1 4 Tryz.underlying22 hi hz0 i6 kO rfl (by decide) _ _ _ rfl jb.out w9.heap.size _ 0 (c - k) [] rfl (BK _ _ _ _) (by simp) (by simp only [maxLen];omega) (by omega) iF.out.size ?_
                intro v9 w9 af
                obtain⟨QA,Rh,rfl,_⟩:=av af.own
                have fH:=qqh af.own
                have cB:=qqh (iF.out.trans (af.below iF.out.size jb.out))
                clear af
                try dsimp only
                refine hK.out _ _ ?_
                clear hK K
                have ig:=qqh (an.below HB.out cB.out HB.out.lt)
                have cf:=ig.out.cell 0
                have ff:=ig.out.frozen 0
                refine aA (i:=12) (by kernel_rfl) rfl (by kernel_rfl) (fun K hK=>?_)
                go_simp
                refine hK.out _ _ ?_
                clear hK K
                refine aL (by kernel_rfl) ?_ _
                go_simp
                go_wp2_with fail
                all_goals
                  go_end0
                  exact⟨rfl,nQ.out _ _ (by have:=fH.out;rw [Ze.out];exact this) cB.out,(bQ.below g cB.out).trans (bQ.set _ _ _ _)⟩
              · go_simp
                refine hK.out _ _ ?_ (fun aQ=>?_)
                · exact HC.out _ (ak (((Below.refl w.heap.size w).alloc qql (.cells #[] 21)).alloc ((Below.refl w.heap.size w).alloc qql (.cells #[] 21)).size (.cells #[.int .i32 r] 21)))
                clear hK K
                refine ax (i:=4) (by kernel_rfl) rfl (fun K hK=>?_)
                refine aH _ rfl (.tmp 34) (.tmp 37) 22 rfl w.heap.size 21 i0 _ 1 4 Tryz.underlying22 hi hz0 i6 kO rfl (by decide) _ _ _ rfl (World.ownsRow.alloc (bH w 21 1 w.heap.size w.heap.size rfl qql) (.cells #[.int .i32 r] 21)) _ (some ⟨b,off,none⟩) k c (runeCells (E.take k)) rfl (gX.out _ (ak (((Below.refl w.heap.size w).alloc qql (.cells #[] 21)).alloc (by simp) (.cells #[.int .i32 r] 21)))) (aE _) (by simp only [maxLen];omega) (by omega) (ak (((Below.refl w.heap.size w).alloc qql (.cells #[] 21)).alloc (by simp) (.cells #[.int .i32 r] 21))).size ?_
                intro v9 w9 af
                try dsimp only
                refine hK.out _ _ ?_ (fun aQ=>?_)
                · exact HC.out _ ((ak (((Below.refl w.heap.size w).alloc qql (.cells #[] 21)).alloc (by simp) (.cells #[.int .i32 r] 21))).trans (af.below (ak (((Below.refl w.heap.size w).alloc qql (.cells #[] 21)).alloc (by simp) (.cells #[.int .i32 r] 21))).size (World.ownsRow.alloc (bH w 21 1 w.heap.size w.heap.size rfl qql) (.cells #[.int .i32 r] 21))))
                clear hK K
                have iT:=qqh (si (w:=((w.alloc (.cells #[] 21)).alloc (.cells #[.int .i32 r] 21)).drew) UA.out (World.ownsRow.alloc (bH w 21 1 w.heap.size w.heap.size rfl qql) (.cells #[.int .i32 r] 21)) af (by simp [Value.ownBlock]))
                have jm:=qqh (show w9.ownsRow w.heap.size 21 1 v9 k (runeCells (E.take k)) by have:=af.own;rwa [Nat.zero_add,List.nil_append]at this)
                have bW:=qqh ((ak (((Below.refl w.heap.size w).alloc qql (.cells #[] 21)).alloc (by simp) (.cells #[.int .i32 r] 21))).trans (af.below (ak (((Below.refl w.heap.size w).alloc qql (.cells #[] 21)).alloc (by simp) (.cells #[.int .i32 r] 21))).size (World.ownsRow.alloc (bH w 21 1 w.heap.size w.heap.size rfl qql) (.cells #[.int .i32 r] 21))))
                clear af
                obtain⟨XS,Xe,rfl,_⟩:=av jm.out
                refine ax (i:=7) (by kernel_rfl) rfl (fun K hK=>?_)
                refine aH _ rfl (.tmp 38) (.tmp 40) 22 rfl w.heap.size 21 i0 _ 1 4 Tryz.underlying22 hi hz0 i6 kO rfl (by decide) _ _ _ rfl jm.out _ (some ⟨w.heap.size+1,0,none⟩) 1 1 [.int .i32 r] rfl iT.out mS.out (by simp only [maxLen];omega) (by omega) bW.out.size ?_
                intro v9 w9 af
                try dsimp only
                refine hK.out _ _ ?_ (fun aQ=>?_)
                · exact HC.out _ (bW.out.trans (af.below bW.out.size jm.out))
                clear hK K
                have jb:=qqh af.own
                have iF:=qqh (bW.out.trans (af.below bW.out.size jm.out))
                clear af
                obtain⟨QF,QI,rfl,_⟩:=av jb.out
                refine aA (i:=11) (by kernel_rfl) rfl (by kernel_rfl) (fun K hK=>?_)
                refine aH _ rfl (.tmp 41) (.tmp 44) 22 rfl w.heap.size 21 i0 _ 1 4 Tryz.underlying22 hi hz0 i6 kO rfl (by decide) _ _ _ rfl jb.out w9.heap.size _ 0 (c - k) [] rfl (BK _ _ _ _) (by simp) (by simp only [maxLen];omega) (by omega) iF.out.size ?_
                intro v9 w9 af
                obtain⟨QA,Rh,rfl,_⟩:=av af.own
                have fH:=qqh af.own
                have cB:=qqh (iF.out.trans (af.below iF.out.size jb.out))
                clear af
                try dsimp only
                refine hK.out _ _ ?_
                clear hK K
                have ig:=qqh (an.below HB.out cB.out HB.out.lt)
                have cf:=ig.out.cell 0
                have ff:=ig.out.frozen 0
                refine aA (i:=12) (by kernel_rfl) rfl (by kernel_rfl) (fun K hK=>?_)
                go_simp
                refine hK.out _ _ ?_
                clear hK K
                refine aL (by kernel_rfl) ?_ _
                go_simp
                go_wp2_with fail
                all_goals
                  go_end0
                  exact⟨rfl,nQ.out _ _ (by have:=fH.out;rw [Ze.out];exact this) cB.out,(bQ.below g cB.out).trans (bQ.set _ _ _ _)⟩
            · go_simp
              refine hK.out _ _ ?_ (fun aQ=>?_)
              · exact HC.out _ (ak ((Below.refl w.heap.size w).alloc (Below.refl w.heap.size w).size (.cells #[.int .i32 r] 21)))
              clear hK K
              refine ax (i:=0) (by kernel_rfl) rfl (fun K hK=>?_)
              go_simp
              refine hK.out _ _ ?_ (fun aQ=>?_)
              · exact HC.out _ (ak (((Below.refl w.heap.size w).alloc qql (.cells #[.int .i32 r] 21)).alloc ((Below.refl w.heap.size w).alloc qql (.cells #[.int .i32 r] 21)).size (.cells #[] 21)))
              clear hK K
              refine ax (i:=4) (by kernel_rfl) rfl (fun K hK=>?_)
              refine aH _ rfl (.tmp 34) (.tmp 37) 22 rfl w.heap.size 21 i0 _ 1 4 Tryz.underlying22 hi hz0 i6 kO rfl (by decide) _ _ _ rfl (bH (w.alloc (.cells #[.int .i32 r] 21)) 21 1 (w.heap.size+1) w.heap.size (by simp) (by omega)) _ (some ⟨b,off,none⟩) k c (runeCells (E.take k)) rfl (gX.out _ (ak (((Below.refl w.heap.size w).alloc qql (.cells #[.int .i32 r] 21)).alloc (by simp) (.cells #[] 21)))) (aE _) (by simp only [maxLen];omega) (by omega) (ak (((Below.refl w.heap.size w).alloc qql (.cells #[.int .i32 r] 21)).alloc (by simp) (.cells #[] 21))).size ?_
              intro v9 w9 af
              try dsimp only
              refine hK.out _ _ ?_ (fun aQ=>?_)
              · exact HC.out _ ((ak (((Below.refl w.heap.size w).alloc qql (.cells #[.int .i32 r] 21)).alloc (by simp) (.cells #[] 21))).trans (af.below (ak (((Below.refl w.heap.size w).alloc qql (.cells #[.int .i32 r] 21)).alloc (by simp) (.cells #[] 21))).size (bH (w.alloc (.cells #[.int .i32 r] 21)) 21 1 (w.heap.size+1) w.heap.size (by simp) (by omega))))
              clear hK K
              have iT:=qqh (si (w:=((w.alloc (.cells #[.int .i32 r] 21)).alloc (.cells #[] 21)).drew) Vz.out (bH (w.alloc (.cells #[.int .i32 r] 21)) 21 1 (w.heap.size+1) w.heap.size (by simp) (by omega)) af (by simp [Value.ownBlock]))
              have jm:=qqh (show w9.ownsRow w.heap.size 21 1 v9 k (runeCells (E.take k)) by have:=af.own;rwa [Nat.zero_add,List.nil_append]at this)
              have bW:=qqh ((ak (((Below.refl w.heap.size w).alloc qql (.cells #[.int .i32 r] 21)).alloc (by simp) (.cells #[] 21))).trans (af.below (ak (((Below.refl w.heap.size w).alloc qql (.cells #[.int .i32 r] 21)).alloc (by simp) (.cells #[] 21))).size (bH (w.alloc (.cells #[.int .i32 r] 21)) 21 1 (w.heap.size+1) w.heap.size (by simp) (by omega))))
              clear af
              obtain⟨XS,Xe,rfl,_⟩:=av jm.out
              refine ax (i:=7) (by kernel_rfl) rfl (fun K hK=>?_)
              refine aH _ rfl (.tmp 38) (.tmp 40) 22 rfl w.heap.size 21 i0 _ 1 4 Tryz.underlying22 hi hz0 i6 kO rfl (by decide) _ _ _ rfl jm.out _ (some ⟨w.heap.size,0,none⟩) 1 1 [.int .i32 r] rfl iT.out mS.out (by simp only [maxLen];omega) (by omega) bW.out.size ?_
              intro v9 w9 af
              try dsimp only
              refine hK.out _ _ ?_ (fun aQ=>?_)
              · exact HC.out _ (bW.out.trans (af.below bW.out.size jm.out))
              clear hK K
              have jb:=qqh af.own
              have iF:=qqh (bW.out.trans (af.below bW.out.size jm.out))
              clear af
              obtain⟨QF,QI,rfl,_⟩:=av jb.out
              refine aA (i:=11) (by kernel_rfl) rfl (by kernel_rfl) (fun K hK=>?_)
              refine aH _ rfl (.tmp 41) (.tmp 44) 22 rfl w.heap.size 21 i0 _ 1 4 Tryz.underlying22 hi hz0 i6 kO rfl (by decide) _ _ _ rfl jb.out w9.heap.size _ 0 (c - k) [] rfl (BK _ _ _ _) (by simp) (by simp only [maxLen];omega) (by omega) iF.out.size ?_
              intro v9 w9 af
              obtain⟨QA,Rh,rfl,_⟩:=av af.own
              have fH:=qqh af.own
              have cB:=qqh (iF.out.trans (af.below iF.out.size jb.out))
              clear af
              try dsimp only
              refine hK.out _ _ ?_
              clear hK K
              have ig:=qqh (an.below HB.out cB.out HB.out.lt)
              have cf:=ig.out.cell 0
              have ff:=ig.out.frozen 0
              refine aA (i:=12) (by kernel_rfl) rfl (by kernel_rfl) (fun K hK=>?_)
              go_simp
              refine hK.out _ _ ?_
              clear hK K
              refine aL (by kernel_rfl) ?_ _
              go_simp
              go_wp2_with fail
              all_goals
                go_end0
                exact⟨rfl,nQ.out _ _ (by have:=fH.out;rw [Ze.out];exact this) cB.out,(bQ.below g cB.out).trans (bQ.set _ _ _ _)⟩
          · have hlt:k<n:=by rw [← aM.out];exact(List.getElem?_eq_some_iff.1 hx).1
            have hc:=zn.out k x hx
            have hne:(x == r)=false:=by
              rw [beq_eq_false_iff_ne]
              rintro rfl
              exact heq hx
            have Zc:c≠k:=by omega
            have hkc:k≤c:=by omega
            clear hx heq
            go_upto_region 4 with fail
            refine aC (S:=fun w'=>w'.cell? ⟨g,0,none⟩=some (.slice (some ⟨b,off,none⟩) n c)) [1,8] (by kernel_rfl) c0 (fun aQ=>?_)
            refine ee (i:=2) (v:=?_) rfl (by kernel_rfl) (by kernel_rfl) (by kernel_rfl) (fun _ _ _ h=>h) (Or.inl ⟨by rfl,?_⟩) ?_
            rotate_left 1
            · intro w _
              go_simp
              try with_reducible rfl
            try simp only [Act.put]
            refine ee (i:=5) (v:=?_) rfl (by kernel_rfl) (by kernel_rfl) (by kernel_rfl) (fun _ _ _ h=>h) (Or.inl ⟨by rfl,?_⟩) ?_
            rotate_left 1
            · intro w _
              go_simp
              try with_reducible rfl
            try simp only [Act.put]
            refine ee (i:=9) (v:=?_) rfl (by kernel_rfl) (by kernel_rfl) (by kernel_rfl) (fun _ _ _ h=>h) (Or.inl ⟨by rfl,?_⟩) ?_
            rotate_left 1
            · intro w _
              go_simp
              try with_reducible rfl
            try simp only [Act.put]
            refine jR (i:=1) (v:=?_) rfl (by kernel_rfl) (by kernel_rfl) (by kernel_rfl) (by kernel_rfl) (by kernel_rfl) (fun _ _ _ h=>h) (Or.inl ⟨by rfl,?_⟩) (by assumption) ?_
            rotate_left 1
            · intro w nO
              (try dsimp only at nO)
              go_simp
              try with_reducible rfl
            try simp only [Act.put]
            refine ee (i:=3) (v:=?_) rfl (by kernel_rfl) (by kernel_rfl) (by kernel_rfl) (fun _ _ _ h=>h) (Or.inl ⟨by rfl,?_⟩) ?_
            rotate_left 1
            · intro w _
              go_simp
              try with_reducible rfl
            try simp only [Act.put]
            refine jR (i:=8) (v:=?_) rfl (by kernel_rfl) (by kernel_rfl) (by kernel_rfl) (by kernel_rfl) (by kernel_rfl) (fun _ _ _ h=>h) (Or.inl ⟨by rfl,?_⟩) (by assumption) ?_
            rotate_left 1
            · intro w nO
              (try dsimp only at nO)
              go_simp
              try with_reducible rfl
            try simp only [Act.put]
            refine ee (i:=10) (v:=?_) rfl (by kernel_rfl) (by kernel_rfl) (by kernel_rfl) (fun _ _ _ h=>h) (Or.inl ⟨by rfl,?_⟩) ?_
            rotate_left 1
            · intro w _
              go_simp
              try with_reducible rfl
            try simp only [Act.put]
            refine dL (i:=0) (j:=6) (by kernel_rfl) rfl rfl (fun K hK=>?_) (fun K hK=>?_)
            · go_simp
              refine hK.out _ _ ?_ (fun aQ=>?_)
              · exact HC.out _ (ak ((Below.refl w.heap.size w).alloc (Below.refl w.heap.size w).size (.cells #[] 21)))
              clear hK K
              refine dL (i:=4) (j:=6) (by kernel_rfl) rfl rfl (fun K hK=>?_) (fun K hK=>?_)
              · refine aH _ rfl (.tmp 34) (.tmp 37) 22 rfl w.heap.size 21 i0 _ 1 4 Tryz.underlying22 hi hz0 i6 kO rfl (by decide) _ _ _ rfl (bH w 21 1 w.heap.size w.heap.size rfl qql) _ (some ⟨b,off,none⟩) k c (runeCells (E.take k)) rfl (gX.out _ (ak ((Below.refl w.heap.size w).alloc qql (.cells #[] 21)))) (aE _) (by simp only [maxLen];omega) (by omega) (ak ((Below.refl w.heap.size w).alloc qql (.cells #[] 21))).size ?_
                intro v9 w9 af
                try dsimp only
                refine hK.out _ _ ?_ (fun aQ=>?_)
                · exact HC.out _ ((ak ((Below.refl w.heap.size w).alloc qql (.cells #[] 21))).trans (af.below (ak ((Below.refl w.heap.size w).alloc qql (.cells #[] 21))).size (bH w 21 1 w.heap.size w.heap.size rfl qql)))
                clear hK K
                have jm:=qqh (show w9.ownsRow w.heap.size 21 1 v9 k (runeCells (E.take k)) by have:=af.own;rwa [Nat.zero_add,List.nil_append]at this)
                have bW:=qqh ((ak ((Below.refl w.heap.size w).alloc qql (.cells #[] 21))).trans (af.below (ak ((Below.refl w.heap.size w).alloc qql (.cells #[] 21))).size (bH w 21 1 w.heap.size w.heap.size rfl qql)))
                clear af
                obtain⟨XS,Xe,rfl,_⟩:=av jm.out
                refine ax (i:=6) (by kernel_rfl) rfl (fun K hK=>?_)
                go_simp
                refine hK.out _ _ ?_ (fun aQ=>?_)
                · exact HC.out _ (bW.out.alloc bW.out.size (.cells #[.int .i32 r] 21))
                clear hK K
                refine ax (i:=7) (by kernel_rfl) rfl (fun K hK=>?_)
                refine aH _ rfl (.tmp 38) (.tmp 40) 22 rfl w.heap.size 21 i0 _ 1 4 Tryz.underlying22 hi hz0 i6 kO rfl (by decide) _ _ _ rfl (World.ownsRow.alloc jm.out (.cells #[.int .i32 r] 21)) _ (some ⟨w9.heap.size,0,none⟩) 1 1 [.int .i32 r] rfl (Rd.new w9 21 1 1 [.int .i32 r] rfl) mS.out (by simp only [maxLen];omega) (by omega) (bW.out.alloc bW.out.size (.cells #[.int .i32 r] 21)).size ?_
                intro v9 w9 af
                try dsimp only
                refine hK.out _ _ ?_ (fun aQ=>?_)
                · exact HC.out _ ((bW.out.alloc bW.out.size (.cells #[.int .i32 r] 21)).trans (af.below (bW.out.alloc bW.out.size (.cells #[.int .i32 r] 21)).size (World.ownsRow.alloc jm.out (.cells #[.int .i32 r] 21))))
                clear hK K
                have jb:=qqh af.own
                have iF:=qqh ((bW.out.alloc bW.out.size (.cells #[.int .i32 r] 21)).trans (af.below (bW.out.alloc bW.out.size (.cells #[.int .i32 r] 21)).size (World.ownsRow.alloc jm.out (.cells #[.int .i32 r] 21))))
                clear af
                obtain⟨QF,QI,rfl,_⟩:=av jb.out
                refine aA (i:=11) (by kernel_rfl) rfl (by kernel_rfl) (fun K hK=>?_)
                refine aH _ rfl (.tmp 41) (.tmp 44) 22 rfl w.heap.size 21 i0 _ 1 4 Tryz.underlying22 hi hz0 i6 kO rfl (by decide) _ _ _ rfl jb.out _ (some ⟨b,off+k,none⟩) (n - k) (c - k) (runeCells (E.drop k)) rfl (iz.out _ iF.out) (aE _) (by simp only [maxLen];omega) (by omega) iF.out.size ?_
                intro v9 w9 af
                obtain⟨QA,Rh,rfl,_⟩:=av af.own
                have fH:=qqh af.own
                have cB:=qqh (iF.out.trans (af.below iF.out.size jb.out))
                clear af
                try dsimp only
                refine hK.out _ _ ?_
                clear hK K
                have ig:=qqh (an.below HB.out cB.out HB.out.lt)
                have cf:=ig.out.cell 0
                have ff:=ig.out.frozen 0
                refine aA (i:=12) (by kernel_rfl) rfl (by kernel_rfl) (fun K hK=>?_)
                go_simp
                refine hK.out _ _ ?_
                clear hK K
                refine aL (by kernel_rfl) ?_ _
                go_simp
                go_wp2_with fail
                all_goals
                  go_end0
                  exact⟨rfl,nQ.out _ _ fH.out cB.out,(bQ.below g cB.out).trans (bQ.set _ _ _ _)⟩
              · go_simp
                refine hK.out _ _ ?_ (fun aQ=>?_)
                · exact HC.out _ (ak (((Below.refl w.heap.size w).alloc qql (.cells #[] 21)).alloc ((Below.refl w.heap.size w).alloc qql (.cells #[] 21)).size (.cells #[.int .i32 r] 21)))
                clear hK K
                refine ax (i:=4) (by kernel_rfl) rfl (fun K hK=>?_)
                refine aH _ rfl (.tmp 34) (.tmp 37) 22 rfl w.heap.size 21 i0 _ 1 4 Tryz.underlying22 hi hz0 i6 kO rfl (by decide) _ _ _ rfl (World.ownsRow.alloc (bH w 21 1 w.heap.size w.heap.size rfl qql) (.cells #[.int .i32 r] 21)) _ (some ⟨b,off,none⟩) k c (runeCells (E.take k)) rfl (gX.out _ (ak (((Below.refl w.heap.size w).alloc qql (.cells #[] 21)).alloc (by simp) (.cells #[.int .i32 r] 21)))) (aE _) (by simp only [maxLen];omega) (by omega) (ak (((Below.refl w.heap.size w).alloc qql (.cells #[] 21)).alloc (by simp) (.cells #[.int .i32 r] 21))).size ?_
                intro v9 w9 af
                try dsimp only
                refine hK.out _ _ ?_ (fun aQ=>?_)
                · exact HC.out _ ((ak (((Below.refl w.heap.size w).alloc qql (.cells #[] 21)).alloc (by simp) (.cells #[.int .i32 r] 21))).trans (af.below (ak (((Below.refl w.heap.size w).alloc qql (.cells #[] 21)).alloc (by simp) (.cells #[.int .i32 r] 21))).size (World.ownsRow.alloc (bH w 21 1 w.heap.size w.heap.size rfl qql) (.cells #[.int .i32 r] 21))))
                clear hK K
                have iT:=qqh (si (w:=((w.alloc (.cells #[] 21)).alloc (.cells #[.int .i32 r] 21)).drew) UA.out (World.ownsRow.alloc (bH w 21 1 w.heap.size w.heap.size rfl qql) (.cells #[.int .i32 r] 21)) af (by simp [Value.ownBlock]))
                have jm:=qqh (show w9.ownsRow w.heap.size 21 1 v9 k (runeCells (E.take k)) by have:=af.own;rwa [Nat.zero_add,List.nil_append]at this)
                have bW:=qqh ((ak (((Below.refl w.heap.size w).alloc qql (.cells #[] 21)).alloc (by simp) (.cells #[.int .i32 r] 21))).trans (af.below (ak (((Below.refl w.heap.size w).alloc qql (.cells #[] 21)).alloc (by simp) (.cells #[.int .i32 r] 21))).size (World.ownsRow.alloc (bH w 21 1 w.heap.size w.heap.size rfl qql) (.cells #[.int .i32 r] 21))))
                clear af
                obtain⟨XS,Xe,rfl,_⟩:=av jm.out
                refine ax (i:=7) (by kernel_rfl) rfl (fun K hK=>?_)
                refine aH _ rfl (.tmp 38) (.tmp 40) 22 rfl w.heap.size 21 i0 _ 1 4 Tryz.underlying22 hi hz0 i6 kO rfl (by decide) _ _ _ rfl jm.out _ (some ⟨w.heap.size+1,0,none⟩) 1 1 [.int .i32 r] rfl iT.out mS.out (by simp only [maxLen];omega) (by omega) bW.out.size ?_
                intro v9 w9 af
                try dsimp only
                refine hK.out _ _ ?_ (fun aQ=>?_)
                · exact HC.out _ (bW.out.trans (af.below bW.out.size jm.out))
                clear hK K
                have jb:=qqh af.own
                have iF:=qqh (bW.out.trans (af.below bW.out.size jm.out))
                clear af
                obtain⟨QF,QI,rfl,_⟩:=av jb.out
                refine aA (i:=11) (by kernel_rfl) rfl (by kernel_rfl) (fun K hK=>?_)
                refine aH _ rfl (.tmp 41) (.tmp 44) 22 rfl w.heap.size 21 i0 _ 1 4 Tryz.underlying22 hi hz0 i6 kO rfl (by decide) _ _ _ rfl jb.out _ (some ⟨b,off+k,none⟩) (n - k) (c - k) (runeCells (E.drop k)) rfl (iz.out _ iF.out) (aE _) (by simp only [maxLen];omega) (by omega) iF.out.size ?_
                intro v9 w9 af
                obtain⟨QA,Rh,rfl,_⟩:=av af.own
                have fH:=qqh af.own
                have cB:=qqh (iF.out.trans (af.below iF.out.size jb.out))
                clear af
                try dsimp only
                refine hK.out _ _ ?_
                clear hK K
                have ig:=qqh (an.below HB.out cB.out HB.out.lt)
                have cf:=ig.out.cell 0
                have ff:=ig.out.frozen 0
                refine aA (i:=12) (by kernel_rfl) rfl (by kernel_rfl) (fun K hK=>?_)
                go_simp
                refine hK.out _ _ ?_
                clear hK K
                refine aL (by kernel_rfl) ?_ _
                go_simp
                go_wp2_with fail
                all_goals
                  go_end0
                  exact⟨rfl,nQ.out _ _ fH.out cB.out,(bQ.below g cB.out).trans (bQ.set _ _ _ _)⟩
            · go_simp
              refine hK.out _ _ ?_ (fun aQ=>?_)
              · exact HC.out _ (ak ((Below.refl w.heap.size w).alloc (Below.refl w.heap.size w).size (.cells #[.int .i32 r] 21)))
              clear hK K
              refine ax (i:=0) (by kernel_rfl) rfl (fun K hK=>?_)
              go_simp
              refine hK.out _ _ ?_ (fun aQ=>?_)
              · exact HC.out _ (ak (((Below.refl w.heap.size w).alloc qql (.cells #[.int .i32 r] 21)).alloc ((Below.refl w.heap.size w).alloc qql (.cells #[.int .i32 r] 21)).size (.cells #[] 21)))
              clear hK K
              refine ax (i:=4) (by kernel_rfl) rfl (fun K hK=>?_)
              refine aH _ rfl (.tmp 34) (.tmp 37) 22 rfl w.heap.size 21 i0 _ 1 4 Tryz.underlying22 hi hz0 i6 kO rfl (by decide) _ _ _ rfl (bH (w.alloc (.cells #[.int .i32 r] 21)) 21 1 (w.heap.size+1) w.heap.size (by simp) (by omega)) _ (some ⟨b,off,none⟩) k c (runeCells (E.take k)) rfl (gX.out _ (ak (((Below.refl w.heap.size w).alloc qql (.cells #[.int .i32 r] 21)).alloc (by simp) (.cells #[] 21)))) (aE _) (by simp only [maxLen];omega) (by omega) (ak (((Below.refl w.heap.size w).alloc qql (.cells #[.int .i32 r] 21)).alloc (by simp) (.cells #[] 21))).size ?_
              intro v9 w9 af
              try dsimp only
              refine hK.out _ _ ?_ (fun aQ=>?_)
              · exact HC.out _ ((ak (((Below.refl w.heap.size w).alloc qql (.cells #[.int .i32 r] 21)).alloc (by simp) (.cells #[] 21))).trans (af.below (ak (((Below.refl w.heap.size w).alloc qql (.cells #[.int .i32 r] 21)).alloc (by simp) (.cells #[] 21))).size (bH (w.alloc (.cells #[.int .i32 r] 21)) 21 1 (w.heap.size+1) w.heap.size (by simp) (by omega))))
              clear hK K
              have iT:=qqh (si (w:=((w.alloc (.cells #[.int .i32 r] 21)).alloc (.cells #[] 21)).drew) Vz.out (bH (w.alloc (.cells #[.int .i32 r] 21)) 21 1 (w.heap.size+1) w.heap.size (by simp) (by omega)) af (by simp [Value.ownBlock]))
              have jm:=qqh (show w9.ownsRow w.heap.size 21 1 v9 k (runeCells (E.take k)) by have:=af.own;rwa [Nat.zero_add,List.nil_append]at this)
              have bW:=qqh ((ak (((Below.refl w.heap.size w).alloc qql (.cells #[.int .i32 r] 21)).alloc (by simp) (.cells #[] 21))).trans (af.below (ak (((Below.refl w.heap.size w).alloc qql (.cells #[.int .i32 r] 21)).alloc (by simp) (.cells #[] 21))).size (bH (w.alloc (.cells #[.int .i32 r] 21)) 21 1 (w.heap.size+1) w.heap.size (by simp) (by omega))))
              clear af
              obtain⟨XS,Xe,rfl,_⟩:=av jm.out
              refine ax (i:=7) (by kernel_rfl) rfl (fun K hK=>?_)
              refine aH _ rfl (.tmp 38) (.tmp 40) 22 rfl w.heap.size 21 i0 _ 1 4 Tryz.underlying22 hi hz0 i6 kO rfl (by decide) _ _ _ rfl jm.out _ (some ⟨w.heap.size,0,none⟩) 1 1 [.int .i32 r] rfl iT.out mS.out (by simp only [maxLen];omega) (by omega) bW.out.size ?_
              intro v9 w9 af
              try dsimp only
              refine hK.out _ _ ?_ (fun aQ=>?_)
              · exact HC.out _ (bW.out.trans (af.below bW.out.size jm.out))
              clear hK K
              have jb:=qqh af.own
              have iF:=qqh (bW.out.trans (af.below bW.out.size jm.out))
              clear af
              obtain⟨QF,QI,rfl,_⟩:=av jb.out
              refine aA (i:=11) (by kernel_rfl) rfl (by kernel_rfl) (fun K hK=>?_)
              refine aH _ rfl (.tmp 41) (.tmp 44) 22 rfl w.heap.size 21 i0 _ 1 4 Tryz.underlying22 hi hz0 i6 kO rfl (by decide) _ _ _ rfl jb.out _ (some ⟨b,off+k,none⟩) (n - k) (c - k) (runeCells (E.drop k)) rfl (iz.out _ iF.out) (aE _) (by simp only [maxLen];omega) (by omega) iF.out.size ?_
              intro v9 w9 af
              obtain⟨QA,Rh,rfl,_⟩:=av af.own
              have fH:=qqh af.own
              have cB:=qqh (iF.out.trans (af.below iF.out.size jb.out))
              clear af
              try dsimp only
              refine hK.out _ _ ?_
              clear hK K
              have ig:=qqh (an.below HB.out cB.out HB.out.lt)
              have cf:=ig.out.cell 0
              have ff:=ig.out.frozen 0
              refine aA (i:=12) (by kernel_rfl) rfl (by kernel_rfl) (fun K hK=>?_)
              go_simp
              refine hK.out _ _ ?_
              clear hK K
              refine aL (by kernel_rfl) ?_ _
              go_simp
              go_wp2_with fail
              all_goals
                go_end0
                exact⟨rfl,nQ.out _ _ fH.out cB.out,(bQ.below g cB.out).trans (bQ.set _ _ _ _)⟩
theorem RH {lo g:Nat} {E:List Int} (r:Int) {w:World} (h:oh lo g E w) (hE:E.Pairwise (· < ·)) (h0:E ≠ []) (hl:E.length≤1000000) (hlo:lo≤w.heap.size) :
    Calls Tryz.prog 111 (#[.int .i32 r] ++ #[.pointer (some ⟨g,0,none⟩)]) w fun e w'=>e=.returned (.tuple #[])∧oh lo g (jC E r) w'∧bQ w g w':=by
 obtain⟨A,n,c,h1,h2,h3⟩:=h;have hlen:E.length=n:=(by have:=h2.1;rw [runeCells_length]at this;omega);have hpos:0<n:=(by rw [← hlen];exact List.length_pos_iff.2 h0);obtain⟨b,off,rfl,hb,eP,_⟩:=h2.2 hpos;exact ML lo g b off n c E r w hE hlo h1 h2 eP hb (by omega) h3
theorem oh.below {lo g:Nat} {E:List Int} {w w':World} (h:oh lo g E w) (hb:Below w.heap.size w w'):oh lo g E w':=by
 obtain⟨A,n,c,h1,h2,h3⟩:=h;exact⟨A,n,c,an.below h1 hb h1.lt,h2.keep (aa.any hb),h3⟩
theorem O7 {E:List Int} (r:Int) (h:E ≠ []):jC E r ≠ []:=by
 have:=(wG E r).1;have h2:=List.length_pos_iff.2 h;exact List.length_pos_iff.1 (by omega)
structure pU (w:World) (L:List ag) (b:Nat) (xs:List Int) (wr:World):Prop where
  ex:∃ E:List Int,oh w.heap.size (w.heap.size+1) E wr∧E.Pairwise (· < ·)∧E ≠ []∧E.length≤b∧ez L=xs.foldl jC E
  below:Below w.heap.size w wr
theorem pU.next {w wr:World} {L:List ag} {b:Nat} {x:Int} {xs:List Int} (h:pU w L b (x::xs) wr) (hb:b≤1000000) :
    Calls Tryz.prog 111 (#[.int .i32 x] ++ #[.pointer (some ⟨w.heap.size+1,0,none⟩)]) wr fun e w'=>e=.returned (.tuple #[])∧pU w L (b+1) xs w'∧bQ wr (w.heap.size+1) w':=by
 obtain⟨⟨E,h1,h2,h3,h4,h5⟩,h6⟩:=h;refine(RH x h1 h2 h3 (by omega) h6.size).mono ?_;rintro e w' ⟨rfl,h7,h8⟩;refine⟨rfl,⟨⟨jC E x,h7,zB h2 x,O7 x h3,by have:=(wG E x).2;omega,h5⟩,?_⟩,h8⟩;exact h6.trans (h8.to h6.size (by omega))
theorem pU.alloc {w wr:World} {L:List ag} {b:Nat} {xs:List Int} (h:pU w L b xs wr) (o:Obj):pU w L b xs (wr.alloc o):=by
 obtain⟨⟨E,h1,h2,h3,h4,h5⟩,h6⟩:=h;exact⟨⟨E,h1.below (qqb.alloc qql o),h2,h3,h4,h5⟩,h6.alloc h6.size o⟩
theorem pU.lt {w wr:World} {L:List ag} {b:Nat} {xs:List Int} (h:pU w L b xs wr):w.heap.size+1<wr.heap.size:=by
 obtain⟨⟨E,⟨A,n,c,h1,_⟩,_⟩,_⟩:=h;exact h1.lt
theorem pU.cell {w wr:World} {L:List ag} {b:Nat} (h:pU w L b [] wr):∃ A n c,an wr (w.heap.size+1) 22 #[.slice A n c]∧cL wr (fun b=>w.heap.size≤b) 1 A n (runeCells (ez L)):=by
 obtain⟨⟨E,⟨A,n,c,h1,h2,_⟩,_,_,_,h5⟩,_⟩:=h;rw [h5];exact⟨A,n,c,h1,h2.keep (aa.refl (fun _ h=>h.2))⟩
def U4 (w:World) (L:List ag) (n:Nat) (i:Value) (wr:World):Prop :=
  ∃ j:Nat,j≤n∧i=.int .i64 j∧pU w L (1+400*j) ((L.drop j).flatMap cT) wr
def Xu (w:World) (L:List ag) (s:ag) (j n:Nat) (i:Value) (wr:World):Prop :=
  ∃ k:Nat,k≤n∧i=.int .i64 k∧pU w L (1+400*j+2*k) (cT (s.drop k)++(L.drop (j+1)).flatMap cT) wr
theorem KC (X:Nat→Prop) (L:List ag) (A:Option Addr) (n c:Nat) (w:World) (hn:n≤200) (hS:∀ s∈L,aJ s) (hL:bS (iH w X) w X 1 A n L) :
    Calls Tryz.prog 86 #[.slice A n c] w fun e w'=>(∃ A' n' c',e=.returned (.slice A' n' c')∧cL w' (fun b=>w.heap.size≤b) 1 A' n' (runeCells (ez L)))∧Below w.heap.size w w':=by
 have aM:=qqh (show L.length=n from hL.len);have HL:=qqh hL;have HS:=qqh hS;have H0:=qqh (show pU w L (1+400*0) ((L.drop 0).flatMap cT) ((w.alloc (.cells #[.int .i32 0] 21)).alloc (.cells #[.slice (some ⟨w.heap.size,0,none⟩) 1 1] 22)) by
  refine⟨⟨[0],⟨some ⟨w.heap.size,0,none⟩,1,1,?_,?_,qql⟩,by simp,by simp,by simp,rfl⟩,(qqb.alloc qql _).alloc (by simp) _⟩
  ·have:=an.new (w.alloc (.cells #[.int .i32 0] 21)) 22 #[.slice (some ⟨w.heap.size,0,none⟩) 1 1];simpa using this
  have h1:=cL.new (w:=w) (X:=fun b=>b≠w.heap.size+1∧w.heap.size≤b) (sz:=1) (n:=1) 21 [.int .i32 0] rfl ⟨by omega,qql⟩;exact h1.keep (aa.any (qqb.alloc qql _)))
 clear hL hS;go_enter Tryz.func86,Tryz.ntmps86;go_wp2_with fail;go_loopw [13] (U4 w L n) (fun i _=>n - (intOf i).toNat);(case atStart=>exact⟨0,Nat.zero_le _,rfl,H0.out⟩);obtain⟨j,hj,rfl,hst⟩:=hrel;have cQ:=qqh hst;by_cases hlt:j<n
 ·obtain⟨s,hs⟩:∃ z,L[j]? = some z:=⟨_,List.getElem?_eq_getElem (by rw [aM.out];exact hlt)⟩;obtain⟨b,off,A',n',c',rfl,_,cK,Lb,hrd,_,hnn⟩:=pH HL.out hs;have pT:=(hst.below.cell (p:=⟨b,off+j,none⟩) cK).trans Lb;have HR:=qqh (HS.out s (List.mem_of_getElem? hs));have jo:=qqh (show s.length=n' from hrd.len);have hn':n'≤200:=(by rw [← jo.out];exact HR.out.size);have nP:=qqh hrd;have HI:=qqh (show pU w L (1+400*j+2*0) (cT (s.drop 0)++(L.drop (j+1)).flatMap cT) wr by
   have:=cQ.out;rw [bR hs,List.flatMap_cons]at this;exact this)
  clear hs hrd hst cQ Lb;go_wp2_with fail;go_loopw [19] (Xu w L s j n') (fun i _=>n' - (intOf i).toNat);(case atStart=>exact⟨0,Nat.zero_le _,rfl,HI.out⟩);obtain⟨k,hk,rfl,hst⟩:=hrel;by_cases hk2:k<n'
  ·obtain⟨⟨x,y⟩,hx⟩:∃ z,s[k]? = some z:=⟨_,List.getElem?_eq_getElem (by rw [jo.out];exact hk2)⟩;obtain⟨b2,off2,rfl,aX,c0,c1⟩:=nP.out.at hx;have d0:=(hst.below.cell (p:=⟨b2,off2+k*2,none⟩) aX).trans c0;have d1:=(hst.below.cell (p:=⟨b2,off2+k*2+1,none⟩) aX).trans c1;have hxy:=HR.out.each (x,y) (List.mem_of_getElem? hx);simp only at hxy;rw [bR hx,show cT ((x,y)::s.drop (k+1))=x::(y+1)::cT (s.drop (k+1)) from rfl]at hst;have Ow:=hst.lt;have cQ:=qqh (hst.alloc (.cells #[.int .i32 x,.int .i32 y] 95));have lD:=qqh (an.new wr 95 #[.int .i32 x,.int .i32 y]);clear hx c0 c1 hst;go_wp2_with fail;refine(cQ.out.next (by omega)).mono ?_;rintro e w1 ⟨rfl,oF,lI⟩;have aP:an w1 wr.heap.size 95 #[.int .i32 x,.int .i32 y]:=(lI.2.2.2.2 _ lD.out.lt (by omega)).trans lD.out;have e1:w1.cell? ⟨wr.heap.size,1,none⟩=some (.int .i32 y):=aP.cell 1;have DQ:=qqh oF;clear oF lI aP;go_wp2_with fail;refine(DQ.out.next (by omega)).mono ?_;rintro e w2 ⟨rfl,Ji,_⟩;have ab5:=qqh (show pU w L (1+400*j+2*(k+1)) (cT (s.drop (k+1))++(L.drop (j+1)).flatMap cT) w2 from Ji);clear Ji;go_wp2_with fail;exact⟨⟨k+1,by omega,by go_num,ab5.out⟩,by simp [intOf];omega⟩
  obtain rfl:k=n':=(by omega);have cQ:=qqh (show pU w L (1+400*(j+1)) ((L.drop (j+1)).flatMap cT) wr by
   obtain⟨⟨E,h1,h2,h3,h4,h5⟩,h6⟩:=hst;rw [List.drop_of_length_le (by rw [jo.out];exact qql)]at h5;exact⟨⟨E,h1,h2,h3,by omega,h5⟩,h6⟩)
  clear hst;go_wp2_with fail;exact⟨⟨j+1,by omega,by go_num,cQ.out⟩,by simp [intOf];omega⟩
 obtain rfl:j=n:=(by omega);rw [List.drop_of_length_le (by rw [aM.out];exact qql)]at hst;obtain⟨A',n',c',h1,h2⟩:=hst.cell;have d0:wr.cell? ⟨w.heap.size+1,0,none⟩=some (.slice A' n' c'):=h1.cell 0;have HB:=qqh hst.below;have H2:=qqh h2;clear h1 h2 hst cQ;go_wp2_with fail;go_ret;exact⟨⟨A',n',c',rfl,H2.out⟩,HB.out⟩
end Go.Proofs.YtamkjeipdjbemaaGreatDoor
namespace Go.Proofs.YtamkjeipdjbemaaGreatDoor
open Go.RowKit Go.Maps
def pQ (w:World) (lo mb n:Nat) (m:ByteArray→Option ag):Prop :=
  ∃ D:DataW Value,w.ownsMap Tryz.prog 9 Raw mb n D∧IsMap D∧∀ s:ByteArray,match m s with
    | some set=>∃ u,D.atKey (fF s) uJ=.held u∧has D (fF s)=true∧∃ A k c,u=.slice A k c∧cL w (fun b=>b≠mb∧lo≤b) 2 A k (au set)∧k≤c
    | none=>D.atKey (fF s) uJ=uJ∧has D (fF s)=false
def uT (m:ByteArray→Option ag) (k:ByteArray) (v:ag) (s:ByteArray):Option ag:=if s=k then some v else m s
theorem pQ.keep {w w':World} {lo mb n:Nat} {m:ByteArray→Option ag} (hk:aa w (fun b=>b≠mb∧lo≤b) w' (fun b=>b≠mb∧lo≤b)) (hm:w'.heap[mb]? = w.heap[mb]?) (h:pQ w lo mb n m):pQ w' lo mb n m:=by
 obtain⟨D,⟨es,clock,h1,h2⟩,h3,h4⟩:=h;refine⟨D,⟨es,clock,hm.trans h1,h2⟩,h3,fun s=>?_⟩;have:=h4 s;cases hl:m s with
 | none=>rw [hl]at this;exact this
 | some set=>
  rw [hl]at this;obtain⟨u,g1,g2,A,k,c,e,g3,g4⟩:=this;exact⟨u,g1,g2,A,k,c,e,g3.keep hk,g4⟩
theorem pQ.lt {w:World} {lo mb n:Nat} {m:ByteArray→Option ag} (h:pQ w lo mb n m):mb<w.heap.size:=by
 obtain⟨D,h1,_⟩:=h;exact h1.lt
theorem pQ.below {w w':World} {lo mb n:Nat} {m:ByteArray→Option ag} (h:pQ w lo mb n m) (hb:Below w.heap.size w w'):pQ w' lo mb n m:=h.keep (aa.any hb) (hb.block mb h.lt)
theorem pQ.made (w:World) (lo:Nat):pQ (w.alloc (.map #[] 0)) lo w.heap.size 0 (fun _=>none) :=
  ⟨.map [],World.ownsMap_made _ _ _ _,isMap_empty,fun s=>⟨by simp [DataW.atKey],by simp [has]⟩⟩
theorem pQ.put {w:World} {lo mb n:Nat} {m:ByteArray→Option ag} (h:pQ w lo mb n m) (key:ByteArray) {set:ag} {A:Option Addr} {k c:Nat} (hr:cL w (fun b=>b≠mb∧lo≤b) 2 A k (au set)) (hc:k≤c) :
    ∃ D:DataW Value,w.ownsMap Tryz.prog 9 Raw mb n D∧∀ w':World,w'.ownsMap Tryz.prog 9 Raw mb (n+1) (D.put (fF key) (.held (.slice A k c)))→w.grownBy w' (some mb)→pQ w' lo mb (n+1) (uT m key set)∧bQ w mb w':=by
 obtain⟨D,h1,h2,h3⟩:=h;refine⟨D,h1,fun w' hown hg=>?_⟩;have hk:aa w (fun b=>b≠mb∧lo≤b) w' (fun b=>b≠mb∧lo≤b):=fun b hb hl=>⟨hg.block b hl (fun e=>hb.1 (Option.some.inj e)),hb,Nat.lt_of_lt_of_le hl hg.size⟩;refine⟨⟨_,hown,h2.put _ _,fun s=>?_⟩,hg.size,hg.os,hg.tape,hg.output,fun b hb hne=>hg.block b hb (fun e=>hne (Option.some.inj e))⟩;unfold uT;by_cases hs:s=key
 ·subst hs;rw [if_pos rfl];exact⟨_,atKey_put_same h2 (vH _) _ _,has_put_same h2 (vH _) _,A,k,c,rfl,hr.keep hk,hc⟩
 rw [if_neg hs];have hne:fF s≠fF key:=fun e=>hs (DP e);have:=h3 s;cases hl:m s with
 | none=>
  rw [hl]at this;dsimp only;rw [atKey_put_other hne,has_put_other hne];exact this
 | some x=>
  rw [hl]at this;obtain⟨v,g1,g2,A',k',c',e,g3,g4⟩:=this;exact⟨v,by rw [atKey_put_other hne];exact g1,by rw [has_put_other hne];exact g2,A',k',c',e,g3.keep hk,g4⟩
def UW:ByteArray:=⟨#[100,105,103,105,116]⟩
def cs0:ag:=[(48,57)]
def Wy:ByteArray:=⟨#[108,111,119,101,114]⟩
def Ye:ag:=[(97,122),(223,246),(248,255)]
def UL:ByteArray:=⟨#[117,112,112,101,114]⟩
def Y6:ag:=[(65,90),(192,214),(216,222)]
def VS:ByteArray:=⟨#[108,101,116,116,101,114]⟩
def Uy:ag:=[(65,90),(97,122),(192,214),(216,246),(248,255)]
def Wk:ByteArray:=⟨#[118,111,119,101,108]⟩
def UC:ag:=[(65,65),(69,69),(73,73),(79,79),(85,85),(97,97),(101,101),(105,105),(111,111),(117,117)]
def Vu:ByteArray:=⟨#[103,114,101,101,107]⟩
def Yd:ag:=[(880,1023)]
def Wz:ByteArray:=⟨#[99,121,114,105,108,108,105,99]⟩
def Yw:ag:=[(1024,1279)]
def VW:ByteArray:=⟨#[115,112,97,99,101]⟩
def YX:ag:=[(9,10),(32,32)]
def XB:ByteArray:=⟨#[97,110,121]⟩
def YU:ag:=[(0,1114111)]
def wF:ByteArray→Option ag:=(uT (uT (uT (uT (uT (uT (uT (uT (uT (fun _=>none) UW cs0) Wy Ye) UL Y6) VS Uy) Wk UC) Vu Yd) Wz Yw) VW YX) XB YU)
theorem kA {l m:List Int} {k:ByteArray} (hk:k=runesBytes m) (hm:dQ m):(runesBytes l=k)=(l=m):=by
 subst hk;exact propext ⟨yN hm,fun h=>by rw [h]⟩
theorem nH {k:ByteArray} {m:List Int} (hm:dQ m) (h:k.data.toList=od m):k=runesBytes m:=by
 rw [← fI hm]at h;exact ByteArray.ext (Array.ext' h)
theorem GP (l:List Int):wF (runesBytes l)=iy l:=by
 have e0:(runesBytes l=UW)=(l = [100,105,103,105,116]):=kA (nH (by unfold dQ;decide) (by decide)) (by unfold dQ;decide);have e1:(runesBytes l=Wy)=(l = [108,111,119,101,114]):=kA (nH (by unfold dQ;decide) (by decide)) (by unfold dQ;decide);have e2:(runesBytes l=UL)=(l = [117,112,112,101,114]):=kA (nH (by unfold dQ;decide) (by decide)) (by unfold dQ;decide);have e3:(runesBytes l=VS)=(l = [108,101,116,116,101,114]):=kA (nH (by unfold dQ;decide) (by decide)) (by unfold dQ;decide);have e4:(runesBytes l=Wk)=(l = [118,111,119,101,108]):=kA (nH (by unfold dQ;decide) (by decide)) (by unfold dQ;decide);have e5:(runesBytes l=Vu)=(l = [103,114,101,101,107]):=kA (nH (by unfold dQ;decide) (by decide)) (by unfold dQ;decide);have e6:(runesBytes l=Wz)=(l = [99,121,114,105,108,108,105,99]):=kA (nH (by unfold dQ;decide) (by decide)) (by unfold dQ;decide);have e7:(runesBytes l=VW)=(l = [115,112,97,99,101]):=kA (nH (by unfold dQ;decide) (by decide)) (by unfold dQ;decide);have e8:(runesBytes l=XB)=(l = [97,110,121]):=kA (nH (by unfold dQ;decide) (by decide)) (by unfold dQ;decide);unfold wF uT iy;simp only [e0,e1,e2,e3,e4,e5,e6,e7,e8];clear e0 e1 e2 e3 e4 e5 e6 e7 e8;by_cases h0:l = [100,105,103,105,116]
 ·subst h0;rfl
 by_cases h1:l = [108,111,119,101,114]
 ·subst h1;rfl
 by_cases h2:l = [117,112,112,101,114]
 ·subst h2;rfl
 by_cases h3:l = [108,101,116,116,101,114]
 ·subst h3;rfl
 by_cases h4:l = [118,111,119,101,108]
 ·subst h4;rfl
 by_cases h5:l = [103,114,101,101,107]
 ·subst h5;rfl
 by_cases h6:l = [99,121,114,105,108,108,105,99]
 ·subst h6;rfl
 by_cases h7:l = [115,112,97,99,101]
 ·subst h7;rfl
 by_cases h8:l = [97,110,121]
 ·subst h8;rfl
 simp only [h0,h1,h2,h3,h4,h5,h6,h7,h8,if_false]
def pJ (w:World) (s:ByteArray) (e:Ending) (w':World):Prop :=
  (match wF s with
  | some set=>∃ A n c,e=.returned (.tuple #[.slice A n c,.bool true])∧cL w' (fun b=>w.heap.size≤b) 2 A n (au set)∧n≤c
  | none=>e=.returned (.tuple #[.slice none 0 0,.bool false]))∧Below w.heap.size w w'
theorem JJ (w:World):(zeroValue 26).run Tryz.prog w=.ok (.slice none 0 0) w:=by kernel_rfl
theorem pQ.ask {w:World} {lo mb n:Nat} {m:ByteArray→Option ag} (h:pQ w lo mb n m) (s:ByteArray) :
    ∃ D u q,w.ownsMap Tryz.prog 9 Raw mb n D∧D.atKey (fF s) uJ=.held u∧has D (fF s)=q∧(match m s with
      | some set=>q=true∧∃ A k c,u=.slice A k c∧cL w (fun b=>b≠mb∧lo≤b) 2 A k (au set)∧k≤c
      | none=>q=false∧u=.slice none 0 0):=by
 obtain⟨D,h1,_,h3⟩:=h;have:=h3 s;cases hl:m s with
 | none=>
  rw [hl]at this;exact⟨D,_,_,h1,this.1,this.2,rfl,rfl⟩
 | some x=>
  rw [hl]at this;obtain⟨u,g1,g2,g3⟩:=this;exact⟨D,u,true,h1,g1,g2,rfl,g3⟩
theorem gn (W:World) (cs:ag) (N:Nat) (hN:N=2*cs.length) (hn:N≤1000) :
    Calls Tryz.prog 142 #[.slice (some ⟨W.heap.size,0,none⟩) N N] (W.alloc (.cells (au cs).toArray 21)) (dO W cs 1000):=by
 have hb:=(Below.refl W.heap.size W).alloc qql (.cells (au cs).toArray 21);refine(FM W.heap.size 0 N cs N _ hN hn (by simp) (fun j u hu=>?_)).mono ?_
 ·rw [Nat.zero_add,(an.new W 21 (au cs).toArray).cell];simpa using hu
 rintro e w1 ⟨A,k,c,rfl,h1,h2,h3,h4⟩;exact⟨A,k,c,rfl,h1.keep (aa.refl (fun b h=>by simp at h;omega)),h2,h3,hb.trans (h4.mono (by simp))⟩
theorem I1 (s:ByteArray) (w:World) (hs:s.size≤maxLen) :
    Calls Tryz.prog 119 #[.string s] w (pJ w s):=by
 have HS:=qqh hs;have nc:=qqh (pQ.made w w.heap.size);have cy:=qqh ((Below.refl w.heap.size w).alloc qql (.map #[] 0));have hmm:∀ W:World,(Instr.makeMap 125 none).run Tryz.prog W=.ok (.map (some W.heap.size)) (W.alloc (.map #[] 0)):=fun W=>rfl;clear hs;have EY:=qqh (fun(W:World)=>show Calls Tryz.prog 142 #[.slice (some ⟨W.heap.size,0,none⟩) 2 2] (W.alloc (.cells #[.int .i32 48,.int .i32 57] 21)) (dO W cs0 1000) from gn W cs0 2 (by decide) (by decide));have gS:=qqh (show keyOf Tryz.prog 9 (.string ⟨#[100,105,103,105,116]⟩)=some (fF UW) from kf (s:=UW) (by show(5:Nat)≤maxLen;simp only [maxLen];omega));have j8:=qqh (fun(W:World)=>show Calls Tryz.prog 142 #[.slice (some ⟨W.heap.size,0,none⟩) 6 6] (W.alloc (.cells #[.int .i32 97,.int .i32 122,.int .i32 223,.int .i32 246,.int .i32 248,.int .i32 255] 21)) (dO W Ye 1000) from gn W Ye 6 (by decide) (by decide));have ot:=qqh (show keyOf Tryz.prog 9 (.string ⟨#[108,111,119,101,114]⟩)=some (fF Wy) from kf (s:=Wy) (by show(5:Nat)≤maxLen;simp only [maxLen];omega));have qT:=qqh (fun(W:World)=>show Calls Tryz.prog 142 #[.slice (some ⟨W.heap.size,0,none⟩) 6 6] (W.alloc (.cells #[.int .i32 65,.int .i32 90,.int .i32 192,.int .i32 214,.int .i32 216,.int .i32 222] 21)) (dO W Y6 1000) from gn W Y6 6 (by decide) (by decide));have xu:=qqh (show keyOf Tryz.prog 9 (.string ⟨#[117,112,112,101,114]⟩)=some (fF UL) from kf (s:=UL) (by show(5:Nat)≤maxLen;simp only [maxLen];omega))
 have qY:=qqh (fun(W:World)=>show Calls Tryz.prog 142 #[.slice (some ⟨W.heap.size,0,none⟩) 10 10] (W.alloc (.cells #[.int .i32 65,.int .i32 90,.int .i32 97,.int .i32 122,.int .i32 192,.int .i32 214,.int .i32 216,.int .i32 246,.int .i32 248,.int .i32 255] 21)) (dO W Uy 1000) from gn W Uy 10 (by decide) (by decide));have TQ:=qqh (show keyOf Tryz.prog 9 (.string ⟨#[108,101,116,116,101,114]⟩)=some (fF VS) from kf (s:=VS) (by show(6:Nat)≤maxLen;simp only [maxLen];omega));have zE:=qqh (fun(W:World)=>show Calls Tryz.prog 142 #[.slice (some ⟨W.heap.size,0,none⟩) 20 20] (W.alloc (.cells #[.int .i32 65,.int .i32 65,.int .i32 69,.int .i32 69,.int .i32 73,.int .i32 73,.int .i32 79,.int .i32 79,.int .i32 85,.int .i32 85,.int .i32 97,.int .i32 97,.int .i32 101,.int .i32 101,.int .i32 105,.int .i32 105,.int .i32 111,.int .i32 111,.int .i32 117,.int .i32 117] 21)) (dO W UC 1000) from gn W UC 20 (by decide) (by decide));have LH:=qqh (show keyOf Tryz.prog 9 (.string ⟨#[118,111,119,101,108]⟩)=some (fF Wk) from kf (s:=Wk) (by show(5:Nat)≤maxLen;simp only [maxLen];omega));have sM:=qqh (fun(W:World)=>show Calls Tryz.prog 142 #[.slice (some ⟨W.heap.size,0,none⟩) 2 2] (W.alloc (.cells #[.int .i32 880,.int .i32 1023] 21)) (dO W Yd 1000) from gn W Yd 2 (by decide) (by decide));have HK5:=qqh (show keyOf Tryz.prog 9 (.string ⟨#[103,114,101,101,107]⟩)=some (fF Vu) from kf (s:=Vu) (by show(5:Nat)≤maxLen;simp only [maxLen];omega))
 have FP:=qqh (fun(W:World)=>show Calls Tryz.prog 142 #[.slice (some ⟨W.heap.size,0,none⟩) 2 2] (W.alloc (.cells #[.int .i32 1024,.int .i32 1279] 21)) (dO W Yw 1000) from gn W Yw 2 (by decide) (by decide));have HK6:=qqh (show keyOf Tryz.prog 9 (.string ⟨#[99,121,114,105,108,108,105,99]⟩)=some (fF Wz) from kf (s:=Wz) (by show(8:Nat)≤maxLen;simp only [maxLen];omega));have Hv:=qqh (fun(W:World)=>show Calls Tryz.prog 142 #[.slice (some ⟨W.heap.size,0,none⟩) 4 4] (W.alloc (.cells #[.int .i32 9,.int .i32 10,.int .i32 32,.int .i32 32] 21)) (dO W YX 1000) from gn W YX 4 (by decide) (by decide));have HK7:=qqh (show keyOf Tryz.prog 9 (.string ⟨#[115,112,97,99,101]⟩)=some (fF VW) from kf (s:=VW) (by show(5:Nat)≤maxLen;simp only [maxLen];omega));have SB:=qqh (fun(W:World)=>show Calls Tryz.prog 142 #[.slice (some ⟨W.heap.size,0,none⟩) 2 2] (W.alloc (.cells #[.int .i32 0,.int .i32 1114111] 21)) (dO W YU 1000) from gn W YU 2 (by decide) (by decide));have HK8:=qqh (show keyOf Tryz.prog 9 (.string ⟨#[97,110,121]⟩)=some (fF XB) from kf (s:=XB) (by show(3:Nat)≤maxLen;simp only [maxLen];omega));have aby:=qqh (show Calls Tryz.prog 142 #[.slice (some ⟨w.heap.size+1,0,none⟩) 2 2] ((w.alloc (.map #[] 0)).alloc (.cells #[.int .i32 48,.int .i32 57] 21)) (dO (w.alloc (.map #[] 0)) cs0 1000) by have:=EY.out (w.alloc (.map #[] 0));simpa using this);have To:=qqh (show w.heap.size<(w.alloc (.map #[] 0)).heap.size by simp);go_enter Tryz.func119,Tryz.ntmps119;go_wp2_with fail;refine aby.out.mono ?_;rintro e w0 ⟨A0,k0,c0,rfl,hr,hk,hc,hb⟩
 have aab:=qqh (cy.out.trans (hb.mono (Nat.le_of_lt To.out)));obtain⟨D0,hown,hput⟩:=(nc.out.below hb).put UW (set:=cs0) (hr.keep (aa.refl (X':=fun b=>b≠w.heap.size∧w.heap.size≤b) (fun b h=>by have:=To.out;omega))) hc;have VP:=qqh (show w.heap.size<w0.heap.size from Nat.lt_of_lt_of_le To.out hb.size);have HO0:=qqh hown;have AT:=qqh hput;clear hr hk hc hb hown hput;go_wp2_with (first | (refine cm _ rfl (.tmp 8) _ _ 125 rfl 9 26 iS Tryz.underlying125 Raw w.heap.size 0 _ rfl HO0.out (by unfold maxLen;omega) _ _ _ rfl rfl gS.out (.held (.slice A0 k0 c0)) [] rfl ?_;intro v0 hown hgrow;have OA:=qqh (AT.out v0 hown hgrow).1;have bF:=qqh (aab.out.trans ((AT.out v0 hown hgrow).2.to (Nat.le_of_lt VP.out) qql));have K0:=qqh (show w.heap.size<v0.heap.size from Nat.lt_of_lt_of_le VP.out hgrow.size);clear hown hgrow) | fail);refine(j8.out _).mono ?_;rintro e w1 ⟨A1,k1,c1,rfl,hr,hk,hc,hb⟩;have aaV:=qqh (bF.out.trans (hb.mono (Nat.le_of_lt K0.out)));obtain⟨D1,hown,hput⟩:=(OA.out.below hb).put Wy (set:=Ye) (hr.keep (aa.refl (X':=fun b=>b≠w.heap.size∧w.heap.size≤b) (fun b h=>by have:=K0.out;omega))) hc;have WX:=qqh (show w.heap.size<w1.heap.size from Nat.lt_of_lt_of_le K0.out hb.size);have nM:=qqh hown;have EU:=qqh hput;clear hr hk hc hb hown hput
 go_wp2_with (first | (refine cm _ rfl (.tmp 8) _ _ 125 rfl 9 26 iS Tryz.underlying125 Raw w.heap.size 1 _ rfl nM.out (by unfold maxLen;omega) _ _ _ rfl rfl ot.out (.held (.slice A1 k1 c1)) [] rfl ?_;intro v1 hown hgrow;have YS:=qqh (EU.out v1 hown hgrow).1;have bf:=qqh (aaV.out.trans ((EU.out v1 hown hgrow).2.to (Nat.le_of_lt WX.out) qql));have Q5:=qqh (show w.heap.size<v1.heap.size from Nat.lt_of_lt_of_le WX.out hgrow.size);clear hown hgrow) | fail);refine(qT.out _).mono ?_;rintro e w2 ⟨A2,k2,c2,rfl,hr,hk,hc,hb⟩;have aar:=qqh (bf.out.trans (hb.mono (Nat.le_of_lt Q5.out)));obtain⟨D2,hown,hput⟩:=(YS.out.below hb).put UL (set:=Y6) (hr.keep (aa.refl (X':=fun b=>b≠w.heap.size∧w.heap.size≤b) (fun b h=>by have:=Q5.out;omega))) hc;have WU:=qqh (show w.heap.size<w2.heap.size from Nat.lt_of_lt_of_le Q5.out hb.size);have rC:=qqh hown;have kz:=qqh hput;clear hr hk hc hb hown hput;go_wp2_with (first | (refine cm _ rfl (.tmp 8) _ _ 125 rfl 9 26 iS Tryz.underlying125 Raw w.heap.size 2 _ rfl rC.out (by unfold maxLen;omega) _ _ _ rfl rfl xu.out (.held (.slice A2 k2 c2)) [] rfl ?_;intro v2 hown hgrow;have XZ:=qqh (kz.out v2 hown hgrow).1;have bN:=qqh (aar.out.trans ((kz.out v2 hown hgrow).2.to (Nat.le_of_lt WU.out) qql));have yY:=qqh (show w.heap.size<v2.heap.size from Nat.lt_of_lt_of_le WU.out hgrow.size);clear hown hgrow) | fail);refine(qY.out _).mono ?_;rintro e w3 ⟨A3,k3,c3,rfl,hr,hk,hc,hb⟩;have Zd:=qqh (bN.out.trans (hb.mono (Nat.le_of_lt yY.out)))
 obtain⟨D3,hown,hput⟩:=(XZ.out.below hb).put VS (set:=Uy) (hr.keep (aa.refl (X':=fun b=>b≠w.heap.size∧w.heap.size≤b) (fun b h=>by have:=yY.out;omega))) hc;have WY:=qqh (show w.heap.size<w3.heap.size from Nat.lt_of_lt_of_le yY.out hb.size);have qG:=qqh hown;have i7:=qqh hput;clear hr hk hc hb hown hput;go_wp2_with (first | (refine cm _ rfl (.tmp 8) _ _ 125 rfl 9 26 iS Tryz.underlying125 Raw w.heap.size 3 _ rfl qG.out (by unfold maxLen;omega) _ _ _ rfl rfl TQ.out (.held (.slice A3 k3 c3)) [] rfl ?_;intro v3 hown hgrow;have YK:=qqh (i7.out v3 hown hgrow).1;have bW:=qqh (Zd.out.trans ((i7.out v3 hown hgrow).2.to (Nat.le_of_lt WY.out) qql));have WG:=qqh (show w.heap.size<v3.heap.size from Nat.lt_of_lt_of_le WY.out hgrow.size);clear hown hgrow) | fail);refine(zE.out _).mono ?_;rintro e w4 ⟨A4,k4,c4,rfl,hr,hk,hc,hb⟩;have aaA:=qqh (bW.out.trans (hb.mono (Nat.le_of_lt WG.out)));obtain⟨D4,hown,hput⟩:=(YK.out.below hb).put Wk (set:=UC) (hr.keep (aa.refl (X':=fun b=>b≠w.heap.size∧w.heap.size≤b) (fun b h=>by have:=WG.out;omega))) hc;have Uz:=qqh (show w.heap.size<w4.heap.size from Nat.lt_of_lt_of_le WG.out hb.size);have jm:=qqh hown;have Sz:=qqh hput;clear hr hk hc hb hown hput
 go_wp2_with (first | (refine cm _ rfl (.tmp 8) _ _ 125 rfl 9 26 iS Tryz.underlying125 Raw w.heap.size 4 _ rfl jm.out (by unfold maxLen;omega) _ _ _ rfl rfl LH.out (.held (.slice A4 k4 c4)) [] rfl ?_;intro v4 hown hgrow;have T7:=qqh (Sz.out v4 hown hgrow).1;have eD:=qqh (aaA.out.trans ((Sz.out v4 hown hgrow).2.to (Nat.le_of_lt Uz.out) qql));have HL5:=qqh (show w.heap.size<v4.heap.size from Nat.lt_of_lt_of_le Uz.out hgrow.size);clear hown hgrow) | fail);refine(sM.out _).mono ?_;rintro e w5 ⟨A5,k5,c5,rfl,hr,hk,hc,hb⟩;have abw:=qqh (eD.out.trans (hb.mono (Nat.le_of_lt HL5.out)));obtain⟨D5,hown,hput⟩:=(T7.out.below hb).put Vu (set:=Yd) (hr.keep (aa.refl (X':=fun b=>b≠w.heap.size∧w.heap.size≤b) (fun b h=>by have:=HL5.out;omega))) hc;have Us:=qqh (show w.heap.size<w5.heap.size from Nat.lt_of_lt_of_le HL5.out hb.size);have yq:=qqh hown;have Uu:=qqh hput;clear hr hk hc hb hown hput;go_wp2_with (first | (refine cm _ rfl (.tmp 8) _ _ 125 rfl 9 26 iS Tryz.underlying125 Raw w.heap.size 5 _ rfl yq.out (by unfold maxLen;omega) _ _ _ rfl rfl HK5.out (.held (.slice A5 k5 c5)) [] rfl ?_;intro v5 hown hgrow;have Ug:=qqh (Uu.out v5 hown hgrow).1;have iQ:=qqh (abw.out.trans ((Uu.out v5 hown hgrow).2.to (Nat.le_of_lt Us.out) qql));have HL6:=qqh (show w.heap.size<v5.heap.size from Nat.lt_of_lt_of_le Us.out hgrow.size);clear hown hgrow) | fail);refine(FP.out _).mono ?_;rintro e w6 ⟨A6,k6,c6,rfl,hr,hk,hc,hb⟩;have aaz:=qqh (iQ.out.trans (hb.mono (Nat.le_of_lt HL6.out)))
 obtain⟨D6,hown,hput⟩:=(Ug.out.below hb).put Wz (set:=Yw) (hr.keep (aa.refl (X':=fun b=>b≠w.heap.size∧w.heap.size≤b) (fun b h=>by have:=HL6.out;omega))) hc;have VK:=qqh (show w.heap.size<w6.heap.size from Nat.lt_of_lt_of_le HL6.out hb.size);have AD:=qqh hown;have HP6:=qqh hput;clear hr hk hc hb hown hput;go_wp2_with (first | (refine cm _ rfl (.tmp 8) _ _ 125 rfl 9 26 iS Tryz.underlying125 Raw w.heap.size 6 _ rfl AD.out (by unfold maxLen;omega) _ _ _ rfl rfl HK6.out (.held (.slice A6 k6 c6)) [] rfl ?_;intro v6 hown hgrow;have HM7:=qqh (HP6.out v6 hown hgrow).1;have iF:=qqh (aaz.out.trans ((HP6.out v6 hown hgrow).2.to (Nat.le_of_lt VK.out) qql));have HL7:=qqh (show w.heap.size<v6.heap.size from Nat.lt_of_lt_of_le VK.out hgrow.size);clear hown hgrow) | fail);refine(Hv.out _).mono ?_;rintro e w7 ⟨A7,k7,c7,rfl,hr,hk,hc,hb⟩;have abL:=qqh (iF.out.trans (hb.mono (Nat.le_of_lt HL7.out)));obtain⟨D7,hown,hput⟩:=(HM7.out.below hb).put VW (set:=YX) (hr.keep (aa.refl (X':=fun b=>b≠w.heap.size∧w.heap.size≤b) (fun b h=>by have:=HL7.out;omega))) hc;have UX:=qqh (show w.heap.size<w7.heap.size from Nat.lt_of_lt_of_le HL7.out hb.size);have jb:=qqh hown;have HP7:=qqh hput;clear hr hk hc hb hown hput
 go_wp2_with (first | (refine cm _ rfl (.tmp 8) _ _ 125 rfl 9 26 iS Tryz.underlying125 Raw w.heap.size 7 _ rfl jb.out (by unfold maxLen;omega) _ _ _ rfl rfl HK7.out (.held (.slice A7 k7 c7)) [] rfl ?_;intro v7 hown hgrow;have T5:=qqh (HP7.out v7 hown hgrow).1;have qZ:=qqh (abL.out.trans ((HP7.out v7 hown hgrow).2.to (Nat.le_of_lt UX.out) qql));have Zt:=qqh (show w.heap.size<v7.heap.size from Nat.lt_of_lt_of_le UX.out hgrow.size);clear hown hgrow) | fail);refine(SB.out _).mono ?_;rintro e w8 ⟨A8,k8,c8,rfl,hr,hk,hc,hb⟩;have abR:=qqh (qZ.out.trans (hb.mono (Nat.le_of_lt Zt.out)));obtain⟨D8,hown,hput⟩:=(T5.out.below hb).put XB (set:=YU) (hr.keep (aa.refl (X':=fun b=>b≠w.heap.size∧w.heap.size≤b) (fun b h=>by have:=Zt.out;omega))) hc;have VY:=qqh (show w.heap.size<w8.heap.size from Nat.lt_of_lt_of_le Zt.out hb.size);have Jp:=qqh hown;have GC:=qqh hput;clear hr hk hc hb hown hput
 go_wp2_with (first | (refine cm _ rfl (.tmp 8) _ _ 125 rfl 9 26 iS Tryz.underlying125 Raw w.heap.size 8 _ rfl Jp.out (by unfold maxLen;omega) _ _ _ rfl rfl HK8.out (.held (.slice A8 k8 c8)) [] rfl ?_;intro v8 hown hgrow;have Sd:=qqh (GC.out v8 hown hgrow).1;have cB:=qqh (abR.out.trans ((GC.out v8 hown hgrow).2.to (Nat.le_of_lt VY.out) qql));have PN:=qqh (show w.heap.size<v8.heap.size from Nat.lt_of_lt_of_le VY.out hgrow.size);clear hown hgrow;obtain⟨D9,u9,q9,hown,lE,Xs,hpost⟩:=Sd.out.ask s;have fH:=qqh hown;have HA9:=qqh lE;have G9:=qqh Xs;have HP9:=qqh hpost;clear hown lE Xs hpost) | (at_lookup;refine xE rfl (.tmp 36) (.tmp 37) 125 26 rfl Tryz.underlying125 (z:=.slice none 0 0) (JJ _) w.heap.size 9 D9 rfl fH.out s rfl HS.out u9 q9 HA9.out G9.out ?_) | fail);go_ret2;have hp:=HP9.out;unfold pJ;change (match wF s with | some set=>_ | none=>_)at hp;cases hT:wF s with
 | none=>
  rw [hT]at hp;obtain⟨rfl,rfl⟩:=hp;exact⟨rfl,cB.out⟩
 | some set=>
  rw [hT]at hp;obtain⟨rfl,A,k,c,rfl,h1,h2⟩:=hp;exact⟨⟨A,k,c,rfl,h1.keep (aa.refl (fun b h=>h.2)),h2⟩,cB.out⟩
end Go.Proofs.YtamkjeipdjbemaaGreatDoor
namespace Go.Proofs.YtamkjeipdjbemaaGreatDoor
open Go.RowKit
theorem Qu {w:World} {g:Nat} {t:TypeId} {c c':Array Value} (h:an w g t c):an (w.setRow g c') g t c':=setRow_heap w g c c' t (0,0) h
theorem Hl (w:World) (g:Nat) (c:Array Value):bQ w g (w.setRow g c):=⟨by simp,rfl,rfl,rfl,fun k _ hne=>setRow_other w g k c hne⟩
section
variable {ops : Array Oper} {rest : List Oper} {o : Oper} {a : Act} {w : World} {Q : Exit → Act → World → Prop} {ty t : TypeId} {x y : Operand} {g : Nat}
theorem wpList_load_row {cs:Array Value} (hgd:o.guard=none) (ho:o.op=.load ty x) (hu:∃ fs,Tryz.prog.underlying ty=some (.struct fs)) (hi:(Tryz.prog.info? ty).map (·.size)=some cs.size)
    (hx:a.eval x=.pointer (some ⟨g,0,none⟩)) (hb:an w g t cs) (h:wpList Tryz.prog ops Q rest (a.put o.dst (.agg cs)) w):wpList Tryz.prog ops Q (o::rest) a w:=by
 obtain⟨fs,hu⟩:=hu;refine wpList_plain hgd fun K hK=>?_;have hr:(execOp a.eval o).run Tryz.prog w=.ok (.value (.agg cs)) w:=by
  unfold execOp;rw [ho];simp only [hx,Instr.loadAt,Instr.sureAddr,Sem.run_bind,Sem.run_pure,Result.andThen,run_loadVar_row w g t ty cs (0,0) (.struct fs) hb hu rfl hi]
 unfold Oper.wp;rw [hr];exact hK _ _ h
theorem wpList_store_row {c vs:Array Value} (hgd:o.guard=none) (ho:o.op=.store ty x y) (hi:(Tryz.prog.info? ty).map (·.size)=some vs.size) (hs:c.size=vs.size) (h1:vs.all (·.oneCell')=true)
    (hx:a.eval x=.pointer (some ⟨g,0,none⟩)) (hy:a.eval y=.agg vs) (hb:an w g t c) (h:wpList Tryz.prog ops Q rest (a.put o.dst undef) (w.setRow g vs)):wpList Tryz.prog ops Q (o::rest) a w:=by
 refine wpList_plain hgd fun K hK=>?_;have hr:(execOp a.eval o).run Tryz.prog w=.ok .skip (w.setRow g vs):=by
  unfold execOp;rw [ho];simp only [hx,hy,Instr.storeAt,Instr.sureAddr,Sem.run_bind,Sem.run_pure,Result.andThen,run_storeVar_row w g t ty c vs hb hi hs h1]
 unfold Oper.wp;rw [hr];exact hK _ _ h
theorem lZ {fn:Func} {p:Tmp} {tmps:Array Value} {cs:Array Value} (h:fn.results = #[.cell p ty]) (hp:tmps.getD p undef=.pointer (some ⟨g,0,none⟩)) (hu:∃ fs,Tryz.prog.underlying ty=some (.struct fs)) (hi:(Tryz.prog.info? ty).map (·.size)=some cs.size) (hb:an w g t cs) :
    (results fn tmps).run Tryz.prog w=.ok (.agg cs) w:=by
 obtain⟨fs,hu⟩:=hu;have hl:=run_loadVar_row w g t ty cs (0,0) (.struct fs) hb hu rfl hi;have hp2:tmps[p]?.getD undef=.pointer (some ⟨g,0,none⟩):=(by simpa using hp);simp only [results,h];simp [hp2,asAddr,hl]
end
end Go.Proofs.YtamkjeipdjbemaaGreatDoor
