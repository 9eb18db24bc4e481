/- ShelfSqueeze: squeeze leaves one of each run of b, of c, of d. Condition: Go's own variables are as their text lays them. -/
import Derived.Test.YtapechjebkjidaaGreatDoorCards
import Derived.Test.YtapechjebkjidaaGreatDoorRows
import Derived.Test.YtapechjebkjidaaGreatDoorShSqueezeJ
import Derived.Test.YtapechjebkjidaaGreatDoorTie
import Derived.Test.YtapechjebkjidaaGreatDoorZs20
import Derived.Test.YtapechjebkjidaaGreatDoorZs3
import Derived.Test.YtapechjebkjidaaGreatDoorZs32
import Derived.Test.YtapechjebkjidaaGreatDoorZs45
set_option maxHeartbeats 3200000
set_option maxRecDepth 100000
namespace Go.Proofs.YtapechjebkjidaaGreatDoor
open Go.RowKit
/-! ### squeeze -/
def two (a:Int):au:=⟨false,false,[],[[(a,a)],[(a,a)]],[],[a],0⟩
def oD:List au:=[two 98,two 99,two 100]
def bZ:Int→List Int→List Int
  | _,[]=>[]
  | last,x::t=>(if x≠last∨x<98∨100<x then [x]else [])++bZ x t
theorem Ot (a:Int) (A Z:List Int) (z:Int):bU (two a) (A++z::Z) A.length=(decide (z=a) && decide (Z.head? = some a)):=by
 rw [lK];cases Z with
 | nil=>simp [two,bJ]
 | cons y t=>
  simp only [two,List.length_nil,Nat.zero_le,decide_true,bJ,oc,Bool.and_true,Bool.false_and,Bool.not_false,List.head?_cons,Option.some.injEq]
theorem Bx (A Z:List Int) (z:Int):oD.find? (fun r=>bU r (A++z::Z) A.length)=if 98≤z∧z≤100∧Z.head? = some z then some (two z)else none:=by
 have one:∀ a:Int,bU (two a) (A++z::Z) A.length=decide (z=a∧Z.head? = some z):=by
  intro a;rw [Ot,Bool.eq_iff_iff];simp only [Bool.and_eq_true,decide_eq_true_eq];constructor
  ·rintro⟨rfl,h⟩;exact⟨rfl,h⟩
  rintro⟨rfl,h⟩;exact⟨rfl,h⟩
 rw [oD,List.find?_cons,one,List.find?_cons,one,List.find?_cons,one,List.find?_nil];by_cases hh:Z.head? = some z
 ·by_cases h1:z=98
  ·subst h1;simp [hh]
  by_cases h2:z=99
  ·subst h2;simp [hh]
  by_cases h3:z=100
  ·subst h3;simp [hh]
  rw [if_neg (by omega)];simp [h1,h2,h3]
 rw [if_neg (fun h=>hh h.2.2)];simp [hh]
theorem ET:∀ (f:Nat) (Z A:List Int),Z.length≤f→∀ last:Int,(∀ x,Z.head? = some x→98≤x→x≤100→last≠x)→cP oD f A Z=A++bZ last Z:=by
 intro f;induction f with
 | zero=>intro Z A h _ _;cases Z with | nil=>simp [cP,bZ] | cons z Z=>simp at h
 | succ f ih=>
  intro Z A h last uI;cases Z with
  | nil=>simp [cP,bZ]
  | cons z Z=>
   simp only [List.length_cons]at h;rw [cP,Bx];by_cases hc:98≤z∧z≤100∧Z.head? = some z
   ·rw [if_pos hc];obtain⟨c1,c2,c3⟩:=hc;cases Z with
    | nil=>cases c3
    | cons y t=>
     obtain rfl:y=z:=(by simpa using c3);simp only [List.length_cons]at h;have:=ih (y::t) A (by simp only [List.length_cons];omega) last uI;have e1:(two y).target = [y]:=rfl;have e2:(two y).source.length=2:=rfl;have e3:(two y).aa.toNat=0:=rfl;simp only [e1,e2,e3,List.drop_succ_cons,List.drop_zero,List.take_zero,List.append_nil,List.singleton_append];rw [this,bZ,bZ,bZ];have hne:=uI y rfl c1 c2;rw [if_pos (.inl (fun e=>hne e.symm)),if_neg (by omega)];rfl
   rw [if_neg hc];simp only;rw [ih Z (A++[z]) (by omega) z (fun x hx h1 h2 e=>hc ⟨by omega,by omega,by rw [hx,e]⟩),bZ];have:z≠last∨z<98∨100<z:=by
    by_cases h1:98≤z∧z≤100;exact .inl (fun e=>uI z rfl h1.1 h1.2 e.symm);omega
   rw [if_pos this];simp
end Go.Proofs.YtapechjebkjidaaGreatDoor
namespace Go.Proofs.YtapechjebkjidaaGreatDoor
open Go.RowKit Go.Shelf
def wQ:ByteArray:=⟨#[115,113,117,101,101,122,101]⟩
theorem BH:mc wQ 15 (ji oD):=⟨by decide,by kernel_rfl,by kernel_rfl,by kernel_rfl,by kernel_rfl,by kernel_rfl,by kernel_rfl⟩
theorem zy:nE oD 1:=⟨by unfold zc;decide,by decide,by decide,by kernel_rfl,by kernel_rfl,by kernel_rfl,by kernel_rfl⟩
theorem CO (s:ByteArray) (hs:(ay s 0).length≤1000) (nN:s.size≤100000) (w:World):Calls Tryz.prog 30 #[.string wQ,.bool false,.string s] w (iq w (bZ (-1) (ay s 0))) :=
  iE BH zy s hs nN _ (fun f h=>ET f _ [] h (-1) (fun x _ h1 _=>by omega)) w
def G6 (w:World) (n:Nat) (L:List Int) (want last i:Value) (wr:World):Prop:=∃ (j:Nat) (acc:List Int) (q:Int),j≤n∧i=.int .i64 j∧want=.string (pz acc)∧last=.int .i32 q∧acc++bZ q (L.drop j)=bZ (-1) L∧acc.length≤j∧Below w.heap.size w wr
theorem yZ (s:ByteArray) (w:World):Calls Tryz.prog 8 #[.string s] w fun e w'=>e=.returned (.bool true)∧Below w.heap.size w w':=by
 by_cases hs:s.size≤1000
 ·have FQ:=cZ s;have HR:=Lib.hid (fun(k:Nat) (r:Int) (h:(ay s 0)[k]? = some r)=>kT h);have LD:=Lib.hid (fA s);have GN:=Lib.hid (jj s w (by omega));have NW:=Lib.hid (fun(W:World)=>iM wQ s _ (fun W=>CO s (by omega) (by omega) W) W);have nO:=Lib.hid (fu s w);rw [decide_eq_true (show(s.size:Int)≤1000 by omega)]at nO;have OI:(ay s 0).length≤1000:=(by omega);generalize ay s 0=L at *;clear hs FQ;go_enter Tryz.func8,Tryz.ntmps8;go_wp2_with fail;refine nO.out.mono ?_;rintro e w0 ⟨rfl,rfl⟩;go_wp2_with fail;refine GN.out.mono ?_;rintro e w1 ⟨⟨v,rfl,ho⟩,aT⟩;obtain⟨n,hn⟩:∃ n,L.length=n:=⟨_,rfl⟩;unfold gN at ho;rw [hn]at ho;obtain⟨A,cp,rfl,_⟩:=aH ho;have HL:=Lib.hid (Rd.cj ho);have bT:=Lib.hid aT;clear ho aT;have HN:=Lib.hid hn;have PE:n≤1000:=(by omega);clear hn OI;go_wp2_with fail;go_loopw [3,4,13] (G6 w1 n L) (fun _ _ i _=>n - (intOf i).toNat);(case atStart=>exact⟨0,[],-1,Nat.zero_le _,rfl,rfl,rfl,rfl,Nat.le_refl _,Below.refl _ _⟩);obtain⟨j,acc,q,hj,rfl,rfl,rfl,hF,hacc,hb⟩:=hrel;by_cases hlt:j<n
  ·obtain⟨r,hr⟩:∃ r,L[j]? = some r:=⟨_,List.getElem?_eq_getElem (by rw [HN.out];exact hlt)⟩;obtain⟨b,off,rfl,dL,hcells⟩:=HL.out.2 (by omega);have d0:wr.cell? ⟨b,off+j,none⟩=some (.int .i32 r):=(hb.cell (p:=⟨b,off+j,none⟩) dL).trans (hcells j _ (by rw [bC,hr];rfl));have rE:=HR.out j r hr;have HB:=Lib.hid hb;have HA:=Lib.hid hacc;have hsz:=bN acc;rw [drop_cons hr]at hF;by_cases h1:¬ r=q
   ·have q0:(r != q)=true:=(by rw [bne_iff_ne];exact h1);have hS:bZ q (r::L.drop (j+1)) = [r]++bZ r (L.drop (j+1)):=(by rw [bZ,if_pos (.inl h1)]);rw [hS]at hF;have HF:=Lib.hid hF;have HC:=Lib.hid (fun(W:World)=>de r rE W);have vc:=bN [r];have pM : [r].length=1:=rfl;clear hcells hb hF hS;go_wp2_with fail;refine(HC.out _).mono ?_;rintro e w2 ⟨rfl,aL⟩;have aW:=Lib.hid (HB.out.trans (aL.mono HB.out.size));clear aL;go_wp2_with fail;exact⟨⟨j+1,acc++[r],r,by omega,by go_num,by rw [ee],rfl,by rw [← HF.out,List.append_assoc],by rw [List.length_append];simp;have:=HA.out;omega,aW.out⟩,by simp [intOf];omega⟩
   by_cases h2:r<98
   ·obtain rfl:r=q:=Decidable.not_not.1 h1;have q0:(r != r)=false:=(by simp);have hS:bZ r (r::L.drop (j+1)) = [r]++bZ r (L.drop (j+1)):=(by rw [bZ,if_pos (.inr (.inl h2))]);rw [hS]at hF;have HF:=Lib.hid hF;have HC:=Lib.hid (fun(W:World)=>de r rE W);have vc:=bN [r];have pM : [r].length=1:=rfl;clear hcells hb hF hS;go_wp2_with fail;refine(HC.out _).mono ?_;rintro e w2 ⟨rfl,aL⟩;have aW:=Lib.hid (HB.out.trans (aL.mono HB.out.size));clear aL;go_wp2_with fail;exact⟨⟨j+1,acc++[r],r,by omega,by go_num,by rw [ee],rfl,by rw [← HF.out,List.append_assoc],by rw [List.length_append];simp;have:=HA.out;omega,aW.out⟩,by simp [intOf];omega⟩
   by_cases h3:100<r
   ·obtain rfl:r=q:=Decidable.not_not.1 h1;have q0:(r != r)=false:=(by simp);have hS:bZ r (r::L.drop (j+1)) = [r]++bZ r (L.drop (j+1)):=(by rw [bZ,if_pos (.inr (.inr h3))]);rw [hS]at hF;have HF:=Lib.hid hF;have HC:=Lib.hid (fun(W:World)=>de r rE W);have vc:=bN [r];have pM : [r].length=1:=rfl;clear hcells hb hF hS;go_wp2_with fail;refine(HC.out _).mono ?_;rintro e w2 ⟨rfl,aL⟩;have aW:=Lib.hid (HB.out.trans (aL.mono HB.out.size));clear aL;go_wp2_with fail;exact⟨⟨j+1,acc++[r],r,by omega,by go_num,by rw [ee],rfl,by rw [← HF.out,List.append_assoc],by rw [List.length_append];simp;have:=HA.out;omega,aW.out⟩,by simp [intOf];omega⟩
   obtain rfl:r=q:=Decidable.not_not.1 h1;have q0:(r != r)=false:=(by simp);have hS:bZ r (r::L.drop (j+1))=bZ r (L.drop (j+1)):=(by rw [bZ,if_neg (by omega)];rfl);rw [hS]at hF;have HF:=Lib.hid hF;clear hcells hb hF hS;go_wp2_with fail;exact⟨⟨j+1,acc,r,by omega,by go_num,rfl,rfl,HF.out,by have:=HA.out;omega,HB.out⟩,by simp [intOf];omega⟩
  obtain rfl:j=n:=(by omega);have HB:=Lib.hid hb;rw [List.drop_eq_nil_of_le (by rw [HN.out];exact Nat.le_refl _)]at hF;rw [bZ,List.append_nil]at hF;subst hF;clear hb;go_wp2_with fail;refine(NW.out wr).mono ?_;rintro e w2 ⟨rfl,aL⟩;have aW:=Lib.hid (bT.out.trans ((HB.out.trans (aL.mono HB.out.size)).mono bT.out.size));clear aL;go_wp2_with fail;go_ret;exact⟨rfl,aW.out⟩
 have nO:=Lib.hid (fu s w);rw [decide_eq_false (show ¬(s.size:Int)≤1000 by omega)]at nO;clear hs;go_enter Tryz.func8,Tryz.ntmps8;go_wp2_with fail;refine nO.out.mono ?_;rintro e w0 ⟨rfl,rfl⟩;go_wp2_with fail;go_ret;exact⟨rfl,Below.refl _ _⟩
end Go.Proofs.YtapechjebkjidaaGreatDoor
namespace Go.Proofs.YtapechjebkjidaaGreatDoor
theorem bulk_one {H:Type} (d:DataW H):1≤Rows.uptoBulk d:=by
 cases d with
 | lit l=>cases l <;> simp [Rows.uptoBulk]
 | nil=>simp [Rows.uptoBulk]
 | ptr d=>simp [Rows.uptoBulk]
 | slice elems spare=>simp [Rows.uptoBulk]
 | agg parts=>simp [Rows.uptoBulk]
 | iface t d=>simp [Rows.uptoBulk]
 | map entries=>simp [Rows.uptoBulk]
 | held h=>simp [Rows.uptoBulk]
theorem bulk_len {H:Type} (l:List (DataW H)):l.length≤Rows.uptoBulkAll l:=by
 induction l with
 | nil=>simp
 | cons x r ih=>have:=bulk_one x;simp only [Rows.uptoBulkAll,List.length_cons];omega
theorem bulk_slice {H:Type} {d:DataW H} {c:Nat} (h:(d=.nil∧c=0)∨∃ elems spare,d=.slice elems spare∧elems.length+spare.length=c):c≤Rows.uptoBulk d:=by
 rcases h with ⟨_,rfl⟩ | ⟨elems,spare,rfl,rfl⟩;exact Nat.zero_le _;have h1:=bulk_len elems;have h2:=bulk_len spare;simp only [Rows.uptoBulk];omega
theorem bulk_string {H:Type} (s:ByteArray):s.size≤Rows.uptoBulk (DataW.lit (H:=H) (.string s.data.toList)):=by
 have e:s.data.toList.length=s.size:=(by rw [Array.length_toList];rfl);simp only [Rows.uptoBulk];omega
theorem bulk_bound {H:Type} {l:List (DataW H)} (hk:Rows.uptoSmall H l=true):Rows.uptoBulkAll l≤1048576:=of_decide_eq_true hk
end Go.Proofs.YtapechjebkjidaaGreatDoor
namespace Go.Proofs.YtapechjebkjidaaGreatDoor
open Go.RowKit Go.ChangeShapes Go.WideShapes Go.ChangeAt Go.Shelf
open Go.ChangeMaps (open_string shut_string)
theorem qK (os:Os) {H:Type} (enc:TypeId × Value→H) :
    (OpenSpec.ofChange Rows.shelfSqueezeSpec).preRow enc Tryz.prog Tryz.f8 Rows.shelfSqueezeRow.domain false Rows.shelfSqueezeRow.laid ((cy os).forCall (fun _ _=>0) ⟨#[],#[.string ⟨#[]⟩],[]⟩).memory #[.string ⟨#[]⟩]:=by
 have hw:(DataW.whole enc Tryz.prog ((cy os).forCall (fun _ _=>0) ⟨#[],#[.string ⟨#[]⟩],[]⟩).memory Tryz.f8.params.toList Rows.shelfSqueezeSpec.vars false #[.string ⟨#[]⟩].toList 8).map (fun x=>(x.1,x.2.1)) =
     some ([.lit (.string [])],[]):=by kernel_rfl
 obtain⟨⟨x1,x2,x3⟩,hx,hx1⟩:=Option.map_eq_some_iff.1 hw;simp only [Prod.mk.injEq]at hx1;obtain⟨rfl,rfl⟩:=hx1;exact OpenSpec.preRow_of_cond 8 hx (by kernel_rfl) (fun k hk=>by cases hk) (by kernel_rfl) (mz os _)
theorem pR (os:Os) (started:os.Started) (H:Type) (enc:TypeId × Value→H) (F:Stop.Interp) :
    ReturnsInHanded {} Tryz.checked os 8 .any ((OpenSpec.ofChange Rows.shelfSqueezeSpec).preRow enc Tryz.prog Tryz.f8 Rows.shelfSqueezeRow.domain false Rows.shelfSqueezeRow.laid) (((OpenSpec.ofChange Rows.shelfSqueezeSpec).at F).post enc Tryz.prog Tryz.f8 false true false false):=by
 refine returnsInHanded_of_row (C:=Tryz.checked) (s:=(OpenSpec.ofChange Rows.shelfSqueezeSpec)) mF started (by kernel_rfl) Tryz.func8
   (witness_row_atRef (enc:=enc) (C:=Tryz.checked) false (cy os) #[.string ⟨#[]⟩] rfl (by kernel_rfl) (by kernel_rfl) (by kernel_rfl) (qK os enc)) ?_
 intro W base args ds gs before hval hW _ _ _ _ _ _;have Ny:=hW;obtain⟨p,q,CS,hV,rfl,hfz,hnd⟩:=hW;have hA:DataW.TrodAll enc Tryz.prog W 0 (fun _=>true) true Tryz.f8.params.toList args.toList ds p:=CS;have ng:∀ (j:Nat) t v,Tryz.f8.params[j]? = some t→args[j]? = some v→Value.okWide Tryz.prog W .any base t v:=hval;rw [Tryz.params8]at hA ng;obtain⟨v0,d0,rfl,rfl,h0⟩:=trodAll_one hA;obtain⟨rfl,rfl⟩:=trodVars_none hV;obtain⟨s0,rfl,rfl,rfl,hs0⟩:=open_string Tryz.underlying9 (ng 0 _ v0 rfl rfl) h0;refine(yZ s0 W).mono fun e W' ⟨he,hb⟩=>⟨_,he,?_⟩;exact kV Tryz.underlying4 rfl rfl mQ (by kernel_rfl) Ny rfl hb
theorem rA:Rows.ShelfSqueezeSaid :=
  OpenClaim.holds_of_cond 8 Tryz.f8 rfl rfl rfl rfl rfl rfl rfl ⟨rfl,rfl,rfl,rfl,rfl⟩ rfl rfl rfl rfl rfl (by kernel_rfl) Tryz.func8 shelfsqueeze_joined
    (of_decide_eq_true (by kernel_rfl)) (by unfold Func.isWrapper;first | (rw [if_pos (by decide +kernel)];kernel_rfl) | (rw [if_neg (by decide +kernel)];exact⟨rfl,rfl⟩))
    (fun os started H enc _ F=>by rw [OpenClaim.pre_eq_preRow];exact pR os started H enc F)
theorem qW (f:FuncId) (fn:Func) (hf : Tryz.pinned.checked.prog.funcNamed "scriptshift/scriptlaw16.ShelfSqueeze" = some f) (hfn : Tryz.pinned.checked.prog.funcs[f]? = some fn) :
    true = Tryz.pinned.checked.prog.looks []∧∀ (j:Nat) t,fn.params[j]? = some t → Tryz.pinned.checked.prog.wantsStandIn t=false:=by
 obtain rfl:f = 8:=Option.some.inj ((show Tryz.prog.funcNamed "scriptshift/scriptlaw16.ShelfSqueeze" = some 8 by kernel_rfl).symm.trans hf) |>.symm;obtain rfl:fn = Tryz.f8:=(Option.some.inj (Tryz.func8.symm.trans hfn)).symm;refine⟨by kernel_rfl,fun j t ht=>?_⟩;have h:(Tryz.f8.params.toList.all fun t=>!Tryz.prog.wantsStandIn t)=true:=(by kernel_rfl);have h2:=List.all_eq_true.1 h t (by simpa using Array.mem_of_getElem? ht);have h3 : Tryz.prog.wantsStandIn t=false:=(by simpa using h2);exact h3
/-- THE CARD. -/
theorem shelfsqueeze_card:Rows.ShelfSqueezeCardSaid :=
  Claim7.holds_tied_plain_at .later [] _ _ _ _ rA (fun _ h=>by cases h) (by kernel_rfl) (fun _ h=>by cases h) shelfSqueeze_row_tie rfl ⟨rfl,rfl⟩ (by kernel_rfl) rfl qW (by kernel_rfl)
end Go.Proofs.YtapechjebkjidaaGreatDoor
