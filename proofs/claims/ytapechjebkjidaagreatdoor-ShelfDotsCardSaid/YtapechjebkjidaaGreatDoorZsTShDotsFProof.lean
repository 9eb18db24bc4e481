/- ShelfDots: dots takes a blank away that stands just ahead of a sign. Condition: Go's own variables are as their text lays them. -/
import Derived.Test.YtapechjebkjidaaGreatDoorCards
import Derived.Test.YtapechjebkjidaaGreatDoorRows
import Derived.Test.YtapechjebkjidaaGreatDoorShDotsJ
import Derived.Test.YtapechjebkjidaaGreatDoorTie
import Derived.Test.YtapechjebkjidaaGreatDoorZs20
import Derived.Test.YtapechjebkjidaaGreatDoorZs3
import Derived.Test.YtapechjebkjidaaGreatDoorZs32
import Derived.Test.YtapechjebkjidaaGreatDoorZs45
set_option maxHeartbeats 3200000
set_option maxRecDepth 100000
namespace Go.Proofs.YtapechjebkjidaaGreatDoor
open Go.RowKit
/-! ### dots -/
def ER:af:=[(33,33),(44,44),(46,46),(58,59),(63,63)]
def Dk:List au:=[⟨false,false,[],[[(32,32)]],[ER],[],0⟩]
def QY (x:Int):Bool:=decide (x=46) || decide (x=33) || decide (x=63) || decide (x=44) || decide (x=59) || decide (x=58)
def nC:List Int→Bool
  | y::_=>QY y
  | []=>false
def fe:List Int→List Int
  | []=>[]
  | x::t=>(if x=32∧nC t=true then []else [x])++fe t
theorem eY (x:Int) (t:List Int):fe (x::t)=(if x=32∧nC t=true then []else [x])++fe t:=rfl
theorem Mk (x:Int):bk ER x=QY x:=by
 unfold bk ER QY;simp only [List.any_cons,List.any_nil,Bool.or_false];rw [Bool.eq_iff_iff];simp;omega
theorem Nq:∀ (f:Nat) (Z A:List Int),Z.length≤f→cP Dk f A Z=A++fe Z:=by
 intro f;induction f with
 | zero=>intro Z A h;cases Z with | nil=>simp [cP,fe] | cons z Z=>simp at h
 | succ f ih=>
  intro Z A h;cases Z with
  | nil=>simp [cP,fe]
  | cons z Z=>
   simp only [List.length_cons]at h;have hh:bU ⟨false,false,[],[[(32,32)]],[ER],[],0⟩ (A++z::Z) A.length=(decide (z=32) && nC Z):=by
    rw [lK];simp only [List.length_nil,List.length_singleton,Nat.zero_le,decide_true,bJ,oc,Bool.and_true,Bool.false_and,Bool.not_false,List.drop_one,List.tail_cons];congr 1;cases Z with
    | nil=>rfl
    | cons y t=>simp only [bJ,Mk,Bool.and_true,nC]
   rw [eY];by_cases hz:z=32∧nC Z=true
   ·rw [iC (r:=⟨false,false,[],[[(32,32)]],[ER],[],0⟩) (by rw [Dk,List.find?_cons,hh,hz.2,decide_eq_true hz.1];rfl) rfl,if_pos hz];simp only [List.append_nil,List.nil_append];exact ih _ _ (by simp;omega)
   have hf:(decide (z=32) && nC Z)=false:=by
    rw [Bool.eq_false_iff];intro e;rw [Bool.and_eq_true,decide_eq_true_eq]at e;exact hz e
   rw [ny (by rw [Dk,List.find?_cons,hh,hf];rfl),if_neg hz,ih _ _ (by omega)];simp
end Go.Proofs.YtapechjebkjidaaGreatDoor
namespace Go.Proofs.YtapechjebkjidaaGreatDoor
open Go.RowKit Go.Shelf
def NJ:ByteArray:=⟨#[100,111,116,115]⟩
theorem JD:mc NJ 5 (ji Dk):=⟨by decide,by kernel_rfl,by kernel_rfl,by kernel_rfl,by kernel_rfl,by kernel_rfl,by kernel_rfl⟩
theorem FZ:nE Dk 1:=⟨by unfold zc;decide,by decide,by decide,by kernel_rfl,by kernel_rfl,by kernel_rfl,by kernel_rfl⟩
theorem J1 (s:ByteArray) (hs:(ay s 0).length≤1000) (nN:s.size≤100000) (w:World):Calls Tryz.prog 30 #[.string NJ,.bool false,.string s] w (iq w (fe (ay s 0))) :=
  iE JD FZ s hs nN _ (fun f h=>by rw [Nq f _ [] h];rfl) w
def PL (w:World) (n:Nat) (L:List Int) (want i:Value) (wr:World):Prop:=∃ (j:Nat) (acc:List Int),j≤n∧i=.int .i64 j∧want=.string (pz acc)∧acc++fe (L.drop j)=fe L∧acc.length≤j∧Below w.heap.size w wr
theorem G7 (s:ByteArray) (w:World):Calls Tryz.prog 11 #[.string s] w fun e w'=>e=.returned (.bool true)∧Below w.heap.size w w':=by
 by_cases hs:s.size≤1000
 ·have FQ:=cZ s;have HR:=Lib.hid (fun(k:Nat) (r:Int) (h:(ay s 0)[k]? = some r)=>kT h);have LD:=Lib.hid (fA s);have GN:=Lib.hid (jj s w (by omega));have NW:=Lib.hid (fun(W:World)=>iM NJ s _ (fun W=>J1 s (by omega) (by omega) W) W);have nO:=Lib.hid (fu s w);rw [decide_eq_true (show(s.size:Int)≤1000 by omega)]at nO;have OI:(ay s 0).length≤1000:=(by omega);generalize ay s 0=L at *;clear hs FQ;go_enter Tryz.func11,Tryz.ntmps11;go_wp2_with fail;refine nO.out.mono ?_;rintro e w0 ⟨rfl,rfl⟩;go_wp2_with fail;refine GN.out.mono ?_;rintro e w1 ⟨⟨v,rfl,ho⟩,aT⟩;obtain⟨n,hn⟩:∃ n,L.length=n:=⟨_,rfl⟩;unfold gN at ho;rw [hn]at ho;obtain⟨A,cp,rfl,_⟩:=aH ho;have HL:=Lib.hid (Rd.cj ho);have bT:=Lib.hid aT;clear ho aT;have HN:=Lib.hid hn;have PE:n≤1000:=(by omega);clear hn OI;go_wp2_with fail;go_loopw [4,14] (PL w1 n L) (fun _ i _=>n - (intOf i).toNat);(case atStart=>exact⟨0,[],Nat.zero_le _,rfl,rfl,rfl,Nat.le_refl _,Below.refl _ _⟩);obtain⟨j,acc,hj,rfl,rfl,hF,hacc,hb⟩:=hrel;by_cases hlt:j<n
  ·obtain⟨r,hr⟩:∃ r,L[j]? = some r:=⟨_,List.getElem?_eq_getElem (by rw [HN.out];exact hlt)⟩;obtain⟨b,off,rfl,dL,hcells⟩:=HL.out.2 (by omega);have d0:wr.cell? ⟨b,off+j,none⟩=some (.int .i32 r):=(hb.cell (p:=⟨b,off+j,none⟩) dL).trans (hcells j _ (by rw [bC,hr];rfl));have rE:=HR.out j r hr;have HB:=Lib.hid hb;have HA:=Lib.hid hacc;have hsz:=bN acc;rw [drop_cons hr]at hF;have hwp:IntKind.i64.wrap ((j:Int)+1)=((j+1:Nat):Int):=(by rw [wrap_small _ (by omega) (by omega)];omega);by_cases h1:¬ r=32
   ·have q0:(r == 32)=false:=(by rw [beq_eq_false_iff_ne];exact h1);have hS:fe (r::L.drop (j+1)) = [r]++fe (L.drop (j+1)):=(by rw [eY,if_neg (fun e=>h1 e.1)]);rw [hS]at hF;have HF:=Lib.hid hF;have HC:=Lib.hid (fun(W:World)=>de r rE W);have vc:=bN [r];have pM : [r].length=1:=rfl;clear hcells hb hF hS;go_wp2_with fail;refine(HC.out _).mono ?_;rintro e w2 ⟨rfl,aL⟩;have aW:=Lib.hid (HB.out.trans (aL.mono HB.out.size));clear aL;go_wp2_with fail;exact⟨⟨j+1,acc++[r],by omega,by go_num,by rw [ee],by rw [← HF.out,List.append_assoc],by rw [List.length_append];simp;have:=HA.out;omega,aW.out⟩,by simp [intOf];omega⟩
   obtain rfl:r=32:=Decidable.not_not.1 h1;by_cases h2:¬ j+1<n
   ·have q1:decide (((j+1:Nat):Int)<(n:Int))=false:=decide_eq_false (by omega);have hd:L.drop (j+1) = []:=List.drop_eq_nil_of_le (by rw [HN.out];omega);have hS:fe (32::L.drop (j+1)) = [32]++fe (L.drop (j+1)):=(by rw [eY,if_neg (by rintro⟨_,e⟩;rw [hd]at e;cases e)]);rw [hS]at hF;have HF:=Lib.hid hF;have HC:=Lib.hid (fun(W:World)=>de 32 (by decide) W);have vc:=bN [32];have pM : [32].length=1:=rfl;clear hcells hb hF hS hd;go_wp2_with fail;refine(HC.out _).mono ?_;rintro e w2 ⟨rfl,aL⟩;have aW:=Lib.hid (HB.out.trans (aL.mono HB.out.size));clear aL;go_wp2_with fail;exact⟨⟨j+1,acc++[32],by omega,by go_num,by rw [ee],by rw [← HF.out,List.append_assoc],by rw [List.length_append];simp;have:=HA.out;omega,aW.out⟩,by simp [intOf];omega⟩
   have q1:decide (((j+1:Nat):Int)<(n:Int))=true:=decide_eq_true (by omega);obtain⟨y,hy⟩:∃ y,L[j+1]? = some y:=⟨_,List.getElem?_eq_getElem (by rw [HN.out];omega)⟩;have d1:wr.cell? ⟨b,off+(j+1),none⟩=some (.int .i32 y):=(HB.out.cell (p:=⟨b,off+(j+1),none⟩) dL).trans (hcells (j+1) _ (by rw [bC,hy];rfl));have hk0:(0:Int)≤((j+1:Nat):Int):=(by omega);have hk1:((j+1:Nat):Int)<(n:Int):=(by omega);have hd:=drop_cons hy;by_cases e46:y=46
   ·subst e46;have hS:fe (32::L.drop (j+1))=fe (L.drop (j+1)):=(by rw [eY,if_pos ⟨rfl,by rw [hd];rfl⟩];rfl);rw [hS]at hF;have HF:=Lib.hid hF;clear hcells hb hF hS hd hy;go_wp2_with fail;exact⟨⟨j+1,acc,by omega,by go_num,rfl,HF.out,by have:=HA.out;omega,HB.out⟩,by simp [intOf];omega⟩
   have z46:(y == 46)=false:=(by rw [beq_eq_false_iff_ne];exact e46);by_cases ZR:y=33
   ·subst ZR;have hS:fe (32::L.drop (j+1))=fe (L.drop (j+1)):=(by rw [eY,if_pos ⟨rfl,by rw [hd];rfl⟩];rfl);rw [hS]at hF;have HF:=Lib.hid hF;clear hcells hb hF hS hd hy;go_wp2_with fail;exact⟨⟨j+1,acc,by omega,by go_num,rfl,HF.out,by have:=HA.out;omega,HB.out⟩,by simp [intOf];omega⟩
   have z33:(y == 33)=false:=(by rw [beq_eq_false_iff_ne];exact ZR);by_cases e63:y=63
   ·subst e63;have hS:fe (32::L.drop (j+1))=fe (L.drop (j+1)):=(by rw [eY,if_pos ⟨rfl,by rw [hd];rfl⟩];rfl);rw [hS]at hF;have HF:=Lib.hid hF;clear hcells hb hF hS hd hy;go_wp2_with fail;exact⟨⟨j+1,acc,by omega,by go_num,rfl,HF.out,by have:=HA.out;omega,HB.out⟩,by simp [intOf];omega⟩
   have z63:(y == 63)=false:=(by rw [beq_eq_false_iff_ne];exact e63);by_cases e44:y=44
   ·subst e44;have hS:fe (32::L.drop (j+1))=fe (L.drop (j+1)):=(by rw [eY,if_pos ⟨rfl,by rw [hd];rfl⟩];rfl);rw [hS]at hF;have HF:=Lib.hid hF;clear hcells hb hF hS hd hy;go_wp2_with fail;exact⟨⟨j+1,acc,by omega,by go_num,rfl,HF.out,by have:=HA.out;omega,HB.out⟩,by simp [intOf];omega⟩
   have z44:(y == 44)=false:=(by rw [beq_eq_false_iff_ne];exact e44);by_cases e59:y=59
   ·subst e59;have hS:fe (32::L.drop (j+1))=fe (L.drop (j+1)):=(by rw [eY,if_pos ⟨rfl,by rw [hd];rfl⟩];rfl);rw [hS]at hF;have HF:=Lib.hid hF;clear hcells hb hF hS hd hy;go_wp2_with fail;exact⟨⟨j+1,acc,by omega,by go_num,rfl,HF.out,by have:=HA.out;omega,HB.out⟩,by simp [intOf];omega⟩
   have z59:(y == 59)=false:=(by rw [beq_eq_false_iff_ne];exact e59);by_cases e58:y=58
   ·subst e58;have hS:fe (32::L.drop (j+1))=fe (L.drop (j+1)):=(by rw [eY,if_pos ⟨rfl,by rw [hd];rfl⟩];rfl);rw [hS]at hF;have HF:=Lib.hid hF;clear hcells hb hF hS hd hy;go_wp2_with fail;exact⟨⟨j+1,acc,by omega,by go_num,rfl,HF.out,by have:=HA.out;omega,HB.out⟩,by simp [intOf];omega⟩
   have z58:(y == 58)=false:=(by rw [beq_eq_false_iff_ne];exact e58);have hS:fe (32::L.drop (j+1)) = [32]++fe (L.drop (j+1)):=(by rw [eY,if_neg (by rintro⟨_,e⟩;rw [hd]at e;simp [nC,QY,e46,ZR,e63,e44,e59,e58]at e)]);rw [hS]at hF;have HF:=Lib.hid hF;have HC:=Lib.hid (fun(W:World)=>de 32 (by decide) W);have vc:=bN [32];have pM : [32].length=1:=rfl;clear hcells hb hF hS hd hy;go_wp2_with fail;refine(HC.out _).mono ?_;rintro e w2 ⟨rfl,aL⟩;have aW:=Lib.hid (HB.out.trans (aL.mono HB.out.size));clear aL;go_wp2_with fail;exact⟨⟨j+1,acc++[32],by omega,by go_num,by rw [ee],by rw [← HF.out,List.append_assoc],by rw [List.length_append];simp;have:=HA.out;omega,aW.out⟩,by simp [intOf];omega⟩
  obtain rfl:j=n:=(by omega);have HB:=Lib.hid hb;rw [List.drop_eq_nil_of_le (by rw [HN.out];exact Nat.le_refl _)]at hF;rw [fe,List.append_nil]at hF;subst hF;clear hb;go_wp2_with fail;refine(NW.out wr).mono ?_;rintro e w2 ⟨rfl,aL⟩;have aW:=Lib.hid (bT.out.trans ((HB.out.trans (aL.mono HB.out.size)).mono bT.out.size));clear aL;go_wp2_with fail;go_ret;exact⟨rfl,aW.out⟩
 have nO:=Lib.hid (fu s w);rw [decide_eq_false (show ¬(s.size:Int)≤1000 by omega)]at nO;clear hs;go_enter Tryz.func11,Tryz.ntmps11;go_wp2_with fail;refine nO.out.mono ?_;rintro e w0 ⟨rfl,rfl⟩;go_wp2_with fail;go_ret;exact⟨rfl,Below.refl _ _⟩
end Go.Proofs.YtapechjebkjidaaGreatDoor
namespace Go.Proofs.YtapechjebkjidaaGreatDoor
theorem bulk_one {H:Type} (d:DataW H):1≤Rows.uptoBulk d:=by
 cases d with
 | lit l=>cases l <;> simp [Rows.uptoBulk]
 | nil=>simp [Rows.uptoBulk]
 | ptr d=>simp [Rows.uptoBulk]
 | slice elems spare=>simp [Rows.uptoBulk]
 | agg parts=>simp [Rows.uptoBulk]
 | iface t d=>simp [Rows.uptoBulk]
 | map entries=>simp [Rows.uptoBulk]
 | held h=>simp [Rows.uptoBulk]
theorem bulk_len {H:Type} (l:List (DataW H)):l.length≤Rows.uptoBulkAll l:=by
 induction l with
 | nil=>simp
 | cons x r ih=>have:=bulk_one x;simp only [Rows.uptoBulkAll,List.length_cons];omega
theorem bulk_slice {H:Type} {d:DataW H} {c:Nat} (h:(d=.nil∧c=0)∨∃ elems spare,d=.slice elems spare∧elems.length+spare.length=c):c≤Rows.uptoBulk d:=by
 rcases h with ⟨_,rfl⟩ | ⟨elems,spare,rfl,rfl⟩;exact Nat.zero_le _;have h1:=bulk_len elems;have h2:=bulk_len spare;simp only [Rows.uptoBulk];omega
theorem bulk_string {H:Type} (s:ByteArray):s.size≤Rows.uptoBulk (DataW.lit (H:=H) (.string s.data.toList)):=by
 have e:s.data.toList.length=s.size:=(by rw [Array.length_toList];rfl);simp only [Rows.uptoBulk];omega
theorem bulk_bound {H:Type} {l:List (DataW H)} (hk:Rows.uptoSmall H l=true):Rows.uptoBulkAll l≤1048576:=of_decide_eq_true hk
end Go.Proofs.YtapechjebkjidaaGreatDoor
namespace Go.Proofs.YtapechjebkjidaaGreatDoor
open Go.RowKit Go.ChangeShapes Go.WideShapes Go.ChangeAt Go.Shelf
open Go.ChangeMaps (open_string shut_string)
theorem u7 (os:Os) {H:Type} (enc:TypeId × Value→H) :
    (OpenSpec.ofChange Rows.shelfDotsSpec).preRow enc Tryz.prog Tryz.f11 Rows.shelfDotsRow.domain false Rows.shelfDotsRow.laid ((cy os).forCall (fun _ _=>0) ⟨#[],#[.string ⟨#[]⟩],[]⟩).memory #[.string ⟨#[]⟩]:=by
 have hw:(DataW.whole enc Tryz.prog ((cy os).forCall (fun _ _=>0) ⟨#[],#[.string ⟨#[]⟩],[]⟩).memory Tryz.f11.params.toList Rows.shelfDotsSpec.vars false #[.string ⟨#[]⟩].toList 8).map (fun x=>(x.1,x.2.1)) =
     some ([.lit (.string [])],[]):=by kernel_rfl
 obtain⟨⟨x1,x2,x3⟩,hx,hx1⟩:=Option.map_eq_some_iff.1 hw;simp only [Prod.mk.injEq]at hx1;obtain⟨rfl,rfl⟩:=hx1;exact OpenSpec.preRow_of_cond 8 hx (by kernel_rfl) (fun k hk=>by cases hk) (by kernel_rfl) (mz os _)
theorem tQ (os:Os) (started:os.Started) (H:Type) (enc:TypeId × Value→H) (F:Stop.Interp) :
    ReturnsInHanded {} Tryz.checked os 11 .any ((OpenSpec.ofChange Rows.shelfDotsSpec).preRow enc Tryz.prog Tryz.f11 Rows.shelfDotsRow.domain false Rows.shelfDotsRow.laid) (((OpenSpec.ofChange Rows.shelfDotsSpec).at F).post enc Tryz.prog Tryz.f11 false true false false):=by
 refine returnsInHanded_of_row (C:=Tryz.checked) (s:=(OpenSpec.ofChange Rows.shelfDotsSpec)) mF started (by kernel_rfl) Tryz.func11
   (witness_row_atRef (enc:=enc) (C:=Tryz.checked) false (cy os) #[.string ⟨#[]⟩] rfl (by kernel_rfl) (by kernel_rfl) (by kernel_rfl) (u7 os enc)) ?_
 intro W base args ds gs before hval hW _ _ _ _ _ _;have Ny:=hW;obtain⟨p,q,CS,hV,rfl,hfz,hnd⟩:=hW;have hA:DataW.TrodAll enc Tryz.prog W 0 (fun _=>true) true Tryz.f11.params.toList args.toList ds p:=CS;have ng:∀ (j:Nat) t v,Tryz.f11.params[j]? = some t→args[j]? = some v→Value.okWide Tryz.prog W .any base t v:=hval;rw [Tryz.params11]at hA ng;obtain⟨v0,d0,rfl,rfl,h0⟩:=trodAll_one hA;obtain⟨rfl,rfl⟩:=trodVars_none hV;obtain⟨s0,rfl,rfl,rfl,hs0⟩:=open_string Tryz.underlying9 (ng 0 _ v0 rfl rfl) h0;refine(G7 s0 W).mono fun e W' ⟨he,hb⟩=>⟨_,he,?_⟩;exact kV Tryz.underlying4 rfl rfl mQ (by kernel_rfl) Ny rfl hb
theorem ye:Rows.ShelfDotsSaid :=
  OpenClaim.holds_of_cond 11 Tryz.f11 rfl rfl rfl rfl rfl rfl rfl ⟨rfl,rfl,rfl,rfl,rfl⟩ rfl rfl rfl rfl rfl (by kernel_rfl) Tryz.func11 shelfdots_joined
    (of_decide_eq_true (by kernel_rfl)) (by unfold Func.isWrapper;first | (rw [if_pos (by decide +kernel)];kernel_rfl) | (rw [if_neg (by decide +kernel)];exact⟨rfl,rfl⟩))
    (fun os started H enc _ F=>by rw [OpenClaim.pre_eq_preRow];exact tQ os started H enc F)
theorem vK (f:FuncId) (fn:Func) (hf : Tryz.pinned.checked.prog.funcNamed "scriptshift/scriptlaw16.ShelfDots" = some f) (hfn : Tryz.pinned.checked.prog.funcs[f]? = some fn) :
    true = Tryz.pinned.checked.prog.looks []∧∀ (j:Nat) t,fn.params[j]? = some t → Tryz.pinned.checked.prog.wantsStandIn t=false:=by
 obtain rfl:f = 11:=Option.some.inj ((show Tryz.prog.funcNamed "scriptshift/scriptlaw16.ShelfDots" = some 11 by kernel_rfl).symm.trans hf) |>.symm;obtain rfl:fn = Tryz.f11:=(Option.some.inj (Tryz.func11.symm.trans hfn)).symm;refine⟨by kernel_rfl,fun j t ht=>?_⟩;have h:(Tryz.f11.params.toList.all fun t=>!Tryz.prog.wantsStandIn t)=true:=(by kernel_rfl);have h2:=List.all_eq_true.1 h t (by simpa using Array.mem_of_getElem? ht);have h3 : Tryz.prog.wantsStandIn t=false:=(by simpa using h2);exact h3
/-- THE CARD. -/
theorem shelfdots_card:Rows.ShelfDotsCardSaid :=
  Claim7.holds_tied_plain_at .later [] _ _ _ _ ye (fun _ h=>by cases h) (by kernel_rfl) (fun _ h=>by cases h) shelfDots_row_tie rfl ⟨rfl,rfl⟩ (by kernel_rfl) rfl vK (by kernel_rfl)
end Go.Proofs.YtapechjebkjidaaGreatDoor
