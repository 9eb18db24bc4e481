/- ShelfTelex: telex writes letters of Vietnamese for two that are typed. Conditions: what the law reads is of bulk at most 1048576 (the statement of the second form); Go's own variables are as their text lays them. -/
import Derived.Deep.CutBlock
import Derived.Deep.DeepCutAuto
import Derived.Test.YtapechjebkjidaaGreatDoorCards
import Derived.Test.YtapechjebkjidaaGreatDoorRows
import Derived.Test.YtapechjebkjidaaGreatDoorShTelexJ
import Derived.Test.YtapechjebkjidaaGreatDoorTie
import Derived.Test.YtapechjebkjidaaGreatDoorZs20
import Derived.Test.YtapechjebkjidaaGreatDoorZs3
import Derived.Test.YtapechjebkjidaaGreatDoorZs32
import Derived.Test.YtapechjebkjidaaGreatDoorZs45
import Derived.Test.YtapechjebkjidaaGreatDoorZs5
set_option maxHeartbeats 6400000
set_option maxRecDepth 100000
namespace Go.Proofs.YtapechjebkjidaaGreatDoor
open Go.RowKit
/-! ### tables: some runes for some -/
def manyR (p:List Int × List Int):au:=⟨false,false,[],p.1.map (fun a=>[(a,a)]),[],p.2,p.2.length⟩
def scanT {α:Type} [BEq α] (tbl:List (List α × List α)):Nat→List α→List α
  | 0,_=>[]
  | _+1,[]=>[]
  | f+1,z::Z=>match tbl.find? (fun p=>p.1.isPrefixOf (z::Z))with
    | none=>z::scanT tbl f Z
    | some p=>p.2++scanT tbl f ((z::Z).drop p.1.length)
theorem scanT_nil {α:Type} [BEq α] (tbl:List (List α × List α)) (f:Nat):scanT tbl f [] = []:=by cases f <;> rfl
theorem many_has:∀ (p Z:List Int),bJ (p.map (fun a=>[(a,a)])) Z=p.isPrefixOf Z:=by
 intro p;induction p with
 | nil=>intro Z;cases Z <;> rfl
 | cons a p ih=>
  intro Z;cases Z with
  | nil=>rfl
  | cons z Z=>
   rw [List.map_cons,bJ,ih,oc,List.isPrefixOf];congr 1;rw [Bool.eq_iff_iff];simp;exact eq_comm
theorem many_find (A Z:List Int):∀ tbl:List (List Int × List Int),(tbl.map manyR).find? (fun r=>bU r (A++Z) A.length)=(tbl.find? (fun p=>p.1.isPrefixOf Z)).map manyR:=by
 intro tbl;induction tbl with
 | nil=>rfl
 | cons p tbl ih=>
  rw [List.map_cons,List.find?_cons,List.find?_cons,Hg (by exact⟨rfl,rfl,rfl,rfl,rfl⟩),ih];rw [show(manyR p).source=p.1.map (fun a=>[(a,a)]) from rfl,many_has];cases p.1.isPrefixOf Z <;> rfl
theorem scan_table (tbl:List (List Int × List Int)) (hne:∀ p∈tbl,p.1 ≠ []):∀ (f:Nat) (Z A:List Int),Z.length≤f→cP (tbl.map manyR) f A Z=A++scanT tbl f Z:=by
 intro f;induction f with
 | zero=>intro Z A h;cases Z with | nil=>simp [cP,scanT] | cons z Z=>simp at h
 | succ f ih=>
  intro Z A h;cases Z with
  | nil=>simp [cP,scanT]
  | cons z Z=>
   simp only [List.length_cons]at h;rw [cP,many_find,scanT];cases hf:tbl.find? (fun p=>p.1.isPrefixOf (z::Z))with
   | none=>simp only [Option.map_none];rw [ih _ _ (by omega)];simp
   | some p=>
    have hp:=hne p (List.mem_of_find?_eq_some hf);have hl:(manyR p).source.length=p.1.length:=(by simp [manyR]);have h1:1≤p.1.length:=(by cases hp1:p.1 with | nil=>exact absurd hp1 hp | cons a t=>simp);simp only [Option.map_some];rw [show(manyR p).target=p.2 from rfl,show(manyR p).aa.toNat=p.2.length from rfl,List.take_left,List.drop_left,hl,ih _ _ (by simp;omega),List.append_assoc]
theorem many_goes (tbl:List (List Int × List Int)) (K:Nat) (hl:∀ p∈tbl,p.2.length≤K∧p.1 ≠ []) (_hK:1≤K):∀ r∈tbl.map manyR,zc K r:=by
 intro r hr;obtain⟨p,hp,rfl⟩:=List.mem_map.1 hr;obtain⟨h1,h2⟩:=hl p hp;have h3:1≤p.1.length:=(by cases hp1:p.1 with | nil=>exact absurd hp1 h2 | cons a t=>simp);have h4:K≤K*p.1.length:=Nat.le_mul_of_pos_right K h3;refine⟨?_,?_,?_,?_⟩ <;> simp [manyR] <;> omega
/-- A scan for words of low bytes is, over a text's bytes, what it is over its runes. -/
theorem scan_bytes (enc:Int→List UInt8) (low:∀ r:Int,0≤r→r<128→enc r = [r.toNat.toUInt8]) (high:∀ r:Int,128≤r→enc r ≠ []∧∀ b∈enc r,128≤b.toNat)
    (tbl:List (List Int × List Int)) (hne:∀ p∈tbl,p.1 ≠ []∧∀ a∈p.1,0≤a∧a<128) :
    ∀ (f:Nat) (R:List Int),(∀ r∈R,0≤r)→∀ g:Nat,(R.flatMap enc).length≤f→R.length≤g →
      scanT (tbl.map fun p=>(p.1.flatMap enc,p.2.flatMap enc)) f (R.flatMap enc)=(scanT tbl g R).flatMap enc:=by
  have pre:∀ (p:List Int),(∀ a∈p,0≤a∧a<128)→∀ R:List Int,(∀ r∈R,0≤r)→(p.flatMap enc).isPrefixOf (R.flatMap enc)=p.isPrefixOf R:=by
    intro p
    induction p with
    | nil=>intro _ R _;simp
    | cons a p ih=>
      intro hp R hR
      have ha:=hp a List.mem_cons_self
      rw [List.flatMap_cons,low a ha.1 ha.2,List.singleton_append]
      cases R with
      | nil=>rfl
      | cons r R=>
        have hr:=hR r List.mem_cons_self
        rw [List.flatMap_cons]
        by_cases h:r<128
        · rw [low r hr h,List.singleton_append,List.isPrefixOf,List.isPrefixOf,ih (fun x hx=>hp x (List.mem_cons_of_mem _ hx)) R (fun x hx=>hR x (List.mem_cons_of_mem _ hx))]
          congr 1
          rw [Bool.eq_iff_iff]
          simp only [beq_iff_eq]
          constructor
          · intro e
            have e2:=congrArg UInt8.toNat e
            simp at e2
            omega
          · intro e;rw [e]
        · obtain⟨h1,h2⟩:=high r (by omega)
          cases he:enc r with
          | nil=>exact absurd he h1
          | cons b t=>
            rw [he]at h2
            have hb:=h2 b List.mem_cons_self
            rw [List.cons_append,List.isPrefixOf,List.isPrefixOf]
            have e1:(a.toNat.toUInt8 == b)=false:=by
              rw [beq_eq_false_iff_ne]
              intro e
              have e2:=congrArg UInt8.toNat e
              simp at e2
              omega
            have e2:(a == r)=false:=by rw [beq_eq_false_iff_ne];omega
            rw [e1,e2,Bool.false_and,Bool.false_and]
  have fnd:∀ (R:List Int),(∀ r∈R,0≤r)→∀ t:List (List Int × List Int),(∀ p∈t,p.1 ≠ []∧∀ a∈p.1,0≤a∧a<128)→(t.map fun p=>(p.1.flatMap enc,p.2.flatMap enc)).find? (fun p=>p.1.isPrefixOf (R.flatMap enc))=(t.find? (fun p=>p.1.isPrefixOf R)).map fun p=>(p.1.flatMap enc,p.2.flatMap enc):=by
    intro R hR t
    induction t with
    | nil=>intro _;rfl
    | cons p t ih=>
      intro ht
      rw [List.map_cons,List.find?_cons,List.find?_cons,pre p.1 (ht p List.mem_cons_self).2 R hR,ih (fun x hx=>ht x (List.mem_cons_of_mem _ hx))]
      cases p.1.isPrefixOf R <;> rfl
  -- a byte that is not low is copied
  have cpy:∀ (t:List UInt8),(∀ b∈t,128≤b.toNat)→∀ (f:Nat) (Y:List UInt8),(t++Y).length≤f→scanT (tbl.map fun p=>(p.1.flatMap enc,p.2.flatMap enc)) f (t++Y)=t++scanT (tbl.map fun p=>(p.1.flatMap enc,p.2.flatMap enc)) (f - t.length) Y:=by
    intro t
    induction t with
    | nil=>intro _ f Y _;simp
    | cons b t ih=>
      intro ht f Y hf
      simp only [List.cons_append,List.length_cons]at hf ⊢
      obtain⟨f,rfl⟩:∃ f',f=f' + 1:=⟨f - 1,by omega⟩
      have hn:(tbl.map fun p=>(p.1.flatMap enc,p.2.flatMap enc)).find? (fun p=>p.1.isPrefixOf (b::(t++Y)))=none:=by
        rw [List.find?_eq_none]
        intro p hp
        obtain⟨q,hq,rfl⟩:=List.mem_map.1 hp
        obtain⟨h1,h2⟩:=hne q hq
        cases hq1:q.1 with
        | nil=>exact absurd hq1 h1
        | cons a u=>
          have ha:=h2 a (by rw [hq1];exact List.mem_cons_self)
          simp only
          rw [List.flatMap_cons,low a ha.1 ha.2,List.singleton_append,List.isPrefixOf]
          have hb:=ht b List.mem_cons_self
          have e1:(a.toNat.toUInt8 == b)=false:=by
            rw [beq_eq_false_iff_ne]
            intro e
            have e2:=congrArg UInt8.toNat e
            simp at e2
            omega
          rw [e1]
          simp
      rw [scanT,hn]
      simp only
      rw [ih (fun x hx=>ht x (List.mem_cons_of_mem _ hx)) f Y (by omega),show f+1 - (t.length+1)=f - t.length by omega]
  intro f R
  induction hn:R.length using Nat.strongRecOn generalizing f R with
  | _ n ih=>
    intro hR g hf hg
    subst hn
    cases R with
    | nil=>rw [List.flatMap_nil,scanT_nil,scanT_nil];rfl
    | cons r R=>
      have hr:=hR r List.mem_cons_self
      have Uu:∀ x∈R,0≤x:=fun x hx=>hR x (List.mem_cons_of_mem _ hx)
      simp only [List.length_cons]at hg
      obtain⟨g,rfl⟩:∃ g',g=g' + 1:=⟨g - 1,by omega⟩
      have Hv:=fnd (r::R) hR tbl hne
      rw [scanT.eq_3 (α:=Int)]
      cases hm:tbl.find? (fun p=>p.1.isPrefixOf (r::R))with
      | none=>
        simp only
        rw [List.flatMap_cons]at hf Hv ⊢
        by_cases h:r<128
        · rw [low r hr h,List.singleton_append]at hf Hv ⊢
          simp only [List.length_cons]at hf
          obtain⟨f,rfl⟩:∃ f',f=f' + 1:=⟨f - 1,by omega⟩
          rw [scanT,Hv,hm]
          simp only [Option.map_none]
          rw [ih R.length (by simp) f R rfl Uu g (by omega) (by omega),List.flatMap_cons,low r hr h,List.singleton_append]
        · obtain⟨h1,h2⟩:=high r (by omega)
          rw [cpy _ h2 f _ hf,List.flatMap_cons]
          rw [List.length_append]at hf
          rw [ih R.length (by simp) _ R rfl Uu g (by omega) (by omega)]
      | some p=>
        simp only
        obtain⟨h1,h2⟩:=hne p (List.mem_of_find?_eq_some hm)
        have hpre:p.1.isPrefixOf (r::R)=true:=by have:=List.find?_some hm;simpa using this
        obtain⟨S,hS⟩:=List.isPrefixOf_iff_prefix.1 hpre
        have hlen:(p.1.flatMap enc).length=p.1.length:=by
          have:∀ q:List Int,(∀ a∈q,0≤a∧a<128)→(q.flatMap enc).length=q.length:=by
            intro q
            induction q with
            | nil=>intro _;rfl
            | cons a q ihq=>
              intro hq
              have ha:=hq a List.mem_cons_self
              rw [List.flatMap_cons,low a ha.1 ha.2,List.length_append,ihq (fun x hx=>hq x (List.mem_cons_of_mem _ hx))]
              simp
              omega
          exact this p.1 h2
        have hp1:1≤p.1.length:=by cases hq:p.1 with | nil=>exact absurd hq h1 | cons a t=>simp
        rw [← hS]at hf Hv ⊢
        rw [List.drop_left]
        have hfl:1≤((p.1++S).flatMap enc).length:=by rw [List.flatMap_append,List.length_append,hlen];omega
        obtain⟨f,rfl⟩:∃ f',f=f' + 1:=⟨f - 1,by omega⟩
        cases hc:(p.1++S).flatMap enc with
        | nil=>rw [hc]at hfl;simp at hfl
        | cons z Z=>
          rw [hc]at Hv hf
          rw [scanT,Hv,hS,hm]
          simp only [Option.map_some]
          rw [← hc,List.flatMap_append]
          have hSl:S.length<(r::R).length:=by rw [← hS,List.length_append];omega
          have jR:(S.flatMap enc).length≤f:=by
            have:=congrArg List.length hc
            rw [List.flatMap_append,List.length_append,hlen]at this
            omega
          rw [List.drop_left]
          rw [ih S.length hSl f S rfl (fun x hx=>hR x (by rw [← hS];exact List.mem_append_right _ hx)) g jR (by simp only [List.length_cons]at hSl;omega),List.flatMap_append]
end Go.Proofs.YtapechjebkjidaaGreatDoor
namespace Go.Proofs.YtapechjebkjidaaGreatDoor
open Go.RowKit
abbrev Tbl:=List (List UInt8 × List UInt8)
def strB (l:List UInt8):ByteArray:=⟨l.toArray⟩
theorem strB_app (a b:List UInt8):strB a++strB b=strB (a++b):=(zV a b).symm
theorem strB_size (a:List UInt8):(strB a).size=a.length:=By a
theorem strB_of (s:ByteArray):strB s.data.toList=s:=by unfold strB;simp
def hitB (Z:List UInt8) (p:List UInt8 × List UInt8):Bool:=p.1.isPrefixOf Z
theorem scanT_fuel {α:Type} [BEq α] (tbl:List (List α × List α)) (hne:∀ p∈tbl,p.1 ≠ []):∀ (f g:Nat) (Z:List α),Z.length≤f→Z.length≤g→scanT tbl f Z=scanT tbl g Z:=by
 intro f;induction f with
 | zero=>intro g Z h _;obtain rfl:=List.eq_nil_of_length_eq_zero (Nat.le_zero.1 h);rw [scanT_nil,scanT_nil]
 | succ f ih=>
  intro g Z h1 h2;cases Z with
  | nil=>rw [scanT_nil,scanT_nil]
  | cons z Z=>
   cases g with
   | zero=>simp at h2
   | succ g=>
    rw [List.length_cons]at h1 h2;rw [scanT,scanT];cases hf:tbl.find? (fun p=>p.1.isPrefixOf (z::Z))with
    | none=>simp only;rw [ih g Z (by omega) (by omega)]
    | some p=>
     simp only;have hp:1≤p.1.length:=List.length_pos_iff.2 (hne p (List.mem_of_find?_eq_some hf));rw [ih g _ (by rw [List.length_drop,List.length_cons];omega) (by rw [List.length_drop,List.length_cons];omega)]
theorem pre_len {f Z:List UInt8} (h:Z.length<f.length):f.isPrefixOf Z=false:=by
 cases hb:f.isPrefixOf Z with
 | false=>rfl
 | true=>have:=(List.isPrefixOf_iff_prefix.1 hb).length_le;omega
theorem pre_take {f Z:List UInt8}:f.isPrefixOf Z=decide (Z.take f.length=f):=by
 rw [Bool.eq_iff_iff,decide_eq_true_eq,List.isPrefixOf_iff_prefix,List.prefix_iff_eq_take];exact⟨fun h=>h.symm,fun h=>h.symm⟩
theorem cut_list (s:ByteArray) (p k:Nat):(s.extract p (p+k)).data.toList=(s.data.toList.drop p).take k:=by
 rw [ByteArray.data_extract,Array.toList_extract,List.extract_eq_take_drop,Nat.add_sub_cancel_left]
def textsA (tbl:Tbl):List Value:=tbl.map fun p=>.string (strB p.1)
def textsB (tbl:Tbl):List Value:=tbl.map fun p=>.string (strB p.2)
def ShcRel (w:World) (s:ByteArray) (tbl:Tbl) (out i:Value) (wr:World):Prop :=
  ∃ (p:Nat) (acc:List UInt8),p≤s.size∧i=.int .i64 p∧out=.string (strB acc)∧acc.length≤10*p∧acc++scanT tbl (s.size - p) (s.data.toList.drop p)=scanT tbl s.size s.data.toList∧Below w.heap.size w wr
def ShcIn (W:World) (m:Nat) (tbl:Tbl) (Z acc:List UInt8) (out n k:Value) (wr:World):Prop :=
  ∃ j:Nat,j≤m∧k=.int .i64 j∧Below W.heap.size W wr ∧
    ((n=.int .i64 0∧out=.string (strB acc)∧(tbl.take j).find? (hitB Z)=none) ∨
     (∃ p L,(tbl.take j).find? (hitB Z)=some p∧p.1.length=L∧1≤L∧n=.int .i64 (L:Nat)∧out=.string (strB (acc++p.2))))
theorem sh_scan (s:ByteArray) (hs:s.size≤1000) (A B:Option Addr) (m ca cb:Nat) (tbl:Tbl) (w:World) (hm:m≤100) (hne:∀ p∈tbl,p.1 ≠ []∧p.1.length≤10∧p.2.length≤10)
    (hA:Rd w w.heap.size 1 A m (textsA tbl)) (hB:Rd w w.heap.size 1 B m (textsB tbl)) :
    Calls Tryz.prog 26 #[.string s,.slice A m ca,.slice B m cb] w fun e w'=>e=.returned (.string (strB (scanT tbl s.size s.data.toList)))∧Below w.heap.size w w':=by
 have Et:=Lib.hid hne;have HA:=Lib.hid hA;have HB:=Lib.hid hB;have HLT:=Lib.hid (show tbl.length=m by have:=hA.1;simp [textsA]at this;omega);have Xi:=Lib.hid (show s.data.toList.length=s.size from by rw [Array.length_toList];rfl);clear hne hA hB;go_enter Tryz.func26,Tryz.ntmps26;go_wp2_with fail;go_loopw [7,8] (ShcRel w s tbl) (fun _ i _=>s.size - (intOf i).toNat);(case atStart=>exact⟨0,[],Nat.zero_le _,rfl,rfl,Nat.le_refl _,rfl,Below.refl _ _⟩);obtain⟨p,acc,hp,rfl,rfl,hacc,hsc,hb⟩:=hrel;have CQ:=Lib.hid hsc;have ek:=Lib.hid hb;have HAC:=Lib.hid hacc;clear hsc hb;by_cases hlt:p<s.size
 ·generalize hZ:s.data.toList.drop p=Z at *;have HZ:=Lib.hid hZ;have HZL:=Lib.hid (show Z.length=s.size - p by rw [← hZ,List.length_drop,Xi.out]);clear hZ;generalize wr=w1 at *;go_wp2_with fail;go_loopw [7,9,18] (ShcIn w1 m tbl Z acc) (fun _ _ k _=>m - (intOf k).toNat);(case atStart=>exact⟨0,Nat.zero_le _,rfl,Below.refl _ _,.inl ⟨rfl,rfl,rfl⟩⟩);obtain⟨j,hj,rfl,hb,VR⟩:=hrel;have ZA:=Lib.hid hb;have nX:=Lib.hid (ek.out.trans (hb.mono ek.out.size));by_cases hjm:j<m
  ·obtain⟨x,hx⟩:∃ x,tbl[j]? = some x:=⟨_,List.getElem?_eq_getElem (by rw [HLT.out];exact hjm)⟩;obtain⟨f,t⟩:=x;obtain⟨b,off,rfl,dL,hcells⟩:=HA.out.2 (by omega);have d0:wr.cell? ⟨b,off+j,none⟩=some (.string (strB f)):=(nX.out.cell (p:=⟨b,off+j,none⟩) dL).trans (hcells j _ (by simp [textsA,hx]));obtain⟨h1,h2,h3⟩:=Et.out _ (List.mem_of_getElem? hx);dsimp only at h1 h2 h3;have rP:1≤f.length:=List.length_pos_iff.2 h1;have HTK:=Lib.hid (show(tbl.take (j+1)).find? (hitB Z)=((tbl.take j).find? (hitB Z)).or (if f.isPrefixOf Z=true then some (f,t)else none) by
    rw [List.take_add_one,hx,List.find?_append];congr 1;show [(f,t)].find? (hitB Z)=_;rw [List.find?_cons];unfold hitB;cases f.isPrefixOf Z <;> rfl)
   obtain⟨fl,hfl⟩:∃ fl,f.length=fl:=⟨_,rfl⟩;have HFZ:(strB f).size=fl:=(by rw [strB_size,hfl]);have nS:=Lib.hid hfl;rw [hfl]at h2 rP;have T1:=Lib.hid (fun(T:ByteArray) (hT:T.data.toList=Z.take fl)=>show(T.toList ==(strB f).toList)=f.isPrefixOf Z by
    rw [pre_take,nS.out,← hT,Bool.eq_iff_iff,beq_iff_eq,decide_eq_true_eq,ByteArray.toList_eq,ByteArray.toList_eq];simp [strB])
   have HBT:=Lib.hid hb;clear hcells hb h1 hfl;have hk0:(0:Int)≤(p:Int):=(by omega);have hwp:IntKind.i64.wrap ((p:Int)+(fl:Int))=((p+fl:Nat):Int):=(by rw [wrap_small _ (by omega) (by omega)];omega);have HX:=Lib.hid (T1.out (s.extract p (p+fl)) (by rw [cut_list,HZ.out]));rcases VR with ⟨rfl,rfl,hno⟩ | ⟨q,L,hyes,hL,hL1,rfl,rfl⟩
   ·rw [hno]at HTK;by_cases hpre:f.isPrefixOf Z=true
    ·rw [if_pos hpre]at HTK;rw [hpre]at HX;have hfit:p+fl≤s.size:=by
      have:=(List.isPrefixOf_iff_prefix.1 hpre).length_le;rw [nS.out,HZL.out]at this;omega
     obtain⟨b2,off2,rfl,hbb2,hcells2⟩:=HB.out.2 (by omega);have d1:wr.cell? ⟨b2,off2+j,none⟩=some (.string (strB t)):=(nX.out.cell (p:=⟨b2,off2+j,none⟩) hbb2).trans (hcells2 j _ (by simp [textsB,hx]));have hs1:(strB acc).size≤10000:=(by rw [strB_size];have:=HAC.out;omega);have nN:(strB t).size≤10:=(by rw [strB_size];exact h3);have q1:decide (((p+fl:Nat):Int)≤(s.size:Int))=true:=decide_eq_true (by omega);have q2:=HX.out;have VW:=Lib.hid (strB_app acc t);clear hcells2 hx hno hpre;generalize strB f=F at *;generalize strB acc=SA at *;generalize strB t=ST at *;go_wp2_with fail;exact⟨⟨j+1,by omega,by go_num,HBT.out,.inr ⟨(f,t),fl,HTK.out,nS.out,rP,rfl,by rw [VW.out]⟩⟩,by simp [intOf];omega⟩
    rw [Bool.not_eq_true]at hpre;rw [if_neg (by rw [hpre];decide)]at HTK;rw [hpre]at HX;have q2:=HX.out;clear hx hno hpre;generalize strB f=F at *;by_cases hfit:p+fl≤s.size
    ·have q1:decide (((p+fl:Nat):Int)≤(s.size:Int))=true:=decide_eq_true (by omega);go_wp2_with fail;exact⟨⟨j+1,by omega,by go_num,HBT.out,.inl ⟨rfl,rfl,HTK.out⟩⟩,by simp [intOf];omega⟩
    have q1:decide (((p+fl:Nat):Int)≤(s.size:Int))=false:=decide_eq_false (by omega);clear q2;go_wp2_with fail;exact⟨⟨j+1,by omega,by go_num,HBT.out,.inl ⟨rfl,rfl,HTK.out⟩⟩,by simp [intOf];omega⟩
   rw [hyes]at HTK;have q0:((L:Int) == 0)=false:=(by rw [beq_eq_false_iff_ne];omega);have HLE:=Lib.hid hL;clear hx hyes hL;generalize strB f=F at *;go_wp2_with fail;exact⟨⟨j+1,by omega,by go_num,HBT.out,.inr ⟨q,L,HTK.out,HLE.out,hL1,rfl,rfl⟩⟩,by simp [intOf];omega⟩
  obtain rfl:j=m:=(by omega);rw [List.take_of_length_le (by rw [HLT.out];exact Nat.le_refl _)]at VR;have hk0:(0:Int)≤(p:Int):=(by omega);obtain⟨g,hg⟩:∃ g,s.size - p=g+1:=⟨s.size - p - 1,by omega⟩;have RI:=Lib.hid (fun(k:Nat)=>show s.data.toList.drop (p+k)=Z.drop k by rw [← HZ.out,List.drop_drop]);obtain⟨z,Z',rfl⟩:∃ z Z',Z=z::Z':=by
   cases Z with
   | nil=>have:=HZL.out;simp at this;omega
   | cons z Z'=>exact⟨z,Z',rfl⟩
  have hsc:=CQ.out;rw [hg,scanT]at hsc;clear hb;rcases VR with ⟨rfl,rfl,hno⟩ | ⟨q,L,hyes,hL,hL1,rfl,rfl⟩
  ·rw [show tbl.find? (fun p=>p.1.isPrefixOf (z::Z'))=none from hno]at hsc;have HS:=Lib.hid (show(acc++[z])++scanT tbl (s.size - (p+1)) (s.data.toList.drop (p+1))=scanT tbl s.size s.data.toList by
    rw [RI.out 1,show s.size - (p+1)=g by omega,List.append_assoc];exact hsc)
   have hs1:(strB acc).size≤10000:=(by rw [strB_size];have:=HAC.out;omega);have HX:=Lib.hid (show s.extract p (p+1)=strB [z] by
    apply ByteArray.ext;apply Array.ext';rw [cut_list,HZ.out];rfl)
   have nN:(s.extract p (p+1)).size≤1:=(by rw [HX.out,strB_size];exact Nat.le_refl _);have VW:=Lib.hid (strB_app acc [z]);have hwp:IntKind.i64.wrap ((p:Int)+1)=((p+1:Nat):Int):=(by rw [wrap_small _ (by omega) (by omega)];omega);clear hno hsc hg;generalize strB acc=SA at *;go_wp2_with fail;exact⟨⟨p+1,acc++[z],by omega,by go_num,by rw [HX.out,VW.out],by rw [List.length_append];simp;have:=HAC.out;omega,HS.out,nX.out⟩,by simp [intOf];omega⟩
  rw [show tbl.find? (fun p=>p.1.isPrefixOf (z::Z'))=some q from hyes]at hsc;have hq:=Et.out q (List.mem_of_find?_eq_some hyes);have hpf:q.1.isPrefixOf (z::Z')=true:=List.find?_some (p:=fun p:List UInt8 × List UInt8=>p.1.isPrefixOf (z::Z')) hyes;have hle:L≤(z::Z').length:=(by rw [← hL];exact(List.isPrefixOf_iff_prefix.1 hpf).length_le);have hfit:p+L≤s.size:=(by rw [HZL.out]at hle;omega);have HS:=Lib.hid (show(acc++q.2)++scanT tbl (s.size - (p+L)) (s.data.toList.drop (p+L))=scanT tbl s.size s.data.toList by
   rw [RI.out L,← hsc,List.append_assoc];simp only;rw [hL];congr 2;have Ya:=HZL.out;exact scanT_fuel tbl (fun p hp=>(Et.out p hp).1) _ _ _ (by rw [List.length_drop];omega) (by rw [List.length_drop];omega))
  have q0:((L:Int) == 0)=false:=(by rw [beq_eq_false_iff_ne];omega);have hwp:IntKind.i64.wrap ((p:Int)+(L:Int))=((p+L:Nat):Int):=(by rw [wrap_small _ (by omega) (by omega)];omega);have HQ2:=Lib.hid hq.2.2;clear hyes hsc hg hq hpf hle hL;go_wp2_with fail;exact⟨⟨p+L,acc++q.2,by omega,by go_num,rfl,by rw [List.length_append];have:=HAC.out;have:=HQ2.out;omega,HS.out,nX.out⟩,by simp [intOf];omega⟩
 obtain rfl:p=s.size:=(by omega);have HE:=Lib.hid (show scanT tbl s.size s.data.toList=acc by
  rw [← CQ.out,List.drop_eq_nil_of_le (by rw [Xi.out];exact Nat.le_refl _),scanT_nil,List.append_nil])
 go_wp2_with fail;go_ret;rw [HE.out];exact⟨rfl,ek.out⟩
end Go.Proofs.YtapechjebkjidaaGreatDoor
namespace Go.Proofs.YtapechjebkjidaaGreatDoor
open Go.RowKit
theorem enc_low {r:Int} (h0:0≤r) (h1:r<128):Lib.encodeRune r = [r.toNat.toUInt8]:=by
 unfold Lib.encodeRune;rw [Lib.encodeRuneZ_one h0 (by omega)];rfl
theorem enc_high {r:Int} (h:128≤r):Lib.encodeRune r ≠ []∧∀ b∈Lib.encodeRune r,128≤b.toNat:=by
 have key:∀ x∈Lib.encodeRuneZ r,128≤x:=by
  intro x hx;unfold Lib.encodeRuneZ at hx;split at hx;omega;(repeat' split at hx)
  all_goals
    simp only [List.mem_cons,List.not_mem_nil,or_false]at hx
    omega
 refine⟨fun e=>by have:=Pg r;rw [e]at this;simp at this,fun b hb=>?_⟩;obtain⟨x,hx,rfl⟩:=List.mem_map.1 hb;have h1:=key x hx;have h2:=Lib.encodeRuneZ_byte r x hx;rw [ie x h2.1 h2.2];omega
def bytesT (tbl:List (List Int × List Int)):Tbl:=tbl.map fun p=>(bytesOf p.1,bytesOf p.2)
structure TblOk (tbl:List (List Int × List Int)):Prop where
  low:∀ p∈tbl,p.1 ≠ []∧∀ a∈p.1,0≤a∧a<128
  size:∀ p∈bytesT tbl,p.1 ≠ []∧p.1.length≤10∧p.2.length≤10
  short:tbl.length≤100
theorem scan_text {tbl:List (List Int × List Int)} (h:TblOk tbl) (s:ByteArray) (hw:spoilt s 0=0):strB (scanT (bytesT tbl) s.size s.data.toList)=pz (scanT tbl (ay s 0).length (ay s 0)):=by
 have h1:=nY s s.size 0 (by omega) (by omega) hw;rw [List.drop_zero]at h1;have hr:=fA s;have h2:=scan_bytes Lib.encodeRune (fun r h0 h1=>enc_low h0 h1) (fun r h=>enc_high h) tbl h.low s.size (ay s 0) (fun r jb=>(jJ (List.all_eq_true.1 hr r jb)).1) (ay s 0).length (by
  rw [show(ay s 0).flatMap Lib.encodeRune=s.data.toList from h1,Array.length_toList];exact Nat.le_refl _) (Nat.le_refl _)
 rw [show(ay s 0).flatMap Lib.encodeRune=s.data.toList from h1]at h2;show strB (scanT (tbl.map fun p=>(p.1.flatMap Lib.encodeRune,p.2.flatMap Lib.encodeRune)) s.size s.data.toList)=_;rw [h2];rfl
theorem many_turned {name:ByteArray} {k K:Nat} {tbl:List (List Int × List Int)} (hf:mc name k (ji (tbl.map manyR))) (hr:nE (tbl.map manyR) K) (ht:TblOk tbl) (s:ByteArray) (hs:s.size≤1000) (hw:spoilt s 0=0) (w:World) :
    Calls Tryz.prog 17 #[.string name,.string s,.string (strB (scanT (bytesT tbl) s.size s.data.toList))] w fun e w'=>e=.returned (.bool true)∧Below w.heap.size w w':=by
 have FQ:=cZ s;rw [scan_text ht s hw];refine iM name s _ (fun W=>iE hf hr s (by omega) (by omega) _ (fun f h=>?_) W) w;rw [scan_table tbl (fun p hp=>(ht.low p hp).1) f _ [] h,List.nil_append];exact scanT_fuel tbl (fun p hp=>(ht.low p hp).1) f _ _ h (Nat.le_refl _)
/-- scan with two lists of texts just made. -/
theorem scan_made {tbl:List (List Int × List Int)} (ht:TblOk tbl) (s:ByteArray) (hs:s.size≤1000) (a b:Array Value) (ha:(textsA (bytesT tbl)).toArray=a) (hb:(textsB (bytesT tbl)).toArray=b) (m:Nat) (hm:tbl.length=m) (w:World) :
    Calls Tryz.prog 26 #[.string s,.slice (some ⟨w.heap.size,0,none⟩) m m,.slice (some ⟨w.heap.size+1,0,none⟩) m m] ((w.alloc (.cells a 9)).alloc (.cells b 9))
      fun e w'=>e=.returned (.string (strB (scanT (bytesT tbl) s.size s.data.toList)))∧Below w.heap.size w w':=by
 subst ha hb;have aT:=(Below.refl w.heap.size w).alloc (Nat.le_refl _) (.cells (textsA (bytesT tbl)).toArray 9);have aL:=aT.alloc aT.size (.cells (textsB (bytesT tbl)).toArray 9);have hA:=((Rd.new w 9 1 m (textsA (bytesT tbl)) (by simp [textsA,bytesT,hm])).alloc (by simp) (.cells (textsB (bytesT tbl)).toArray 9)).more (B':=((w.alloc (.cells (textsA (bytesT tbl)).toArray 9)).alloc (.cells (textsB (bytesT tbl)).toArray 9)).heap.size) (by simp);have hB:=(Rd.new (w.alloc (.cells (textsA (bytesT tbl)).toArray 9)) 9 1 m (textsB (bytesT tbl)) (by simp [textsB,bytesT,hm])).more (B':=((w.alloc (.cells (textsA (bytesT tbl)).toArray 9)).alloc (.cells (textsB (bytesT tbl)).toArray 9)).heap.size) (by simp);rw [show(w.alloc (.cells (textsA (bytesT tbl)).toArray 9)).heap.size=w.heap.size+1 by simp]at hB;refine(sh_scan s hs _ _ m m m (bytesT tbl) _ (by have:=ht.short;omega) ht.size hA hB).mono fun e w' h=>⟨h.1,aL.trans (h.2.mono aL.size)⟩
theorem sh_whole (s:ByteArray) (hs:s.size≤1099511627776) (w:World):Calls Tryz.prog 25 #[.string s] w fun e w'=>e=.returned (.bool (decide (s.size≤1000∧spoilt s 0=0)))∧Below w.heap.size w w':=by
 have HW:=Lib.hid (En s w hs);have nO:=Lib.hid (fun(W:World)=>fu s W);unfold Di at HW;by_cases h1:s.size≤1000
 ·rw [decide_eq_true (show(s.size:Int)≤1000 by omega)]at nO;have q:((spoilt s 0:Int) == 0)=decide (s.size≤1000∧spoilt s 0=0):=by
   rw [Bool.eq_iff_iff,beq_iff_eq,decide_eq_true_eq];omega
  have HQ:=Lib.hid q;clear q;generalize spoilt s 0=n at *;go_enter Tryz.func25,Tryz.ntmps25;go_wp2_with fail;refine HW.out.mono ?_;rintro e w1 ⟨v1,v2,rfl,_,_,hb⟩;have HB:=Lib.hid hb;clear hb;go_wp2_with fail;refine(nO.out w1).mono ?_;rintro e w2 ⟨rfl,rfl⟩;go_wp2_with fail;go_ret;rw [← HQ.out];exact⟨rfl,HB.out⟩
 rw [decide_eq_false (show ¬(s.size:Int)≤1000 by omega)]at nO;rw [decide_eq_false (fun h=>h1 h.1)];clear h1;go_enter Tryz.func25,Tryz.ntmps25;go_wp2_with fail;refine HW.out.mono ?_;rintro e w1 ⟨v1,v2,rfl,_,_,hb⟩;have HB:=Lib.hid hb;clear hb;go_wp2_with fail;refine(nO.out w1).mono ?_;rintro e w2 ⟨rfl,rfl⟩;go_wp2_with fail;go_ret;exact⟨rfl,HB.out⟩
end Go.Proofs.YtapechjebkjidaaGreatDoor
namespace Go.Proofs.YtapechjebkjidaaGreatDoor
open Go.RowKit Go.Shelf
def telexT:List (List Int × List Int):=[([97,119],[259]),([97,97],[226]),([101,101],[234]),([111,111],[244]),([111,119],[417]),([117,119],[432]),([100,100],[273])]
def telexB:ByteArray:=⟨#[116,101,108,101,120]⟩
theorem telex_file:mc telexB 16 (ji (telexT.map manyR)):=⟨by decide,by kernel_rfl,by kernel_rfl,by kernel_rfl,by kernel_rfl,by kernel_rfl,by kernel_rfl⟩
theorem telex_rules:nE (telexT.map manyR) 1:=⟨many_goes _ _ (by decide) (by decide),by decide,by decide,by kernel_rfl,by kernel_rfl,by kernel_rfl,by kernel_rfl⟩
theorem telex_tbl:TblOk telexT:=⟨by decide,by decide +kernel,by decide⟩
theorem telex_a:(textsA (bytesT telexT)).toArray = #[.string ⟨#[97,119]⟩,.string ⟨#[97,97]⟩,.string ⟨#[101,101]⟩,.string ⟨#[111,111]⟩,.string ⟨#[111,119]⟩,.string ⟨#[117,119]⟩,.string ⟨#[100,100]⟩]:=by kernel_rfl
theorem telex_b:(textsB (bytesT telexT)).toArray = #[.string ⟨#[196,131]⟩,.string ⟨#[195,162]⟩,.string ⟨#[195,170]⟩,.string ⟨#[195,180]⟩,.string ⟨#[198,161]⟩,.string ⟨#[198,176]⟩,.string ⟨#[196,145]⟩]:=by kernel_rfl
theorem shelf_telex (s:ByteArray) (w:World) (hs:s.size≤1099511627776):Calls Tryz.prog 10 #[.string s] w fun e w'=>e=.returned (.bool true)∧Below w.heap.size w w':=by
 have HWH:=Lib.hid (sh_whole s hs w);by_cases h:s.size≤1000∧spoilt s 0=0
 ·rw [decide_eq_true h]at HWH;obtain⟨h1,h2⟩:=h;have HS0:=Lib.hid (fun(W:World)=>scan_made telex_tbl s h1 _ _ telex_a telex_b 7 rfl W);have HT0:=Lib.hid (fun(W:World)=>many_turned telex_file telex_rules telex_tbl s h1 h2 W);generalize strB (scanT (bytesT telexT) s.size s.data.toList)=T0 at *;clear h1 h2 hs;go_enter Tryz.func10,Tryz.ntmps10;go_wp2_with fail;refine HWH.out.mono ?_;rintro e w0 ⟨rfl,hb⟩;have HB:=Lib.hid hb;clear hb;go_wp2_with fail;refine(HS0.out w0).mono ?_;rintro e a0 ⟨rfl,hb⟩;have Ym:=Lib.hid (HB.out.trans (hb.mono HB.out.size));clear hb;go_wp2_with fail;refine(HT0.out a0).mono ?_;rintro e b0 ⟨rfl,hb⟩;have ek:=Lib.hid (Ym.out.trans (hb.mono Ym.out.size));clear hb;go_wp2_with fail;go_ret;exact⟨rfl,ek.out⟩
 rw [decide_eq_false h]at HWH;clear h hs;go_enter Tryz.func10,Tryz.ntmps10;go_wp2_with fail;refine HWH.out.mono ?_;rintro e w0 ⟨rfl,hb⟩;have HB:=Lib.hid hb;clear hb;go_wp2_with fail;go_ret;exact⟨rfl,HB.out⟩
end Go.Proofs.YtapechjebkjidaaGreatDoor
namespace Go.Proofs.YtapechjebkjidaaGreatDoor
theorem bulk_one {H:Type} (d:DataW H):1≤Rows.uptoBulk d:=by
 cases d with
 | lit l=>cases l <;> simp [Rows.uptoBulk]
 | nil=>simp [Rows.uptoBulk]
 | ptr d=>simp [Rows.uptoBulk]
 | slice elems spare=>simp [Rows.uptoBulk]
 | agg parts=>simp [Rows.uptoBulk]
 | iface t d=>simp [Rows.uptoBulk]
 | map entries=>simp [Rows.uptoBulk]
 | held h=>simp [Rows.uptoBulk]
theorem bulk_len {H:Type} (l:List (DataW H)):l.length≤Rows.uptoBulkAll l:=by
 induction l with
 | nil=>simp
 | cons x r ih=>have:=bulk_one x;simp only [Rows.uptoBulkAll,List.length_cons];omega
theorem bulk_slice {H:Type} {d:DataW H} {c:Nat} (h:(d=.nil∧c=0)∨∃ elems spare,d=.slice elems spare∧elems.length+spare.length=c):c≤Rows.uptoBulk d:=by
 rcases h with ⟨_,rfl⟩ | ⟨elems,spare,rfl,rfl⟩;exact Nat.zero_le _;have h1:=bulk_len elems;have h2:=bulk_len spare;simp only [Rows.uptoBulk];omega
theorem bulk_string {H:Type} (s:ByteArray):s.size≤Rows.uptoBulk (DataW.lit (H:=H) (.string s.data.toList)):=by
 have e:s.data.toList.length=s.size:=(by rw [Array.length_toList];rfl);simp only [Rows.uptoBulk];omega
theorem bulk_bound {H:Type} {l:List (DataW H)} (hk:Rows.uptoSmall H l=true):Rows.uptoBulkAll l≤1048576:=of_decide_eq_true hk
end Go.Proofs.YtapechjebkjidaaGreatDoor
namespace Go.Proofs.YtapechjebkjidaaGreatDoor
open Go.RowKit Go.ChangeShapes Go.WideShapes Go.ChangeAt Go.Shelf
open Go.ChangeMaps (open_string shut_string)
theorem shelftelex_reads (os:Os) {H:Type} (enc:TypeId × Value→H) :
    (Rows.OpenSpec.upto Rows.shelfTelexSpec).preRow enc Tryz.prog Tryz.f10 Rows.shelfTelexUptoRow.domain false Rows.shelfTelexUptoRow.laid ((cy os).forCall (fun _ _=>0) ⟨#[],#[.string ⟨#[]⟩],[]⟩).memory #[.string ⟨#[]⟩]:=by
 have hw:(DataW.whole enc Tryz.prog ((cy os).forCall (fun _ _=>0) ⟨#[],#[.string ⟨#[]⟩],[]⟩).memory Tryz.f10.params.toList Rows.shelfTelexSpec.vars false #[.string ⟨#[]⟩].toList 8).map (fun x=>(x.1,x.2.1)) =
     some ([.lit (.string [])],[]):=by kernel_rfl
 obtain⟨⟨x1,x2,x3⟩,hx,hx1⟩:=Option.map_eq_some_iff.1 hw;simp only [Prod.mk.injEq]at hx1;obtain⟨rfl,rfl⟩:=hx1;exact OpenSpec.preRow_of_cond 8 hx (by kernel_rfl) (fun k hk=>by cases hk;kernel_rfl) (by kernel_rfl) (mz os _)
theorem shelftelex_lifted (os:Os) (started:os.Started) (H:Type) (enc:TypeId × Value→H) (F:Stop.Interp) :
    ReturnsInHanded {} Tryz.checked os 10 .any ((Rows.OpenSpec.upto Rows.shelfTelexSpec).preRow enc Tryz.prog Tryz.f10 Rows.shelfTelexUptoRow.domain false Rows.shelfTelexUptoRow.laid) (((Rows.OpenSpec.upto Rows.shelfTelexSpec).at F).post enc Tryz.prog Tryz.f10 false true false false):=by
 refine returnsInHanded_of_row (C:=Tryz.checked) (s:=(Rows.OpenSpec.upto Rows.shelfTelexSpec)) mF started (by kernel_rfl) Tryz.func10
   (witness_row_atRef (enc:=enc) (C:=Tryz.checked) false (cy os) #[.string ⟨#[]⟩] rfl (by kernel_rfl) (by kernel_rfl) (by kernel_rfl) (shelftelex_reads os enc)) ?_
 intro W base args ds gs before hval hW _ hcond _ _ _ _;have hk:=hcond _ rfl;have Ny:=hW;obtain⟨p,q,CS,hV,rfl,hfz,hnd⟩:=hW;have hA:DataW.TrodAll enc Tryz.prog W 0 (fun _=>true) true Tryz.f10.params.toList args.toList ds p:=CS;have ng:∀ (j:Nat) t v,Tryz.f10.params[j]? = some t→args[j]? = some v→Value.okWide Tryz.prog W .any base t v:=hval;rw [Tryz.params10]at hA ng;obtain⟨v0,d0,rfl,rfl,h0⟩:=trodAll_one hA;obtain⟨rfl,rfl⟩:=trodVars_none hV;obtain⟨s0,rfl,rfl,rfl,hs0⟩:=open_string Tryz.underlying9 (ng 0 _ v0 rfl rfl) h0;have hb0:=bulk_string (H:=H) s0;have hbk:=bulk_bound hk;simp only [List.append_nil,Rows.uptoBulkAll]at hbk;refine(shelf_telex s0 W (by omega)).mono fun e W' ⟨he,hb⟩=>⟨_,he,?_⟩;exact kV Tryz.underlying4 rfl rfl mQ (by kernel_rfl) Ny rfl hb
theorem shelftelex_said:Rows.ShelfTelexUptoSaid :=
  OpenClaim.holds_of_cond 10 Tryz.f10 rfl rfl rfl rfl rfl rfl rfl ⟨rfl,rfl,rfl,rfl,rfl⟩ rfl rfl rfl rfl rfl (by kernel_rfl) Tryz.func10 shelftelex_joined
    (of_decide_eq_true (by kernel_rfl)) (by unfold Func.isWrapper;first | (rw [if_pos (by decide +kernel)];kernel_rfl) | (rw [if_neg (by decide +kernel)];exact⟨rfl,rfl⟩))
    (fun os started H enc _ F=>by rw [OpenClaim.pre_eq_preRow];exact shelftelex_lifted os started H enc F)
theorem shelftelex_plain (f:FuncId) (fn:Func) (hf : Tryz.pinned.checked.prog.funcNamed "scriptshift/scriptlaw16.ShelfTelex" = some f) (hfn : Tryz.pinned.checked.prog.funcs[f]? = some fn) :
    true = Tryz.pinned.checked.prog.looks []∧∀ (j:Nat) t,fn.params[j]? = some t → Tryz.pinned.checked.prog.wantsStandIn t=false:=by
 obtain rfl:f = 10:=Option.some.inj ((show Tryz.prog.funcNamed "scriptshift/scriptlaw16.ShelfTelex" = some 10 by kernel_rfl).symm.trans hf) |>.symm;obtain rfl:fn = Tryz.f10:=(Option.some.inj (Tryz.func10.symm.trans hfn)).symm;refine⟨by kernel_rfl,fun j t ht=>?_⟩;have h:(Tryz.f10.params.toList.all fun t=>!Tryz.prog.wantsStandIn t)=true:=(by kernel_rfl);have h2:=List.all_eq_true.1 h t (by simpa using Array.mem_of_getElem? ht);have h3 : Tryz.prog.wantsStandIn t=false:=(by simpa using h2);exact h3
/-- THE CARD. -/
theorem shelftelex_card:Rows.ShelfTelexUptoCardSaid :=
  Claim7.holds_tied_plain_at .later [] _ _ _ _ shelftelex_said (fun _ h=>by cases h) (by kernel_rfl) (fun _ h=>by cases h) shelfTelexUpto_row_tie rfl ⟨rfl,rfl⟩ (by kernel_rfl) rfl shelftelex_plain (by kernel_rfl)
end Go.Proofs.YtapechjebkjidaaGreatDoor
