/- ShelfMorse: morse writes each small letter of latin in dots and dashes, and a blank, and reads it back. Condition: Go's own variables are as their text lays them. -/
import Derived.Carry
import Derived.ChangeSame
import Derived.Deep.CondSized
import Derived.Deep.Fields
import Derived.Deep.Slices
import Derived.JoinedCond
import Derived.OpenShut
import Derived.ProofKit
import Derived.SizedLaws
import Derived.Test.YtapechjebkjidaaGreatDoorCards
import Derived.Test.YtapechjebkjidaaGreatDoorRows
import Derived.Test.YtapechjebkjidaaGreatDoorShMorseJ
import Derived.Test.YtapechjebkjidaaGreatDoorTie
import Derived.Test.YtapechjebkjidaaGreatDoorZs2
import Derived.Test.YtapechjebkjidaaGreatDoorZs20
import Derived.Test.YtapechjebkjidaaGreatDoorZs3
import Derived.Test.YtapechjebkjidaaGreatDoorZs32
import Derived.Test.YtapechjebkjidaaGreatDoorZs45
import Derived.Test.YtapechjebkjidaaGreatDoorZs5
set_option maxHeartbeats 3200000
set_option maxRecDepth 100000
namespace Go.Proofs.YtapechjebkjidaaGreatDoor
open Go.RowKit
/-! ### tables: one rune each -/
def QF (a:Int) (t:List Int):au:=⟨false,false,[],[[(a,a)]],[],t,t.length⟩
def qv (l:List (Int × List Int)):List au:=l.map fun p=>QF p.1 p.2
def uj:List (Int × List Int)→Int→List Int
  | [],x=>[x]
  | p::l,x=>if x=p.1 then p.2 else uj l x
theorem Gt (x:Int):∀ l:List (Int × List Int),PU (qv l) x=uj l x:=by
 intro l;induction l with
 | nil=>rfl
 | cons p l ih=>
  unfold PU qv at *;rw [List.map_cons,List.find?_cons];have:bJ (QF p.1 p.2).source [x] = decide (x=p.1):=(by simp [QF,bJ,oc]);rw [this,uj];by_cases h:x=p.1
  ·rw [decide_eq_true h,if_pos h];rfl
  rw [decide_eq_false h,if_neg h];exact ih
theorem Df (l:List (Int × List Int)):∀ r∈qv l,Plain r∧r.source.length=1:=by
 intro r hr;obtain⟨p,_,rfl⟩:=List.mem_map.1 hr;exact⟨⟨rfl,rfl,rfl,rfl,rfl⟩,rfl⟩
theorem JC (l:List (Int × List Int)) (f:Nat) (Z:List Int) (h:Z.length≤f):cP (qv l) f [] Z=Z.flatMap (uj l):=by
 rw [Me _ (Df l) f [] Z h,List.nil_append];congr 1;funext x;exact Gt x l
theorem Fv (l:List (Int × List Int)) (K:Nat) (hl:∀ p∈l,p.2.length≤K):∀ r∈qv l,zc K r:=by
 intro r hr;obtain⟨p,hp,rfl⟩:=List.mem_map.1 hr;have:=hl p hp;refine⟨?_,?_,?_,?_⟩ <;> simp [QF] <;> omega
end Go.Proofs.YtapechjebkjidaaGreatDoor
namespace Go.Proofs.YtapechjebkjidaaGreatDoor
open Go.RowKit
/-! ### tables: some runes for some -/
def manyR (p:List Int × List Int):au:=⟨false,false,[],p.1.map (fun a=>[(a,a)]),[],p.2,p.2.length⟩
def scanT {α:Type} [BEq α] (tbl:List (List α × List α)):Nat→List α→List α
  | 0,_=>[]
  | _+1,[]=>[]
  | f+1,z::Z=>match tbl.find? (fun p=>p.1.isPrefixOf (z::Z))with
    | none=>z::scanT tbl f Z
    | some p=>p.2++scanT tbl f ((z::Z).drop p.1.length)
theorem scanT_nil {α:Type} [BEq α] (tbl:List (List α × List α)) (f:Nat):scanT tbl f [] = []:=by cases f <;> rfl
theorem many_has:∀ (p Z:List Int),bJ (p.map (fun a=>[(a,a)])) Z=p.isPrefixOf Z:=by
 intro p;induction p with
 | nil=>intro Z;cases Z <;> rfl
 | cons a p ih=>
  intro Z;cases Z with
  | nil=>rfl
  | cons z Z=>
   rw [List.map_cons,bJ,ih,oc,List.isPrefixOf];congr 1;rw [Bool.eq_iff_iff];simp;exact eq_comm
theorem many_find (A Z:List Int):∀ tbl:List (List Int × List Int),(tbl.map manyR).find? (fun r=>bU r (A++Z) A.length)=(tbl.find? (fun p=>p.1.isPrefixOf Z)).map manyR:=by
 intro tbl;induction tbl with
 | nil=>rfl
 | cons p tbl ih=>
  rw [List.map_cons,List.find?_cons,List.find?_cons,Hg (by exact⟨rfl,rfl,rfl,rfl,rfl⟩),ih];rw [show(manyR p).source=p.1.map (fun a=>[(a,a)]) from rfl,many_has];cases p.1.isPrefixOf Z <;> rfl
theorem scan_table (tbl:List (List Int × List Int)) (hne:∀ p∈tbl,p.1 ≠ []):∀ (f:Nat) (Z A:List Int),Z.length≤f→cP (tbl.map manyR) f A Z=A++scanT tbl f Z:=by
 intro f;induction f with
 | zero=>intro Z A h;cases Z with | nil=>simp [cP,scanT] | cons z Z=>simp at h
 | succ f ih=>
  intro Z A h;cases Z with
  | nil=>simp [cP,scanT]
  | cons z Z=>
   simp only [List.length_cons]at h;rw [cP,many_find,scanT];cases hf:tbl.find? (fun p=>p.1.isPrefixOf (z::Z))with
   | none=>simp only [Option.map_none];rw [ih _ _ (by omega)];simp
   | some p=>
    have hp:=hne p (List.mem_of_find?_eq_some hf);have hl:(manyR p).source.length=p.1.length:=(by simp [manyR]);have h1:1≤p.1.length:=(by cases hp1:p.1 with | nil=>exact absurd hp1 hp | cons a t=>simp);simp only [Option.map_some];rw [show(manyR p).target=p.2 from rfl,show(manyR p).aa.toNat=p.2.length from rfl,List.take_left,List.drop_left,hl,ih _ _ (by simp;omega),List.append_assoc]
theorem many_goes (tbl:List (List Int × List Int)) (K:Nat) (hl:∀ p∈tbl,p.2.length≤K∧p.1 ≠ []) (_hK:1≤K):∀ r∈tbl.map manyR,zc K r:=by
 intro r hr;obtain⟨p,hp,rfl⟩:=List.mem_map.1 hr;obtain⟨h1,h2⟩:=hl p hp;have h3:1≤p.1.length:=(by cases hp1:p.1 with | nil=>exact absurd hp1 h2 | cons a t=>simp);have h4:K≤K*p.1.length:=Nat.le_mul_of_pos_right K h3;refine⟨?_,?_,?_,?_⟩ <;> simp [manyR] <;> omega
/-- A scan for words of low bytes is, over a text's bytes, what it is over its runes. -/
theorem scan_bytes (enc:Int→List UInt8) (low:∀ r:Int,0≤r→r<128→enc r = [r.toNat.toUInt8]) (high:∀ r:Int,128≤r→enc r ≠ []∧∀ b∈enc r,128≤b.toNat)
    (tbl:List (List Int × List Int)) (hne:∀ p∈tbl,p.1 ≠ []∧∀ a∈p.1,0≤a∧a<128) :
    ∀ (f:Nat) (R:List Int),(∀ r∈R,0≤r)→∀ g:Nat,(R.flatMap enc).length≤f→R.length≤g →
      scanT (tbl.map fun p=>(p.1.flatMap enc,p.2.flatMap enc)) f (R.flatMap enc)=(scanT tbl g R).flatMap enc:=by
  have pre:∀ (p:List Int),(∀ a∈p,0≤a∧a<128)→∀ R:List Int,(∀ r∈R,0≤r)→(p.flatMap enc).isPrefixOf (R.flatMap enc)=p.isPrefixOf R:=by
    intro p
    induction p with
    | nil=>intro _ R _;simp
    | cons a p ih=>
      intro hp R hR
      have ha:=hp a List.mem_cons_self
      rw [List.flatMap_cons,low a ha.1 ha.2,List.singleton_append]
      cases R with
      | nil=>rfl
      | cons r R=>
        have hr:=hR r List.mem_cons_self
        rw [List.flatMap_cons]
        by_cases h:r<128
        · rw [low r hr h,List.singleton_append,List.isPrefixOf,List.isPrefixOf,ih (fun x hx=>hp x (List.mem_cons_of_mem _ hx)) R (fun x hx=>hR x (List.mem_cons_of_mem _ hx))]
          congr 1
          rw [Bool.eq_iff_iff]
          simp only [beq_iff_eq]
          constructor
          · intro e
            have e2:=congrArg UInt8.toNat e
            simp at e2
            omega
          · intro e;rw [e]
        · obtain⟨h1,h2⟩:=high r (by omega)
          cases he:enc r with
          | nil=>exact absurd he h1
          | cons b t=>
            rw [he]at h2
            have hb:=h2 b List.mem_cons_self
            rw [List.cons_append,List.isPrefixOf,List.isPrefixOf]
            have e1:(a.toNat.toUInt8 == b)=false:=by
              rw [beq_eq_false_iff_ne]
              intro e
              have e2:=congrArg UInt8.toNat e
              simp at e2
              omega
            have e2:(a == r)=false:=by rw [beq_eq_false_iff_ne];omega
            rw [e1,e2,Bool.false_and,Bool.false_and]
  have fnd:∀ (R:List Int),(∀ r∈R,0≤r)→∀ t:List (List Int × List Int),(∀ p∈t,p.1 ≠ []∧∀ a∈p.1,0≤a∧a<128)→(t.map fun p=>(p.1.flatMap enc,p.2.flatMap enc)).find? (fun p=>p.1.isPrefixOf (R.flatMap enc))=(t.find? (fun p=>p.1.isPrefixOf R)).map fun p=>(p.1.flatMap enc,p.2.flatMap enc):=by
    intro R hR t
    induction t with
    | nil=>intro _;rfl
    | cons p t ih=>
      intro ht
      rw [List.map_cons,List.find?_cons,List.find?_cons,pre p.1 (ht p List.mem_cons_self).2 R hR,ih (fun x hx=>ht x (List.mem_cons_of_mem _ hx))]
      cases p.1.isPrefixOf R <;> rfl
  -- a byte that is not low is copied
  have cpy:∀ (t:List UInt8),(∀ b∈t,128≤b.toNat)→∀ (f:Nat) (Y:List UInt8),(t++Y).length≤f→scanT (tbl.map fun p=>(p.1.flatMap enc,p.2.flatMap enc)) f (t++Y)=t++scanT (tbl.map fun p=>(p.1.flatMap enc,p.2.flatMap enc)) (f - t.length) Y:=by
    intro t
    induction t with
    | nil=>intro _ f Y _;simp
    | cons b t ih=>
      intro ht f Y hf
      simp only [List.cons_append,List.length_cons]at hf ⊢
      obtain⟨f,rfl⟩:∃ f',f=f' + 1:=⟨f - 1,by omega⟩
      have hn:(tbl.map fun p=>(p.1.flatMap enc,p.2.flatMap enc)).find? (fun p=>p.1.isPrefixOf (b::(t++Y)))=none:=by
        rw [List.find?_eq_none]
        intro p hp
        obtain⟨q,hq,rfl⟩:=List.mem_map.1 hp
        obtain⟨h1,h2⟩:=hne q hq
        cases hq1:q.1 with
        | nil=>exact absurd hq1 h1
        | cons a u=>
          have ha:=h2 a (by rw [hq1];exact List.mem_cons_self)
          simp only
          rw [List.flatMap_cons,low a ha.1 ha.2,List.singleton_append,List.isPrefixOf]
          have hb:=ht b List.mem_cons_self
          have e1:(a.toNat.toUInt8 == b)=false:=by
            rw [beq_eq_false_iff_ne]
            intro e
            have e2:=congrArg UInt8.toNat e
            simp at e2
            omega
          rw [e1]
          simp
      rw [scanT,hn]
      simp only
      rw [ih (fun x hx=>ht x (List.mem_cons_of_mem _ hx)) f Y (by omega),show f+1 - (t.length+1)=f - t.length by omega]
  intro f R
  induction hn:R.length using Nat.strongRecOn generalizing f R with
  | _ n ih=>
    intro hR g hf hg
    subst hn
    cases R with
    | nil=>rw [List.flatMap_nil,scanT_nil,scanT_nil];rfl
    | cons r R=>
      have hr:=hR r List.mem_cons_self
      have Uu:∀ x∈R,0≤x:=fun x hx=>hR x (List.mem_cons_of_mem _ hx)
      simp only [List.length_cons]at hg
      obtain⟨g,rfl⟩:∃ g',g=g' + 1:=⟨g - 1,by omega⟩
      have Hv:=fnd (r::R) hR tbl hne
      rw [scanT.eq_3 (α:=Int)]
      cases hm:tbl.find? (fun p=>p.1.isPrefixOf (r::R))with
      | none=>
        simp only
        rw [List.flatMap_cons]at hf Hv ⊢
        by_cases h:r<128
        · rw [low r hr h,List.singleton_append]at hf Hv ⊢
          simp only [List.length_cons]at hf
          obtain⟨f,rfl⟩:∃ f',f=f' + 1:=⟨f - 1,by omega⟩
          rw [scanT,Hv,hm]
          simp only [Option.map_none]
          rw [ih R.length (by simp) f R rfl Uu g (by omega) (by omega),List.flatMap_cons,low r hr h,List.singleton_append]
        · obtain⟨h1,h2⟩:=high r (by omega)
          rw [cpy _ h2 f _ hf,List.flatMap_cons]
          rw [List.length_append]at hf
          rw [ih R.length (by simp) _ R rfl Uu g (by omega) (by omega)]
      | some p=>
        simp only
        obtain⟨h1,h2⟩:=hne p (List.mem_of_find?_eq_some hm)
        have hpre:p.1.isPrefixOf (r::R)=true:=by have:=List.find?_some hm;simpa using this
        obtain⟨S,hS⟩:=List.isPrefixOf_iff_prefix.1 hpre
        have hlen:(p.1.flatMap enc).length=p.1.length:=by
          have:∀ q:List Int,(∀ a∈q,0≤a∧a<128)→(q.flatMap enc).length=q.length:=by
            intro q
            induction q with
            | nil=>intro _;rfl
            | cons a q ihq=>
              intro hq
              have ha:=hq a List.mem_cons_self
              rw [List.flatMap_cons,low a ha.1 ha.2,List.length_append,ihq (fun x hx=>hq x (List.mem_cons_of_mem _ hx))]
              simp
              omega
          exact this p.1 h2
        have hp1:1≤p.1.length:=by cases hq:p.1 with | nil=>exact absurd hq h1 | cons a t=>simp
        rw [← hS]at hf Hv ⊢
        rw [List.drop_left]
        have hfl:1≤((p.1++S).flatMap enc).length:=by rw [List.flatMap_append,List.length_append,hlen];omega
        obtain⟨f,rfl⟩:∃ f',f=f' + 1:=⟨f - 1,by omega⟩
        cases hc:(p.1++S).flatMap enc with
        | nil=>rw [hc]at hfl;simp at hfl
        | cons z Z=>
          rw [hc]at Hv hf
          rw [scanT,Hv,hS,hm]
          simp only [Option.map_some]
          rw [← hc,List.flatMap_append]
          have hSl:S.length<(r::R).length:=by rw [← hS,List.length_append];omega
          have jR:(S.flatMap enc).length≤f:=by
            have:=congrArg List.length hc
            rw [List.flatMap_append,List.length_append,hlen]at this
            omega
          rw [List.drop_left]
          rw [ih S.length hSl f S rfl (fun x hx=>hR x (by rw [← hS];exact List.mem_append_right _ hx)) g jR (by simp only [List.length_cons]at hSl;omega),List.flatMap_append]
end Go.Proofs.YtapechjebkjidaaGreatDoor
namespace Go.Proofs.YtapechjebkjidaaGreatDoor
open Go.RowKit
/-! ### morse -/
def codeL:List (List Int):=[[46,45,32],[45,46,46,46,32],[45,46,45,46,32],[45,46,46,32],[46,32],[46,46,45,46,32],[45,45,46,32],[46,46,46,46,32],[46,46,32],[46,45,45,45,32],[45,46,45,32],[46,45,46,46,32],[45,45,32],[45,46,32],[45,45,45,32],[46,45,45,46,32],[45,45,46,45,32],[46,45,46,32],[46,46,46,32],[45,32],[46,46,45,32],[46,46,46,45,32],[46,45,45,32],[45,46,46,45,32],[45,46,45,45,32],[45,45,46,46,32]]
def codeR (k:Nat):List Int:=codeL.getD k []
def morseB:List (List Int × List Int):=[([46,45,32],[97]),([45,46,46,46,32],[98]),([45,46,45,46,32],[99]),([45,46,46,32],[100]),([46,32],[101]),([46,46,45,46,32],[102]),([45,45,46,32],[103]),([46,46,46,46,32],[104]),([46,46,32],[105]),([46,45,45,45,32],[106]),([45,46,45,32],[107]),([46,45,46,46,32],[108]),([45,45,32],[109]),([45,46,32],[110]),([45,45,45,32],[111]),([46,45,45,46,32],[112]),([45,45,46,45,32],[113]),([46,45,46,32],[114]),([46,46,46,32],[115]),([45,32],[116]),([46,46,45,32],[117]),([46,46,46,45,32],[118]),([46,45,45,32],[119]),([45,46,46,45,32],[120]),([45,46,45,45,32],[121]),([45,45,46,46,32],[122])]
def morseT:List (Int × List Int):=[(97,[46,45,32]),(98,[45,46,46,46,32]),(99,[45,46,45,46,32]),(100,[45,46,46,32]),(101,[46,32]),(102,[46,46,45,46,32]),(103,[45,45,46,32]),(104,[46,46,46,46,32]),(105,[46,46,32]),(106,[46,45,45,45,32]),(107,[45,46,45,32]),(108,[46,45,46,46,32]),(109,[45,45,32]),(110,[45,46,32]),(111,[45,45,45,32]),(112,[46,45,45,46,32]),(113,[45,45,46,45,32]),(114,[46,45,46,32]),(115,[46,46,46,32]),(116,[45,32]),(117,[46,46,45,32]),(118,[46,46,46,45,32]),(119,[46,45,45,32]),(120,[45,46,46,45,32]),(121,[45,46,45,45,32]),(122,[45,45,46,46,32])]
theorem morse_find:∀ (k:Nat),k<26→∀ Z:List Int,morseB.find? (fun p=>p.1.isPrefixOf (codeR k++Z))=some (codeR k,[97+(k:Int)])
  | 0,_,_=>rfl
  | 1,_,_=>rfl
  | 2,_,_=>rfl
  | 3,_,_=>rfl
  | 4,_,_=>rfl
  | 5,_,_=>rfl
  | 6,_,_=>rfl
  | 7,_,_=>rfl
  | 8,_,_=>rfl
  | 9,_,_=>rfl
  | 10,_,_=>rfl
  | 11,_,_=>rfl
  | 12,_,_=>rfl
  | 13,_,_=>rfl
  | 14,_,_=>rfl
  | 15,_,_=>rfl
  | 16,_,_=>rfl
  | 17,_,_=>rfl
  | 18,_,_=>rfl
  | 19,_,_=>rfl
  | 20,_,_=>rfl
  | 21,_,_=>rfl
  | 22,_,_=>rfl
  | 23,_,_=>rfl
  | 24,_,_=>rfl
  | 25,_,_=>rfl
  | k+26,h,_=>absurd h (by omega)
theorem code_one:∀ k:Nat,k<26→1≤(codeR k).length∧(codeR k).length≤5:=by decide
theorem morse_back:∀ (ks:List Nat),(∀ k∈ks,k<26)→∀ f:Nat,(ks.flatMap codeR).length≤f→scanT morseB f (ks.flatMap codeR)=ks.map fun k:Nat=>97+(k:Int):=by
 intro ks;induction ks with
 | nil=>intro _ f _;rw [List.flatMap_nil,scanT_nil];rfl
 | cons k ks ih=>
  intro hk f hf;have h:=morse_find k (hk k List.mem_cons_self) (ks.flatMap codeR);have h1:=(code_one k (hk k List.mem_cons_self)).1;rw [List.flatMap_cons]at hf ⊢;rw [List.length_append]at hf;obtain⟨f,rfl⟩:∃ f',f=f' + 1:=⟨f - 1,by omega⟩;cases hc:codeR k++ks.flatMap codeR with
  | nil=>have:=congrArg List.length hc;rw [List.length_append,List.length_nil]at this;omega
  | cons z Z=>
   rw [hc]at h;rw [scanT,h];simp only;rw [← hc,List.drop_left,ih (fun x hx=>hk x (List.mem_cons_of_mem _ hx)) f (by omega)];rfl
theorem morse_forth:∀ k:Nat,k<26→uj morseT (97+(k:Int))=codeR k:=by decide
end Go.Proofs.YtapechjebkjidaaGreatDoor
namespace Go.Proofs.YtapechjebkjidaaGreatDoor
open Go.RowKit Go.Shelf
def morseNB:ByteArray:=⟨#[109,111,114,115,101]⟩
theorem morse_file:mc morseNB 10 (ji (qv morseT)):=⟨by decide,by kernel_rfl,by kernel_rfl,by kernel_rfl,by kernel_rfl,by kernel_rfl,by kernel_rfl⟩
theorem morse_bready:cT true (ia (ay (oq 10) 0)).1=(ji (morseB.map manyR),(0,0)):=by kernel_rfl
theorem morse_bne:sD (ji (morseB.map manyR))=true:=by kernel_rfl
theorem morse_fs:(cI (ji (qv morseT))).1=0∧(dY (qv morseT)).1=0∧(gE (qv morseT)).2.1=0:=⟨by kernel_rfl,by kernel_rfl,by kernel_rfl⟩
theorem morse_bs:(cI (ji (morseB.map manyR))).1=0∧(dY (morseB.map manyR)).1=0∧(gE (morseB.map manyR)).2.1=0:=⟨by kernel_rfl,by kernel_rfl,by kernel_rfl⟩
theorem morse_script (w:World):Calls Tryz.prog 34 #[.string morseNB,.bool true] w (wC w (ji (morseB.map manyR))):=by
 refine zR morseNB (oq 10) true 10 (by decide) morse_file.place ?_ _ (Nat.le_of_ble_eq_true morse_file.len) _ morse_bready morse_bne (fun W=>?_) (fun A n c W hn h=>?_) w
 ·unfold oq;have h:10*2+1<files.length:=(by rw [Az];omega);rw [List.getElem?_eq_getElem h,List.getD_eq_getElem?_getD,List.getElem?_eq_getElem h];rfl
 ·have h:=Gn (oq 10) W (by have:=Nat.le_of_ble_eq_true morse_file.size;omega);unfold AL at h;rw [morse_file.read]at h;refine h.mono ?_;rintro e w' ⟨⟨A,n,c,h1,h2,_⟩,hb⟩;exact⟨⟨A,n,c,h1,h2⟩,hb⟩
 exact Nb W.heap.size A n c _ W hn (Nat.le_refl _) h
def lettersK (ks:List Nat):List Int:=ks.map fun k:Nat=>97+(k:Int)
def codesK (ks:List Nat):List Int:=ks.flatMap codeR
theorem letters_right {ks:List Nat} (h:∀ k∈ks,k<26):(lettersK ks).all aK=true:=by
 refine List.all_eq_true.2 fun x hx=>?_;obtain⟨k,hk,rfl⟩:=List.mem_map.1 hx;have:=h k hk;simp [aK];omega
theorem code_right:∀ k:Nat,k<26→(codeR k).all aK=true:=by decide
theorem codes_right {ks:List Nat} (h:∀ k∈ks,k<26):(codesK ks).all aK=true:=by
 refine List.all_eq_true.2 fun x hx=>?_;obtain⟨k,hk,h2⟩:=List.mem_flatMap.1 hx;exact List.all_eq_true.1 (code_right k (h k hk)) x h2
theorem codes_len {ks:List Nat} (h:∀ k∈ks,k<26):(codesK ks).length≤5*ks.length:=DT codeR 5 ks (fun k hk=>(code_one k (h k hk)).2)
theorem letters_codes {ks:List Nat} (h:∀ k∈ks,k<26):(lettersK ks).flatMap (uj morseT)=codesK ks:=by
 induction ks with
 | nil=>rfl
 | cons k ks ih=>
  have h1:=ih (fun x hx=>h x (List.mem_cons_of_mem _ hx));unfold lettersK codesK at h1 ⊢;rw [List.map_cons,List.flatMap_cons,List.flatMap_cons,h1,morse_forth k (h k List.mem_cons_self)]
theorem morse_turn {ks:List Nat} (h:∀ k∈ks,k<26) (hl:ks.length≤500) (w:World):Calls Tryz.prog 30 #[.string morseNB,.bool false,.string (pz (lettersK ks))] w (iq w (codesK ks)):=by
 have hr:=Aw (letters_right h);have Ya:(lettersK ks).length=ks.length:=List.length_map _;have hg:=go_rules (qv morseT) 5 (by decide) (Fv _ _ (by decide)) (lettersK ks) morse_fs.1 morse_fs.2.1 morse_fs.2.2 (E1 (letters_right h) (by omega)) (by omega);rw [JC morseT _ _ (by omega),letters_codes h]at hg;exact I3 morseNB false (pz (lettersK ks)) (by have:=bN (lettersK ks);omega) _ _ (by rw [hr];exact hg) (codes_right h) (by have:=codes_len h;omega) morse_file.BO w
theorem morse_unturn {ks:List Nat} (h:∀ k∈ks,k<26) (hl:ks.length≤500) (w:World):Calls Tryz.prog 30 #[.string morseNB,.bool true,.string (pz (codesK ks))] w (iq w (lettersK ks)):=by
 have hr:=Aw (codes_right h);have Ya:(lettersK ks).length=ks.length:=List.length_map _;have Ga:=codes_len h;have hg:=go_rules (morseB.map manyR) 1 (by decide) (many_goes _ _ (by decide) (by decide)) (codesK ks) morse_bs.1 morse_bs.2.1 morse_bs.2.2 (E1 (codes_right h) (by omega)) (by omega);rw [scan_table morseB (by decide) _ _ [] (by omega),List.nil_append,show codesK ks=ks.flatMap codeR from rfl,morse_back ks h _ (by omega)]at hg;exact I3 morseNB true (pz (codesK ks)) (by have:=bN (codesK ks);omega) _ _ (by rw [hr];exact hg) (letters_right h) (by omega) morse_script w
def codeB:List ByteArray:=codeL.map fun c=>pz c.dropLast
theorem code_cells:(codeB.map Value.string).toArray = #[.string ⟨#[46,45]⟩,.string ⟨#[45,46,46,46]⟩,.string ⟨#[45,46,45,46]⟩,.string ⟨#[45,46,46]⟩,.string ⟨#[46]⟩,.string ⟨#[46,46,45,46]⟩,.string ⟨#[45,45,46]⟩,.string ⟨#[46,46,46,46]⟩,.string ⟨#[46,46]⟩,.string ⟨#[46,45,45,45]⟩,.string ⟨#[45,46,45]⟩,.string ⟨#[46,45,46,46]⟩,.string ⟨#[45,45]⟩,.string ⟨#[45,46]⟩,.string ⟨#[45,45,45]⟩,.string ⟨#[46,45,45,46]⟩,.string ⟨#[45,45,46,45]⟩,.string ⟨#[46,45,46]⟩,.string ⟨#[46,46,46]⟩,.string ⟨#[45]⟩,.string ⟨#[46,46,45]⟩,.string ⟨#[46,46,46,45]⟩,.string ⟨#[46,45,45]⟩,.string ⟨#[45,46,46,45]⟩,.string ⟨#[45,46,45,45]⟩,.string ⟨#[45,45,46,46]⟩]:=by kernel_rfl
theorem code_blank:∀ k:Nat,k<26→(codeR k).dropLast++[32] = codeR k:=by decide
theorem code_at {k:Nat} (h:k<26):codeB[k]? = some (pz (codeR k).dropLast):=by
 have hl:k<codeL.length:=h;unfold codeB codeR;rw [List.getElem?_map,List.getD_eq_getElem?_getD,List.getElem?_eq_getElem hl];rfl
theorem sh_code (k:Nat) (hk:k<26) (w:World):Calls Tryz.prog 29 #[.int .i32 (97+(k:Int))] w fun e w'=>e=.returned (.string (pz (codeR k).dropLast))∧Below w.heap.size w w':=by
 have d0:(w.alloc (.cells #[.string ⟨#[46,45]⟩,.string ⟨#[45,46,46,46]⟩,.string ⟨#[45,46,45,46]⟩,.string ⟨#[45,46,46]⟩,.string ⟨#[46]⟩,.string ⟨#[46,46,45,46]⟩,.string ⟨#[45,45,46]⟩,.string ⟨#[46,46,46,46]⟩,.string ⟨#[46,46]⟩,.string ⟨#[46,45,45,45]⟩,.string ⟨#[45,46,45]⟩,.string ⟨#[46,45,46,46]⟩,.string ⟨#[45,45]⟩,.string ⟨#[45,46]⟩,.string ⟨#[45,45,45]⟩,.string ⟨#[46,45,45,46]⟩,.string ⟨#[45,45,46,45]⟩,.string ⟨#[46,45,46]⟩,.string ⟨#[46,46,46]⟩,.string ⟨#[45]⟩,.string ⟨#[46,46,45]⟩,.string ⟨#[46,46,46,45]⟩,.string ⟨#[46,45,45]⟩,.string ⟨#[45,46,46,45]⟩,.string ⟨#[45,46,45,45]⟩,.string ⟨#[45,45,46,46]⟩] 9)).cell? ⟨w.heap.size,k,none⟩=some (.string (pz (codeR k).dropLast)):=by
  rw [(ak.new w 9 #[.string ⟨#[46,45]⟩,.string ⟨#[45,46,46,46]⟩,.string ⟨#[45,46,45,46]⟩,.string ⟨#[45,46,46]⟩,.string ⟨#[46]⟩,.string ⟨#[46,46,45,46]⟩,.string ⟨#[45,45,46]⟩,.string ⟨#[46,46,46,46]⟩,.string ⟨#[46,46]⟩,.string ⟨#[46,45,45,45]⟩,.string ⟨#[45,46,45]⟩,.string ⟨#[46,45,46,46]⟩,.string ⟨#[45,45]⟩,.string ⟨#[45,46]⟩,.string ⟨#[45,45,45]⟩,.string ⟨#[46,45,45,46]⟩,.string ⟨#[45,45,46,45]⟩,.string ⟨#[46,45,46]⟩,.string ⟨#[46,46,46]⟩,.string ⟨#[45]⟩,.string ⟨#[46,46,45]⟩,.string ⟨#[46,46,46,45]⟩,.string ⟨#[46,45,45]⟩,.string ⟨#[45,46,46,45]⟩,.string ⟨#[45,46,45,45]⟩,.string ⟨#[45,45,46,46]⟩]).cell,← code_cells,List.getElem?_toArray,List.getElem?_map,code_at hk];rfl
 have hb:=(Below.refl w.heap.size w).alloc (Nat.le_refl _) (.cells #[.string ⟨#[46,45]⟩,.string ⟨#[45,46,46,46]⟩,.string ⟨#[45,46,45,46]⟩,.string ⟨#[45,46,46]⟩,.string ⟨#[46]⟩,.string ⟨#[46,46,45,46]⟩,.string ⟨#[45,45,46]⟩,.string ⟨#[46,46,46,46]⟩,.string ⟨#[46,46]⟩,.string ⟨#[46,45,45,45]⟩,.string ⟨#[45,46,45]⟩,.string ⟨#[46,45,46,46]⟩,.string ⟨#[45,45]⟩,.string ⟨#[45,46]⟩,.string ⟨#[45,45,45]⟩,.string ⟨#[46,45,45,46]⟩,.string ⟨#[45,45,46,45]⟩,.string ⟨#[46,45,46]⟩,.string ⟨#[46,46,46]⟩,.string ⟨#[45]⟩,.string ⟨#[46,46,45]⟩,.string ⟨#[46,46,46,45]⟩,.string ⟨#[46,45,45]⟩,.string ⟨#[45,46,46,45]⟩,.string ⟨#[45,46,45,45]⟩,.string ⟨#[45,45,46,46]⟩] 9);have HB:=Lib.hid hb;have hwp:IntKind.i32.wrap (97+(k:Int) - 97)=(k:Int):=(by rw [IntKind.wrap_i32];omega);have hk0:(0:Int)≤(k:Int):=(by omega);have hk1:(k:Int)<26:=(by omega);clear hb;go_enter Tryz.func29,Tryz.ntmps29;go_wp2_with fail;go_ret;exact⟨rfl,HB.out⟩
def MoRel (w:World) (n:Nat) (s want i:Value) (wr:World):Prop :=
  ∃ (j:Nat) (ks:List Nat),j≤n∧i=.int .i64 j∧ks.length=j∧(∀ k∈ks,k<26)∧s=.string (pz (lettersK ks))∧want=.string (pz (codesK ks))∧Below w.heap.size w wr
theorem shelf_morse (A:Option Addr) (n c:Nat) (L:List Int) (w:World) (hn:n≤17592186044416) (hl:LB w w.heap.size A n L):Calls Tryz.prog 15 #[.slice A n c] w fun e w'=>e=.returned (.bool true)∧Below w.heap.size w w':=by
 have HL:=Lib.hid hl;have HLL:=Lib.hid hl.len;clear hl;go_enter Tryz.func15,Tryz.ntmps15;go_wp2_with fail;go_loopw [3,4,11] (MoRel w n) (fun _ _ i _=>n - (intOf i).toNat);(case atStart=>exact⟨0,[],Nat.zero_le _,rfl,rfl,by simp,rfl,rfl,Below.refl _ _⟩);obtain⟨j,ks,hj,rfl,hks,hk26,rfl,rfl,hb⟩:=hrel;have HB:=Lib.hid hb;have HK:=Lib.hid hk26;have HKL:=Lib.hid hks;by_cases hlt:j<n
 ·obtain⟨x,hx⟩:∃ x,L[j]? = some x:=⟨_,List.getElem?_eq_getElem (by rw [HLL.out];exact hlt)⟩;obtain⟨b,off,rfl,dL,hc⟩:=HL.out.at hx;have d0:wr.cell? ⟨b,off+j,none⟩=some (.int .i64 x):=(hb.cell (p:=⟨b,off+j,none⟩) dL).trans hc;clear hc hx hb hk26;by_cases hx0:x<0
  ·have q0:decide (x<0)=true:=decide_eq_true hx0;go_wp2_with fail;go_ret;exact⟨rfl,HB.out⟩
  by_cases hx1:25<x
  ·have q0:decide (x<0)=false:=decide_eq_false hx0;have q1:decide ((25:Int)<x)=true:=decide_eq_true hx1;go_wp2_with fail;go_ret;exact⟨rfl,HB.out⟩
  obtain⟨k,rfl⟩:∃ k:Nat,x=(k:Int):=⟨x.toNat,by omega⟩;have hk:k<26:=(by omega);have q0:decide ((k:Int)<0)=false:=decide_eq_false hx0;have q1:decide ((25:Int)<(k:Int))=false:=decide_eq_false hx1;have hw0:IntKind.i32.wrap (k:Int)=(k:Int):=(by rw [IntKind.wrap_i32];omega);have hw1:IntKind.i32.wrap (97+(k:Int))=97+(k:Int):=(by rw [IntKind.wrap_i32];omega);have HP:=Lib.hid (fun(W:World)=>de (97+(k:Int)) (by simp [aK];omega) W);have HC:=Lib.hid (fun(W:World)=>sh_code k hk W);have hs0:(pz (lettersK ks)).size≤4*j:=(by have h:=bN (lettersK ks);rw [show(lettersK ks).length=j by rw [← hks];exact List.length_map _]at h;exact h);have hs1:(pz (codesK ks)).size≤20*j:=(by have h:=bN (codesK ks);have h2:=codes_len HK.out;omega);have nN:(pz [97+(k:Int)]).size≤4:=bN _;have NT:(pz (codeR k).dropLast).size≤20:=(by have h:=bN (codeR k).dropLast;have h2:=(code_one k hk).2;rw [List.length_dropLast]at h;omega);have hs4:(pz (codesK ks)++pz (codeR k).dropLast).size≤20*j+20:=(by rw [ByteArray.size_append];omega);have HA:=Lib.hid (show pz (lettersK ks)++pz [97+(k:Int)] = pz (lettersK (ks++[k])) by rw [ee];unfold lettersK;rw [List.map_append];rfl);have HD:=Lib.hid (show(pz (codesK ks)++pz (codeR k).dropLast)++⟨#[32]⟩=pz (codesK (ks++[k])) by
   rw [show(⟨#[32]⟩:ByteArray)=pz [32] from rfl,ee,ee,List.append_assoc,code_blank k hk];unfold codesK;rw [List.flatMap_append,List.flatMap_cons,List.flatMap_nil,List.append_nil])
  have TA:=Lib.hid (show ∀ q∈ks++[k],q<26 by
   intro q hq;rcases List.mem_append.1 hq with h | h;exact HK.out q h;simp at h;omega)
  clear hks;generalize pz (lettersK ks)=S1 at *;generalize pz (codesK ks)=S2 at *;generalize pz (codeR k).dropLast=S3 at *;generalize pz [97+(k:Int)] = S4 at *;go_wp2_with fail;refine(HP.out _).mono ?_;rintro e w2 ⟨rfl,aL⟩;have aW:=Lib.hid (HB.out.trans (aL.mono HB.out.size));clear aL;go_wp2_with fail;refine(HC.out _).mono ?_;rintro e w3 ⟨rfl,bQ⟩;have bW:=Lib.hid (aW.out.trans (bQ.mono aW.out.size));clear bQ;go_wp2_with fail;exact⟨⟨j+1,ks++[k],by omega,by go_num,by rw [List.length_append,HKL.out];rfl,TA.out,by rw [HA.out],by rw [HD.out],bW.out⟩,by simp [intOf];omega⟩
 obtain rfl:j=n:=(by omega);by_cases h5:500<j
 ·have q0:decide ((500:Int)<(j:Int))=true:=decide_eq_true (by omega);clear hb hk26 hks;go_wp2_with fail;go_ret;exact⟨rfl,HB.out⟩
 have q0:decide ((500:Int)<(j:Int))=false:=decide_eq_false (by omega);have HT:=Lib.hid (fun(W:World)=>iM morseNB (pz (lettersK ks)) _ (fun W=>morse_turn HK.out (by omega) W) W);have HU:=Lib.hid (fun(W:World)=>morse_unturn HK.out (by omega) W);unfold iq at HU;have q1:((pz (lettersK ks)).toList ==(pz (lettersK ks)).toList)=true:=beq_self_eq_true _;clear hb hk26 hks;generalize pz (lettersK ks)=S1 at *;generalize pz (codesK ks)=S2 at *;go_wp2_with fail;refine(HU.out _).mono ?_;rintro e w2 ⟨rfl,aL⟩;have aW:=Lib.hid (HB.out.trans (aL.mono HB.out.size));clear aL;go_wp2_with fail;refine(HT.out _).mono ?_;rintro e w3 ⟨rfl,bQ⟩;have bW:=Lib.hid (aW.out.trans (bQ.mono aW.out.size));clear bQ;go_wp2_with fail;go_ret;exact⟨rfl,bW.out⟩
end Go.Proofs.YtapechjebkjidaaGreatDoor
namespace Go.Proofs.YtapechjebkjidaaGreatDoor
open Go.RowKit Go.ChangeShapes Go.WideShapes Go.ChangeAt
theorem flatten_mapM {α:Type} (enc:α→List Value):∀ (l:List α) (css:List (List Value)),l.length=css.length→(∀ (i:Nat) (a:α) (cs:List Value),l[i]? = some a→css[i]? = some cs→cs=enc a)→css.flatten=l.flatMap enc:=by
 intro l;induction l with
 | nil=>intro css h _;have:=List.eq_nil_of_length_eq_zero h.symm;subst this;rfl
 | cons a l ih=>
  intro css h hR;cases css with
  | nil=>simp at h
  | cons c css=>
   have h0:=hR 0 a c rfl rfl;subst h0;rw [List.flatten_cons,List.flatMap_cons,ih css (by simpa using h) (fun i a cs h1 h2=>hR (i+1) a cs (by simpa using h1) (by simpa using h2))]
theorem pick_listM {α:Type} {n:Nat} {p:Nat→α→Prop} (h:∀ i,i<n→∃ a,p i a):∃ l:List α,l.length=n∧∀ (i:Nat) (a:α),l[i]? = some a→p i a:=by
 induction n with
 | zero=>exact⟨[],rfl,by simp⟩
 | succ n ih=>
  obtain⟨l,hl,hp⟩:=ih (fun i hi=>h i (by omega));obtain⟨a,ha⟩:=h n (by omega);refine⟨l++[a],by simp [hl],fun i x hx=>?_⟩;rcases Nat.lt_trichotomy i n with hi | hi | hi;exact hp i x (by rw [List.getElem?_append_left (by omega)]at hx;exact hx)
  ·subst hi;rw [List.getElem?_append_right (by omega)]at hx;simp [hl]at hx;subst hx;exact ha
  rw [List.getElem?_eq_none (by simp;omega)]at hx;cases hx
theorem flatten_atM {css:List (List Value)} {sz:Nat} (hsz:0<sz) (h:∀ cs∈css,cs.length=sz):∀ (k:Nat) (u:Value),css.flatten[k]? = some u→∃ cs,css[k / sz]? = some cs∧cs[k % sz]? = some u:=by
 induction css with
 | nil=>intro k u hk;simp at hk
 | cons c css ih=>
  intro k u hk;have hc:c.length=sz:=h c (by simp);by_cases hlt:k<sz
  ·rw [Nat.div_eq_of_lt hlt,Nat.mod_eq_of_lt hlt];rw [List.flatten_cons,List.getElem?_append_left (by omega)]at hk;exact⟨c,rfl,hk⟩
  obtain⟨q,rfl⟩:∃ q,k=q+sz:=⟨k - sz,by omega⟩;rw [List.flatten_cons,List.getElem?_append_right (by omega),hc,Nat.add_sub_cancel]at hk;obtain⟨cs,h1,h2⟩:=ih (fun x hx=>h x (by simp [hx])) q u hk;rw [Nat.add_div_right _ hsz,Nat.add_mod_right];exact⟨cs,by simpa using h1,h2⟩
section
variable {H : Type} {enc : TypeId × Value → H} {P : Program} {w : World} {held : Bool}
/-- A slice that reads as data: each element's cells lie where they must, and are what R says of them. -/
theorem open_listM {α:Type} {t e:TypeId} {fuel:Nat} {A:Option Addr} {n c sz:Nat} {x:DataW H × List MemPlace} (ht:P.underlying t=some (.slice e)) (hC:P.cellsOf e=sz) (hsz:0<sz)
    (h:DataW.trod enc P w 0 (fun _=>true) held fuel t [.slice A n c] = some x) (R:α→List Value→Prop) (hel:∀ m cs y,DataW.trod enc P w 0 (fun _=>true) held m e cs=some y→∃ a,R a cs) :
    n≤c∧c≤maxLen∧∃ (l:List α) (css:List (List Value)),l.length=n∧css.length=n∧(∀ (i:Nat) (a:α) (cs:List Value),l[i]? = some a→css[i]? = some cs→R a cs)∧(∀ cs∈css,cs.length=sz) ∧
      Rd w w.heap.size sz A n css.flatten∧((x.1=.nil∧c=0)∨∃ elems spare,x.1=.slice elems spare∧elems.length+spare.length=c):=by
 rcases Deep.open_slice ht h with ⟨hcs,hx⟩ | ⟨a,len,cap,m,f,D,Pl,hcs,_,hl,hm,hmm,hx,hi⟩
 ·simp only [List.cons.injEq,Value.slice.injEq,and_true]at hcs;obtain⟨rfl,rfl,rfl⟩:=hcs;exact⟨Nat.le_refl _,Nat.zero_le _,[],[],rfl,rfl,by simp,by simp,Rd.nil,.inl ⟨by rw [hx],rfl⟩⟩
 simp only [List.cons.injEq,Value.slice.injEq,and_true]at hcs;obtain⟨rfl,rfl,rfl⟩:=hcs;simp only [if_true]at hmm;subst hmm;rw [hC]at hi;have hp:∀ i,i<n→∃ z:α × List Value,R z.1 z.2∧z.2.length=sz∧∀ j,j<sz→w.cell? ((a.add (i*sz)).add j)=z.2[j]?:=fun i hi'=>by
  obtain⟨cs,h1,h2⟩:=hi i (by omega);obtain⟨_,h3,h4⟩:=World.cells?_some h1;obtain⟨y,hy⟩:=hel _ _ _ h2;exact⟨(y,cs),hy,h3,h4⟩
 obtain⟨zs,hzl,hz⟩:=pick_listM hp;have hlen:∀ cs∈zs.map Prod.snd,cs.length=sz:=by
  intro cs hcs;obtain⟨z,rj,rfl⟩:=List.mem_map.1 hcs;obtain⟨i,hi1⟩:=List.mem_iff_getElem?.1 rj;exact(hz i z hi1).2.1
 refine⟨hl,hm,zs.map Prod.fst,zs.map Prod.snd,by simp [hzl],by simp [hzl],?_,hlen,⟨?_,fun hn=>?_⟩,.inr ⟨_,_,by rw [hx],by simp;omega⟩⟩
 ·intro i y cs h1 h2;simp only [List.getElem?_map,Option.map_eq_some_iff]at h1 h2;obtain⟨z,rj,rfl⟩:=h1;obtain⟨z',sY,rfl⟩:=h2;rw [rj]at sY;cases sY;exact(hz i z rj).1
 ·have:∀ (l:List (List Value)),(∀ cs∈l,cs.length=sz)→l.flatten.length=l.length*sz:=by
   intro l;induction l with
   | nil=>intro _;simp
   | cons c l ih=>
    intro hc;rw [List.flatten_cons,List.length_append,ih (fun x hx=>hc x (by simp [hx])),hc c (by simp),List.length_cons,Nat.succ_mul];omega
  rw [this _ hlen];simp [hzl]
 obtain⟨z0,hz0⟩:∃ z,zs[0]? = some z:=⟨_,List.getElem?_eq_getElem (by omega)⟩;obtain⟨_,IG,hc0⟩:=hz 0 z0 hz0;have h00:=hc0 0 hsz;rw [List.getElem?_eq_getElem (by omega)]at h00;simp only [Nat.zero_mul]at h00;have e0:(a.add 0).add 0=a:=(by simp [Addr.add]);rw [e0]at h00;have hsp:=World.cell?_spot h00;have eO:=World.block_lt_of_cell? _ _ h00;obtain⟨b,off,spot⟩:=a;simp only at hsp;subst hsp;refine⟨b,off,rfl,eO,fun j u hu=>?_⟩;obtain⟨cs,h1,h2⟩:=flatten_atM hsz hlen j u hu;simp only [List.getElem?_map,Option.map_eq_some_iff]at h1;obtain⟨z,rj,rfl⟩:=h1;obtain⟨_,h3,h4⟩:=hz _ z rj;have:=h4 (j % sz) (Nat.mod_lt _ hsz);rw [h2,jV,jV]at this;rw [← this];congr 2;rw [Nat.add_assoc,Nat.mul_comm,Nat.div_add_mod]
end
end Go.Proofs.YtapechjebkjidaaGreatDoor
namespace Go.Proofs.YtapechjebkjidaaGreatDoor
open Go.RowKit Go.ChangeShapes Go.WideShapes Go.ChangeAt
section
variable {H : Type} {enc : TypeId × Value → H} {w : World}
theorem open_ints {fuel n c:Nat} {A:Option Addr} {x:DataW H × List MemPlace} (h:DataW.trod enc Tryz.prog w 0 (fun _=>true) true fuel 36 [.slice A n c] = some x) :
    n≤c∧c≤maxLen∧(∃ l,LB w w.heap.size A n l)∧((x.1=.nil∧c=0)∨∃ elems spare,x.1=.slice elems spare∧elems.length+spare.length=c):=by
 obtain⟨h1,h2,l,css,hl,hc,hR,_,hrd,hx⟩:=open_listM Tryz.underlying36 (sz:=1) (by kernel_rfl) (by decide) h (fun(a:Int) cs=>cs = [.int .i64 a]) (fun m cs y hy=>by
  obtain⟨a,e,_,_⟩:=DataW.trod_int Tryz.underlying3 hy;exact⟨a,e⟩)
 rw [flatten_mapM (fun a:Int=>[.int .i64 a]) l css (by omega) hR]at hrd;refine⟨h1,h2,⟨l,?_⟩,hx⟩;unfold LB intCells;rw [List.map_eq_flatMap];exact hrd
theorem ints_small {d:DataW H} {c:Nat} (hsz:(DataW.weightsEach Tryz.prog [36] [d]).all (· ≤ reachBytes)=true) (hx:(d=.nil∧c=0)∨∃ elems spare,d=.slice elems spare∧elems.length+spare.length=c):c≤17592186044416:=by
 rcases hx with ⟨_,h⟩ | ⟨elems,spare,rfl,h⟩;omega;have h1:=sized_slice hsz (j:=0) rfl rfl Tryz.underlying36;have h2 : Tryz.prog.bytesOf 3 = 8:=(by kernel_rfl);rw [h2]at h1;unfold reachBytes at h1;omega
end
end Go.Proofs.YtapechjebkjidaaGreatDoor
namespace Go.Proofs.YtapechjebkjidaaGreatDoor
theorem bulk_one {H:Type} (d:DataW H):1≤Rows.uptoBulk d:=by
 cases d with
 | lit l=>cases l <;> simp [Rows.uptoBulk]
 | nil=>simp [Rows.uptoBulk]
 | ptr d=>simp [Rows.uptoBulk]
 | slice elems spare=>simp [Rows.uptoBulk]
 | agg parts=>simp [Rows.uptoBulk]
 | iface t d=>simp [Rows.uptoBulk]
 | map entries=>simp [Rows.uptoBulk]
 | held h=>simp [Rows.uptoBulk]
theorem bulk_len {H:Type} (l:List (DataW H)):l.length≤Rows.uptoBulkAll l:=by
 induction l with
 | nil=>simp
 | cons x r ih=>have:=bulk_one x;simp only [Rows.uptoBulkAll,List.length_cons];omega
theorem bulk_slice {H:Type} {d:DataW H} {c:Nat} (h:(d=.nil∧c=0)∨∃ elems spare,d=.slice elems spare∧elems.length+spare.length=c):c≤Rows.uptoBulk d:=by
 rcases h with ⟨_,rfl⟩ | ⟨elems,spare,rfl,rfl⟩;exact Nat.zero_le _;have h1:=bulk_len elems;have h2:=bulk_len spare;simp only [Rows.uptoBulk];omega
theorem bulk_string {H:Type} (s:ByteArray):s.size≤Rows.uptoBulk (DataW.lit (H:=H) (.string s.data.toList)):=by
 have e:s.data.toList.length=s.size:=(by rw [Array.length_toList];rfl);simp only [Rows.uptoBulk];omega
theorem bulk_bound {H:Type} {l:List (DataW H)} (hk:Rows.uptoSmall H l=true):Rows.uptoBulkAll l≤1048576:=of_decide_eq_true hk
end Go.Proofs.YtapechjebkjidaaGreatDoor
namespace Go.Proofs.YtapechjebkjidaaGreatDoor
open Go.RowKit Go.ChangeShapes Go.WideShapes Go.ChangeAt Go.Shelf
open Go.ChangeMaps (open_string shut_string)
theorem shelfmorse_reads (os:Os) {H:Type} (enc:TypeId × Value→H) :
    (OpenSpec.ofChange Rows.shelfMorseSpec).preRow enc Tryz.prog Tryz.f15 Rows.shelfMorseRow.domain false Rows.shelfMorseRow.laid ((cy os).forCall (fun _ _=>0) ⟨#[],#[.slice none 0 0],[]⟩).memory #[.slice none 0 0]:=by
 have hw:(DataW.whole enc Tryz.prog ((cy os).forCall (fun _ _=>0) ⟨#[],#[.slice none 0 0],[]⟩).memory Tryz.f15.params.toList Rows.shelfMorseSpec.vars false #[.slice none 0 0].toList 8).map (fun x=>(x.1,x.2.1)) =
     some ([.nil],[]):=by kernel_rfl
 obtain⟨⟨x1,x2,x3⟩,hx,hx1⟩:=Option.map_eq_some_iff.1 hw;simp only [Prod.mk.injEq]at hx1;obtain⟨rfl,rfl⟩:=hx1;exact OpenSpec.preRow_of_cond 8 hx (by kernel_rfl) (fun k hk=>by cases hk) (by kernel_rfl) (mz os _)
theorem shelfmorse_lifted (os:Os) (started:os.Started) (H:Type) (enc:TypeId × Value→H) (F:Stop.Interp) :
    ReturnsInHanded {} Tryz.checked os 15 .any ((OpenSpec.ofChange Rows.shelfMorseSpec).preRow enc Tryz.prog Tryz.f15 Rows.shelfMorseRow.domain false Rows.shelfMorseRow.laid) (((OpenSpec.ofChange Rows.shelfMorseSpec).at F).post enc Tryz.prog Tryz.f15 false true false false):=by
 refine returnsInHanded_of_row (C:=Tryz.checked) (s:=(OpenSpec.ofChange Rows.shelfMorseSpec)) mF started (by kernel_rfl) Tryz.func15
   (witness_row_atRef (enc:=enc) (C:=Tryz.checked) false (cy os) #[.slice none 0 0] rfl (by kernel_rfl) (by kernel_rfl) (by kernel_rfl) (shelfmorse_reads os enc)) ?_
 intro W base args ds gs before hval hW _ _ hsz _ _ _;have Ny:=hW;obtain⟨p,q,CS,hV,rfl,hfz,hnd⟩:=hW;have hA:DataW.TrodAll enc Tryz.prog W 0 (fun _=>true) true Tryz.f15.params.toList args.toList ds p:=CS;have ng:∀ (j:Nat) t v,Tryz.f15.params[j]? = some t→args[j]? = some v→Value.okWide Tryz.prog W .any base t v:=hval;rw [Tryz.params15]at hA ng;obtain⟨v0,d0,rfl,rfl,h0⟩:=trodAll_one hA;obtain⟨rfl,rfl⟩:=trodVars_none hV;obtain⟨A0,n0,c0,rfl⟩:=okWide_slice Tryz.underlying36 (ng 0 _ v0 rfl rfl);obtain⟨f0,h0⟩:=h0;obtain⟨hn0,hm0,⟨l0,IG⟩,hx0⟩:=open_ints (by simpa [Value.cells] using h0);dsimp only at hx0;have WT:(DataW.weightsEach Tryz.prog [36] [d0]).all (· ≤ reachBytes)=true:=hsz;refine(shelf_morse A0 n0 c0 l0 W (Nat.le_trans hn0 (ints_small WT hx0)) IG).mono fun e W' ⟨he,hb⟩=>⟨_,he,?_⟩;exact kV Tryz.underlying4 rfl rfl mQ (by kernel_rfl) Ny rfl hb
theorem shelfmorse_said:Rows.ShelfMorseSaid :=
  OpenClaim.holds_of_cond 15 Tryz.f15 rfl rfl rfl rfl rfl rfl rfl ⟨rfl,rfl,rfl,rfl,rfl⟩ rfl rfl rfl rfl rfl (by kernel_rfl) Tryz.func15 shelfmorse_joined
    (of_decide_eq_true (by kernel_rfl)) (by unfold Func.isWrapper;first | (rw [if_pos (by decide +kernel)];kernel_rfl) | (rw [if_neg (by decide +kernel)];exact⟨rfl,rfl⟩))
    (fun os started H enc _ F=>by rw [OpenClaim.pre_eq_preRow];exact shelfmorse_lifted os started H enc F)
theorem shelfmorse_plain (f:FuncId) (fn:Func) (hf : Tryz.pinned.checked.prog.funcNamed "scriptshift/scriptlaw16.ShelfMorse" = some f) (hfn : Tryz.pinned.checked.prog.funcs[f]? = some fn) :
    true = Tryz.pinned.checked.prog.looks []∧∀ (j:Nat) t,fn.params[j]? = some t → Tryz.pinned.checked.prog.wantsStandIn t=false:=by
 obtain rfl:f = 15:=Option.some.inj ((show Tryz.prog.funcNamed "scriptshift/scriptlaw16.ShelfMorse" = some 15 by kernel_rfl).symm.trans hf) |>.symm;obtain rfl:fn = Tryz.f15:=(Option.some.inj (Tryz.func15.symm.trans hfn)).symm;refine⟨by kernel_rfl,fun j t ht=>?_⟩;have h:(Tryz.f15.params.toList.all fun t=>!Tryz.prog.wantsStandIn t)=true:=(by kernel_rfl);have h2:=List.all_eq_true.1 h t (by simpa using Array.mem_of_getElem? ht);have h3 : Tryz.prog.wantsStandIn t=false:=(by simpa using h2);exact h3
/-- THE CARD. -/
theorem shelfmorse_card:Rows.ShelfMorseCardSaid :=
  Claim7.holds_tied_plain_at .later [] _ _ _ _ shelfmorse_said (fun _ h=>by cases h) (by kernel_rfl) (fun _ h=>by cases h) shelfMorse_row_tie rfl ⟨rfl,rfl⟩ (by kernel_rfl) rfl shelfmorse_plain (by kernel_rfl)
end Go.Proofs.YtapechjebkjidaaGreatDoor
