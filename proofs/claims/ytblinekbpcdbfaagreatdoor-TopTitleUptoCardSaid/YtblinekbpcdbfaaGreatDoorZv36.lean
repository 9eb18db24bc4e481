/- WordP + WordSplit + WordTitle + NormT + NormApart + NormKey -/
import Derived.Test.YtblinekbpcdbfaaGreatDoorZv35
import Derived.Test.YtblinekbpcdbfaaGreatDoorZv17
import Derived.Test.YtblinekbpcdbfaaGreatDoorZv22
import Derived.OneCell
import Derived.BigRegion
import Derived.Test.YtblinekbpcdbfaaGreatDoorZv8
import Derived.Test.YtblinekbpcdbfaaGreatDoorZv28
import Derived.Laws.OwnMore
import Derived.Deep.QuietTactic
import Derived.BigQuiet
import Derived.Test.YtblinekbpcdbfaaGreatDoorZv2
import Derived.Test.YtblinekbpcdbfaaGreatDoorZv18
import Derived.Test.YtblinekbpcdbfaaGreatDoorZv31
import Derived.Test.YtblinekbpcdbfaaGreatDoorZv32
set_option maxHeartbeats 6400000
set_option maxRecDepth 100000
namespace Go.Proofs.YtblinekbpcdbfaaGreatDoor
open Go.RowKit
structure kK where
  src:Nat
  upto:Nat
  GY:Bool
def bK (l:List kK):List Value:=l.flatMap fun k=>[.int .i64 k.src,.int .i64 k.upto,.bool k.GY]
theorem je (l:List kK):(bK l).length=l.length*3:=by
 induction l with
 | nil=>rfl
 | cons x l ih=>simp only [bK,List.flatMap_cons]at ih ⊢;simp [ih];omega
theorem ja (a b:List kK):bK (a++b)=bK a++bK b:=by simp [bK]
theorem BQ {l:List kK} {k:Nat} {x:kK} (h:l[k]? = some x):(bK l)[k*3]? = some (.int .i64 x.src)∧(bK l)[k*3+1]? = some (.int .i64 x.upto)∧(bK l)[k*3+2]? = some (.bool x.GY):=by
 induction l generalizing k with
 | nil=>simp at h
 | cons z l ih=>
  cases k with
  | zero=>simp at h;subst h;exact⟨by simp [bK],by simp [bK],by simp [bK]⟩
  | succ k=>
   have:=ih (k:=k) (by simpa using h);simp only [bK,List.flatMap_cons]at this ⊢;have e1:(k+1)*3=k*3+1+1+1:=(by omega);rw [e1];simpa using this
def qn (s i:Nat) (b:Bool):List Bool→List kK
  | []=>[⟨s,i,b⟩]
  | c::bs=>if c=b then qn s (i+1) b bs else ⟨s,i,b⟩::qn i (i+1) c bs
def jH:List Bool→List kK
  | []=>[]
  | b::bs=>qn 0 1 b bs
theorem zT {s i:Nat} {b c:Bool} {bs:List Bool} (h:c=b):qn s i b (c::bs)=qn s (i+1) b bs:=by rw [qn,if_pos h]
theorem DE {s i:Nat} {b c:Bool} {bs:List Bool} (h:c≠b):qn s i b (c::bs)=⟨s,i,b⟩::qn i (i+1) c bs:=by rw [qn,if_neg h]
def gR (s:aa) (t:List Int):List kK × Int:=if bA s≠0 then ([],bA s)else if cm t≠0 then ([],cm t)else (jH (t.map (aO s)),0)
def Eo (h:Int→Bool):Bool→List Int→List Int
  | _,[]=>[]
  | prev,r::t=>(if h r then (if prev then iM r else xT r)else r)::Eo h (h r) t
def iG (s:aa) (t:List Int):List Int × Int:=if (gR s t).2≠0 then ([],(gR s t).2)else (Eo (aO s) false t,0)
def Ce (h:Int→Bool) (t:List Int):Nat→Option Bool→List kK→Prop
  | a,_,[]=>a=t.length
  | a,prev,w::ws=>w.src=a∧a<w.upto∧w.upto≤t.length∧prev≠some w.GY∧(∀ i,a≤i→i<w.upto→(t[i]?).map h=some w.GY)∧Ce h t w.upto (some w.GY) ws
theorem KB (h:Int→Bool) (t:List Int):∀ (m:Nat) (s i:Nat) (b:Bool) (prev:Option Bool),i+m=t.length→s<i→prev≠some b→(∀ j,s≤j→j<i→(t[j]?).map h=some b)→Ce h t s prev (qn s i b ((t.drop i).map h)):=by
 intro m;induction m with
 | zero=>
  intro s i b prev hm hsi hp hall;rw [List.drop_of_length_le (by omega)];exact⟨rfl,hsi,by show i≤t.length;omega,hp,hall,by show i=t.length;omega⟩
 | succ m ih=>
  intro s i b prev hm hsi hp hall;have hi:i<t.length:=(by omega);rw [List.drop_eq_getElem_cons hi,List.map_cons];by_cases hc:h t[i] = b
  ·rw [zT hc];refine ih s (i+1) b prev (by omega) (by omega) hp (fun j h1 h2=>?_);rcases Nat.lt_or_ge j i with hj | hj;exact hall j h1 hj;obtain rfl:j=i:=(by omega);rw [List.getElem?_eq_getElem hi];simp [hc]
  rw [DE hc];refine⟨rfl,hsi,by show i≤t.length;omega,hp,hall,?_⟩;refine ih i (i+1) _ _ (by omega) (by omega) (by simp;exact fun e=>hc e.symm) (fun j h1 h2=>?_);obtain rfl:j=i:=(by omega);rw [List.getElem?_eq_getElem hi];rfl
theorem EJ (h:Int→Bool) (t:List Int):Ce h t 0 none (jH (t.map h)):=by
 cases t with
 | nil=>rfl
 | cons r t=>
  have:=KB h (r::t) t.length 0 1 (h r) none (by simp;omega) (by omega) (by simp) (fun j h1 h2=>by
   obtain rfl:j=0:=(by omega);rfl)
  simpa [jH] using this
theorem Nl:(Tryz.prog.info? 56).map (fun i=>(i.zero,i.size,i.bytes))=some (some (.agg #[.int .i64 0,.int .i64 0,.bool false]),3,24):=by kernel_rfl
def vO (lo:Nat) (w':World) (o:List kK × Int) (e:Ending):Prop :=
  ∃ (A:Option Addr) (n c:Nat),e=.returned (.tuple #[.slice A n c,.int .i64 o.2])∧cV w' (fun b=>lo≤b) 3 A n (bK o.1)∧n≤100000
theorem vO.nil (lo:Nat) (w':World) (a:Int):vO lo w' ([],a) (.returned (.tuple #[.slice none 0 0,.int .i64 a])):=⟨none,0,0,rfl,⟨rfl,fun h=>absurd h (Nat.lt_irrefl 0)⟩,Nat.zero_le _⟩
theorem MB (ws:List kK) (x:kK) (u:Nat):(bK (ws++[x])).set (ws.length*3+1) (.int .i64 u)=bK (ws++[{ x with upto:=u }]):=by
 rw [ja,ja,List.set_append_right _ _ (by rw [je];omega),je,Nat.add_sub_cancel_left];simp [bK]
def WH (w:World) (bs:List Bool) (n:Nat) (out i:Value) (wr:World):Prop :=
  ∃ (k:Nat) (ws:List kK) (m:Nat),k≤n∧i=.int .i64 k∧ws.length=m∧m≤k∧wr.ownsRow w.heap.size 56 3 out m (bK ws)∧Below w.heap.size w wr ∧
    ((k=0∧m=0)∨∃ (us:List kK) (a:Nat) (b:Bool),ws=us++[⟨a,k,b⟩]∧jH bs=us++qn a k b (bs.drop k))
theorem xJ {t:List Int} (h:cm t=0):t.length≤4000:=by
 unfold cm at h;by_cases h4:4000<t.length
 ·rw [if_pos h4]at h;cases h
 omega
theorem De (A At:Option Addr) (n c nt ct:Nat) (s:aa) (t:List Int) (w:World) (hn:n≤9223372036854775807) (hs:kM w w.heap.size A n s) (hnt:nt≤maxLen) (ht:nK w w.heap.size At nt t) :
    Calls Tryz.prog 16 #[.slice A n c,.slice At nt ct] w fun e w'=>vO w.heap.size w' (gR s t) e∧Below w.heap.size w w':=by
 obtain⟨i1,hi1,z0,z1,z2⟩:=info_parts Nl;have HS:=qqh (fun(W:World) (hb:Below w.heap.size w W)=>show kM W W.heap.size A n s from(Rd.below hs hb).more hb.size);have HT:=qqh (fun(W:World) (hb:Below w.heap.size w W)=>show nK W W.heap.size At nt t from(Rd.below ht hb).more hb.size);have Yo:=qqh ht;have zn:=qqh (show t.length=nt from ht.len);have HP:=qqh (iy A n c s w hn hs);have HQ:=qqh (fun(W:World) (hb:Below w.heap.size w W)=>mN At nt ct t W hnt (HT.out W hb));clear hs ht;obtain⟨f1,o8⟩:∃ f,bA s=f:=⟨_,rfl⟩;have fY:=qqh o8;rw [o8]at HP;clear o8;go_enter Tryz.func16,Tryz.ntmps16;go_wp2_with fail;refine HP.out.mono ?_;rintro e w1 ⟨rfl,aT⟩;have bJ:=qqh aT;clear aT HP;by_cases hz:f1=0
 ·subst hz;obtain⟨f2,nF⟩:∃ f,cm t=f:=⟨_,rfl⟩;have fo:=qqh nF;go_wp2_with fail;refine(HQ.out w1 bJ.out).mono ?_;rintro e w2 ⟨rfl,aX⟩;have bL:=qqh (bJ.out.trans (aX.mono bJ.out.size));rw [nF];clear aX nF bJ HQ;by_cases hz:f2=0
  ·subst hz;have HG:=qqh (show gR s t=(jH (t.map (aO s)),0) by unfold gR;rw [fY.out,fo.out,if_neg (fun h=>h rfl),if_neg (fun h=>h rfl)]);have UH:nt≤4000:=(by have:=(xJ fo.out);have:=zn.out;omega);have tH:=qqh (mB fY.out);have qY:=qqh (show(t.map (aO s)).length=nt by rw [List.length_map];exact zn.out);have CS:=bL.out.size;go_wp2_with fail;go_loopw [8,25] (WH w (t.map (aO s)) nt) (fun _ i _=>nt - (intOf i).toNat);(case atStart=>exact⟨0,[],0,Nat.zero_le _,rfl,rfl,qql,World.ownsRow_nil _ _ _ _,bL.out,.inl ⟨rfl,rfl⟩⟩);obtain⟨k,ws,m,hk,rfl,hm,hmk,ho,hb,hst⟩:=hrel;have HM:=qqh hm;have HO:=qqh ho;have HB:=qqh hb;have fF:=qqh hst;have hz:=hb.size;clear hm hst;by_cases hlt:k<nt
   ·obtain⟨x,hx⟩:∃ x,t[k]? = some x:=⟨_,List.getElem?_eq_getElem (by rw [zn.out];exact hlt)⟩;obtain⟨b1,o1,rfl,ey,xU⟩:=Yo.out.2 (by omega);have hd:wr.cell? ⟨b1,o1+k,none⟩=some (.int .i32 x):=(hb.cell (p:=⟨b1,o1+k,none⟩) ey).trans (xU k _ (by simp [runeCells,hx]));have iD:(t.map (aO s))[k]? = some (aO s x):=(by simp [hx]);have KG:=qqh (show(t.map (aO s)).drop k=aO s x::(t.map (aO s)).drop (k+1) from cT iD);have HH:=qqh (rO A n c s x wr tH.out (HS.out wr hb));obtain⟨Ao,co,rfl,_⟩:=aJ ho;clear hx xU iD hb ho;go_wp2_with fail;refine HH.out.mono ?_;rintro e w5 ⟨rfl,dN⟩;have dG:=qqh (HB.out.trans (dN.mono hz));have oH:=qqh (dF HO.out dN);obtain⟨hx,Am⟩:∃ h,aO s x=h:=⟨_,rfl⟩;rw [Am]at KG ⊢;clear dN HB HO HH hd Am;rcases fF.out with ⟨rfl,rfl⟩ | ⟨us,a,b,OE,hrun⟩
    ·have HWS:=qqh (show ws = [] from List.eq_nil_of_length_eq_zero HM.out);have HN:=qqh (Rd.new w5 56 3 1 [.int .i64 ((0:Nat):Int),.int .i64 (((0:Nat):Int)+1),.bool hx] rfl);have H1:=qqh (show ∀ u ∈ [Value.int .i64 ((0:Nat):Int),.int .i64 (((0:Nat):Int)+1),.bool hx],u.oneCell'=true by intro u hu;simp at hu;rcases hu with rfl | rfl | rfl <;> rfl);have KP:=qqh (World.ownsRow.alloc oH.out (.cells #[.int .i64 ((0:Nat):Int),.int .i64 (((0:Nat):Int)+1),.bool hx] 56));have Ad:=qqh (dG.out.alloc dG.out.size (.cells #[.int .i64 ((0:Nat):Int),.int .i64 (((0:Nat):Int)+1),.bool hx] 56));have HD0:=qqh (show jH (t.map (aO s)) = []++qn 0 1 hx ((t.map (aO s)).drop 1) by
      have h:=KG.out;rw [List.drop_zero]at h;rw [h];rfl)
     simp only [Int.natCast_zero,Int.zero_add]at HN H1 KP Ad;go_wp2_with (at_builtin;refine ai _ rfl (.tmp 55) (.tmp 61) 52 rfl w.heap.size 56 i1 _ 3 24 Tryz.underlying52 hi1 z0 z1 z2 rfl (by decide) _ 0 _ rfl KP.out _ (some ⟨w5.heap.size,0,none⟩) 1 1 [.int .i64 0,.int .i64 1,.bool hx] rfl HN.out H1.out (by simp only [maxLen];omega) (by omega) Ad.out.size ?_);intro v9 w9 ak;have eF:=qqh (Ad.out.trans (ak.below Ad.out.size KP.out));have ir:=qqh (show w9.ownsRow w.heap.size 56 3 v9 1 (bK ([]++[⟨0,1,hx⟩])) by
      have h:=ak.own;rw [HWS.out]at h;exact h)
     clear ak;go_wp2_with fail;exact⟨⟨1,[]++[⟨0,1,hx⟩],1,by omega,rfl,rfl,qql,ir.out,eF.out,.inr ⟨[],0,hx,rfl,HD0.out⟩⟩,by simp [intOf];omega⟩
    have OF:us.length+1=m:=(by rw [← HM.out,OE];simp);obtain⟨g,co',hv,_,Xr,Qd⟩:=mz oH.out (by omega);cases hv;obtain⟨q,hq⟩:∃ q,us.length=q:=⟨_,rfl⟩;obtain rfl:q+1=m:=(by omega);have O5:=qqh hq;have HWS:=qqh OE;have Ij:=qqh (show jH (t.map (aO s))=us++qn a k b (hx::(t.map (aO s)).drop (k+1)) by rw [hrun,KG.out]);have hcell:=fun(j:Nat) (u:Value) (hu:(bK ws)[j]? = some u)=>(gz g 0 j) ▸ World.ownsRow.cells oH.out (g:=g) rfl j u hu;have hwg:ws[q]? = some ⟨a,k,b⟩:=(by rw [OE,List.getElem?_append_right (by omega),hq,Nat.sub_self];rfl);obtain⟨e0,e1,e2⟩:=BQ hwg;have c1:=hcell _ _ e1;have c2:=hcell _ _ e2;rw [Nat.zero_add]at c1 c2;have fz:∀ j,w5.frozen? ⟨g,j,none⟩=false:=fun j=>by
     obtain⟨_,h2⟩:=oH.out;rcases h2 with ⟨h3,_⟩ | ⟨g',cap,cur,h3,_,hh,_⟩
     ·cases h3
     cases h3;simp [World.frozen?,hh]
    have f1:=fz (q*3+1);have X5:=oH.out.stored (q*3+1) (.int .i64 ((k+1:Nat):Int));rw [OE,← hq,MB]at X5;rw [hq]at X5;have VV:=qqh X5.1;have K9:=qqh (dG.out.setCell (p:=⟨g,q*3+1,none⟩) Xr (.int .i64 ((k+1:Nat):Int)));have UF:(0:Int)≤(q:Int):=(by omega);clear hcell hwg e0 e1 e2 fz X5 OE hrun hq OF;by_cases Qf:b=hx
    ·subst Qf;have dP:=qqh (show jH (t.map (aO s))=us++qn a (k+1) b ((t.map (aO s)).drop (k+1)) by rw [Ij.out,zT rfl]);have ek:((k+1:Nat):Int)=(k:Int)+1:=(by omega);rw [ek]at VV K9;clear ek;go_wp2_with fail;exact⟨⟨k+1,us++[⟨a,k+1,b⟩],q+1,by omega,by go_num,by rw [List.length_append,O5.out];rfl,by omega,VV.out,K9.out,.inr ⟨us,a,b,rfl,dP.out⟩⟩,by simp [intOf];omega⟩
    have dP:=qqh (show jH (t.map (aO s))=(us++[⟨a,k,b⟩])++qn k (k+1) hx ((t.map (aO s)).drop (k+1)) by rw [Ij.out,DE (fun e=>Qf e.symm),List.append_assoc];rfl);have hne:(b == hx)=false:=(by rw [beq_eq_false_iff_ne];exact Qf);have HN:=qqh (Rd.new w5 56 3 1 [.int .i64 k,.int .i64 ((k:Int)+1),.bool hx] rfl);have H1:=qqh (show ∀ u ∈ [Value.int .i64 k,.int .i64 ((k:Int)+1),.bool hx],u.oneCell'=true by intro u hu;simp at hu;rcases hu with rfl | rfl | rfl <;> rfl);have KP:=qqh (World.ownsRow.alloc oH.out (.cells #[.int .i64 k,.int .i64 ((k:Int)+1),.bool hx] 56));have Ad:=qqh (dG.out.alloc dG.out.size (.cells #[.int .i64 k,.int .i64 ((k:Int)+1),.bool hx] 56));clear Qf f1;go_wp2_with (at_builtin;refine ai _ rfl (.tmp 55) (.tmp 61) 52 rfl w.heap.size 56 i1 _ 3 24 Tryz.underlying52 hi1 z0 z1 z2 rfl (by decide) _ (q+1) _ rfl KP.out _ (some ⟨w5.heap.size,0,none⟩) 1 1 [.int .i64 k,.int .i64 ((k:Int)+1),.bool hx] rfl HN.out H1.out (by simp only [maxLen];omega) (by omega) Ad.out.size ?_);intro v9 w9 ak;have eF:=qqh (Ad.out.trans (ak.below Ad.out.size KP.out));have ir:=qqh (show w9.ownsRow w.heap.size 56 3 v9 (q+1+1) (bK ((us++[⟨a,k,b⟩])++[⟨k,k+1,hx⟩])) by
     have h:=ak.own;rw [HWS.out]at h;rw [ja];exact h)
    clear ak;go_wp2_with fail;exact⟨⟨k+1,(us++[⟨a,k,b⟩])++[⟨k,k+1,hx⟩],q+1+1,by omega,by go_num,by rw [List.length_append,List.length_append,O5.out];rfl,by omega,ir.out,eF.out,.inr ⟨us++[⟨a,k,b⟩],k,hx,rfl,dP.out⟩⟩,by simp [intOf];omega⟩
   obtain rfl:k=nt:=(by omega);have uE:=qqh (show jH (t.map (aO s))=ws by
    rcases fF.out with ⟨h0,h1⟩ | ⟨us,a,b,OE,hrun⟩
    ·have e1:ws = []:=List.eq_nil_of_length_eq_zero (by rw [HM.out];exact h1);have e2:t.map (aO s) = []:=List.eq_nil_of_length_eq_zero (by rw [qY.out];exact h0);rw [e1,e2];rfl
    rw [hrun,OE,List.drop_of_length_le (by rw [qY.out];exact qql)];rfl)
   have HR:=qqh (show ∃ A c,u8=.slice A m c∧cV wr (fun b=>w.heap.size≤b) 3 A m (bK (jH (t.map (aO s)))) by
    obtain⟨A',c',e,_⟩:=aJ HO.out;have h:=HO.out;rw [e]at h;refine⟨A',c',e,?_⟩;rw [uE.out];exact cV.cC h (fun b hb=>(bk h hb).1))
   obtain⟨A',c',rfl,hr⟩:=HR.out;have dP:=qqh hr;clear hr ho hb;go_wp2_with fail;go_ret2;rw [HG.out];exact⟨⟨A',m,c',rfl,dP.out,by omega⟩,HB.out⟩
  have HG:=qqh (show gR s t=([],f2) by unfold gR;rw [fY.out,fo.out,if_neg (fun h=>h rfl),if_pos hz]);go_wp2_with fail;go_ret2;rw [HG.out];exact⟨vO.nil _ _ _,bL.out⟩
 have HG:=qqh (show gR s t=([],f1) by unfold gR;rw [fY.out,if_pos hz]);go_wp2_with fail;go_ret2;rw [HG.out];exact⟨vO.nil _ _ _,bJ.out⟩
theorem qb (h:Int→Bool):∀ (t:List Int) (p:Bool),(Eo h p t).length=t.length:=by
 intro t;induction t with
 | nil=>intro p;rfl
 | cons r t ih=>intro p;rw [Eo,List.length_cons,List.length_cons,ih]
theorem Pa (h:Int→Bool):∀ (t:List Int) (p:Bool) (i:Nat) (r:Int),t[i]? = some r→(Eo h p t)[i]? = some (if h r then (if (if i=0 then p else ((t[i - 1]?).map h).getD false)then iM r else xT r)else r):=by
 intro t;induction t with
 | nil=>intro p i r hi;simp at hi
 | cons x t ih=>
  intro p i r hi;cases i with
  | zero=>simp at hi;subst hi;simp [Eo]
  | succ i=>
   have:=ih (h x) i r (by simpa using hi);rw [Eo,List.getElem?_cons_succ,this,if_neg (Nat.succ_ne_zero i),Nat.add_sub_cancel];congr 3;cases i with
   | zero=>simp
   | succ i=>simp
theorem Ea {α:Type} {l:List α} {k:Nat} {x:α} (h:l[k]? = some x):l.take (k+1)=l.take k++[x]:=by
 rw [List.take_add_one,h];rfl
theorem Ho {a b:List Int} {i:Nat} {x:Int} (hl:a.length=b.length) (hi:a[i]? = some x):(a.take i++b.drop i).set i x=a.take (i+1)++b.drop (i+1):=by
 have h1:i<a.length:=(List.getElem?_eq_some_iff.1 hi).1;have h2:(a.take i).length=i:=(by rw [List.length_take];omega);rw [List.set_append_right _ _ (by omega),h2,Nat.sub_self,List.drop_eq_getElem_cons (by omega:i<b.length),List.set_cons_zero,Ea hi,List.append_assoc];rfl
theorem Qr {a b:List Int} {i:Nat} (hl:a.length=b.length) (hi:i<b.length):(a.take i++b.drop i)[i]? = b[i]?:=by
 have h2:(a.take i).length=i:=(by rw [List.length_take];omega);rw [List.getElem?_append_right (by omega),h2,Nat.sub_self,List.getElem?_drop,Nat.add_zero]
theorem M4 {a b:List Int} {i j:Nat} (hl:a.length=b.length) (hij:i≤j) (he:∀ k,i≤k→k<j→a[k]? = b[k]?):a.take i++b.drop i=a.take j++b.drop j:=by
 apply List.ext_getElem?;intro k;simp only [List.getElem?_append,List.getElem?_take,List.getElem?_drop,List.length_take];have hb:∀ q:Nat,a.length≤q→b[q]? = none:=fun q hq=>List.getElem?_eq_none (by omega);have ha:∀ q:Nat,a.length≤q→a[q]? = none:=fun q hq=>List.getElem?_eq_none hq;by_cases h1:k<i
 ·by_cases h3:k<a.length
  ·rw [if_pos (by omega),if_pos h1,if_pos (by omega),if_pos (by omega)]
  rw [if_neg (by omega),if_neg (by omega),hb _ (by omega),hb _ (by omega)]
 by_cases h3:k<a.length
 ·rw [if_neg (by omega)];by_cases h2:k<j
  ·rw [if_pos (by omega),if_pos h2,he k (by omega) h2,show i+(k - min i a.length)=k by omega]
  rw [if_neg (by omega),show i+(k - min i a.length)=k by omega,show j+(k - min j a.length)=k by omega]
 rw [if_neg (by omega),if_neg (by omega),hb _ (by omega),hb _ (by omega)]
theorem zG (l:List Int) (i:Nat) (x:Int):(runeCells l).set i (.int .i32 x)=runeCells (l.set i x):=by simp [runeCells,List.map_set]
def xK (lo:Nat) (w':World) (o:List Int × Int) (e:Ending):Prop :=
  ∃ (A:Option Addr) (n c:Nat),e=.returned (.tuple #[.slice A n c,.int .i64 o.2])∧cV w' (fun b=>lo≤b) 1 A n (runeCells o.1)
theorem xK.nil (lo:Nat) (w':World) (a:Int):xK lo w' ([],a) (.returned (.tuple #[.slice none 0 0,.int .i64 a])):=⟨none,0,0,rfl,⟨rfl,fun h=>absurd h (Nat.lt_irrefl 0)⟩⟩
def Rw (h:Int→Bool) (t:List Int) (a:Nat) (prev:Option Bool):Prop:=(prev=none∧a=0)∨∃ p,prev=some p∧0<a∧(t[a - 1]?).map h=some p
def Xi (h:Int→Bool) (t TT:List Int) (ws:List kK) (nt m:Nat) (W1:World) (out i:Value) (wr:World):Prop :=
  ∃ (k a:Nat) (prev:Option Bool),k≤m∧i=.int .i64 k∧a≤nt∧Ce h t a prev (ws.drop k)∧Rw h t a prev∧wr.ownsRow W1.heap.size 21 1 out nt (runeCells (TT.take a++t.drop a))∧Below W1.heap.size W1 wr
def SM (t TT:List Int) (nt a u g:Nat) (cs:Array Value) (W1:World) (out i_:Value) (wr:World):Prop :=
  ∃ i:Nat,a≤i∧i≤u∧i_=.int .i64 i∧wr.ownsRow W1.heap.size 21 1 out nt (runeCells (TT.take i++t.drop i))∧aj wr g 56 cs∧Below W1.heap.size W1 wr
theorem CN (A At:Option Addr) (n c nt ct:Nat) (s:aa) (t:List Int) (w:World) (hn:n≤9223372036854775807) (hs:kM w w.heap.size A n s) (hnt:nt≤maxLen) (ht:nK w w.heap.size At nt t) :
    Calls Tryz.prog 7 #[.slice A n c,.slice At nt ct] w fun e w'=>xK w.heap.size w' (iG s t) e∧Below w.heap.size w w':=by
 obtain⟨i0,hi,y0,y1,y2⟩:=info_parts Tryz.info21;have HP:=qqh (De A At n c nt ct s t w hn hs hnt ht);have zj:=qqh (fun(W:World) (hb:Below w.heap.size w W)=>show nK W W.heap.size At nt t from(Rd.below ht hb).more hb.size);have zn:=qqh (show t.length=nt from ht.len);have Oi:=qqh (show(gR s t).2=0→cm t=0∧(gR s t).1=jH (t.map (aO s)) by
  intro h;unfold gR at h ⊢;by_cases h1:bA s=0
  ·rw [if_neg (fun h2=>h2 h1)]at h ⊢;by_cases h2:cm t=0
   ·rw [if_neg (fun h3=>h3 h2)]at h ⊢;exact⟨h2,rfl⟩
   rw [if_pos h2]at h;exact absurd h h2
  rw [if_pos h1]at h;exact absurd h h1)
 obtain⟨ws,f1,Zy⟩:∃ ws f1,gR s t=(ws,f1):=⟨_,_,rfl⟩;have Rz:=qqh (show iG s t=if f1≠0 then ([],f1)else (Eo (aO s) false t,0) by unfold iG;rw [Zy]);rw [Zy]at HP Oi;dsimp only at HP Oi;clear hs ht Zy;go_enter Tryz.func7,Tryz.ntmps7;go_wp2_with fail;refine HP.out.mono ?_;rintro e w1 ⟨⟨A1,m,c1,rfl,hr,hm⟩,aT⟩;dsimp only at hr ⊢;have bJ:=qqh aT;have iE:=qqh hr;have VO:=qqh (show ws.length=m by have:=hr.1;rw [je]at this;omega);clear aT hr HP;by_cases hz:f1=0
 ·subst hz;have HG:=qqh (Rz.out.trans (if_neg (fun h=>h rfl)));obtain⟨ht0,OE⟩:=Oi.out rfl;have UH:nt≤4000:=(by have:=xJ ht0;have:=zn.out;omega);have HGD:=qqh (show Ce (aO s) t 0 none ws by rw [OE];exact EJ _ _);have LC:=qqh (show(Eo (aO s) false t).length=t.length from qb _ _ _);have HTG:=qqh (fun(i:Nat) (r:Int) (h:t[i]? = some r)=>Pa (aO s) t false i r h);generalize Zo:Eo (aO s) false t=TT at *;have dP:=qqh (zj.out w1 bJ.out);clear ht0 OE Oi Rz Zo;go_wp2_with (at_builtin;refine ai _ rfl _ (.tmp 21) 24 rfl w1.heap.size 21 i0 _ 1 4 Tryz.underlying24 hi y0 y1 y2 rfl (by decide) _ 0 [] rfl (World.ownsRow_nil _ _ _ _) _ At nt ct (runeCells t) rfl dP.out (bh _) (by simp only [maxLen];omega) (by omega) qql ?_);intro v1 w2 ak;have bL:=qqh (ak.Kh);have nE:=qqh (show w2.ownsRow w1.heap.size 21 1 v1 nt (runeCells (TT.take 0++t.drop 0)) by have:=ak.own;simpa using this);clear ak;obtain⟨Av,cv,rfl,_⟩:=aJ nE.out;go_wp2_with fail;go_loopw [25] (Xi (aO s) t TT ws nt m w1 (.slice Av nt cv)) (fun i _=>m - (intOf i).toNat);(case atStart=>exact⟨0,0,none,Nat.zero_le _,rfl,Nat.zero_le _,HGD.out,.inl ⟨rfl,rfl⟩,nE.out,bL.out⟩);obtain⟨k,a,prev,hk,rfl,ahW,QD,ZP,ho,hb⟩:=hrel;have HO:=qqh ho;have HB:=qqh hb;have hz:=hb.size;by_cases hlt:k<m
  ·obtain⟨x,hx⟩:∃ x,ws[k]? = some x:=⟨_,List.getElem?_eq_getElem (by rw [VO.out];exact hlt)⟩;rw [cT hx]at QD;obtain⟨hsrc,hau,hun,Zq,hall,S6⟩:=QD;obtain⟨xs,u,GY⟩:=x;dsimp only at hsrc hau hun Zq hall S6;subst hsrc;have hun:u≤nt:=(by have:=zn.out;omega);obtain⟨b1,o1,rfl,_,ey,xU⟩:=iE.out.2 (by omega);obtain⟨e0,e1,e2⟩:=BQ hx;have d0:wr.cell? ⟨b1,o1+k*3,none⟩=some (.int .i64 xs):=(hb.cell (p:=⟨b1,o1+k*3,none⟩) ey).trans (xU _ _ e0);have d1:wr.cell? ⟨b1,o1+k*3+1,none⟩=some (.int .i64 u):=(hb.cell (p:=⟨b1,o1+k*3+1,none⟩) ey).trans (by rw [Nat.add_assoc];exact xU _ _ e1);have d2:wr.cell? ⟨b1,o1+k*3+2,none⟩=some (.bool GY):=(hb.cell (p:=⟨b1,o1+k*3+2,none⟩) ey).trans (by rw [Nat.add_assoc];exact xU _ _ e2);have rE:=qqh hall;have Wm:=qqh S6;have UN:=qqh (show Rw (aO s) t u (some GY) from .inr ⟨GY,rfl,by omega,hall (u - 1) (by omega) (by omega)⟩);have HAH:=qqh (fun(hi:GY=true)=>show(if xs=0 then false else ((t[xs - 1]?).map (aO s)).getD false)=false by
    rcases ZP with ⟨rfl,rfl⟩ | ⟨p,rfl,h0,h1⟩
    ·simp
    rw [if_neg (by omega),h1];subst hi;cases p;rfl;exact absurd rfl Zq)
   have hba:=(Below.refl wr.heap.size wr).alloc qql (.cells #[.int .i64 xs,.int .i64 u,.bool GY] 56);have HX:=qqh (aj.new wr 56 #[.int .i64 xs,.int .i64 u,.bool GY]);have dG:=qqh (HB.out.trans (hba.mono hz));have oH:=qqh (dF ho hba);obtain⟨g,co,hv,_,hg1,hg2⟩:=mz ho (by omega);cases hv;obtain⟨wo,rfl⟩:∃ wo:World,wo=wr:=⟨_,rfl⟩;clear hx hall S6 ZP Zq e0 e1 e2 xU hba ho hb HO HB;go_upto_region 8 with fail;generalize wo.alloc (.cells #[.int .i64 xs,.int .i64 u,.bool GY] 56)=W5 at *;have KJ:=HX.out.lt;clear d0 d1 d2;have x0:=HX.out.cell 0;cases GY
   ·have TA:=qqh (show W5.ownsRow w1.heap.size 21 1 (.slice (some ⟨g,0,none⟩) nt cv) nt (runeCells (TT.take u++t.drop u)) by
     rw [← M4 (i:=xs) LC.out (by omega) (fun q h1 h2=>by
      obtain⟨r,hr⟩:∃ r,t[q]? = some r:=⟨_,List.getElem?_eq_getElem (by rw [zn.out];omega)⟩;have hh:=rE.out q h1 h2;rw [hr]at hh;simp at hh;rw [HTG.out q r hr,if_neg (by rw [hh];decide),hr])]
     exact oH.out)
    have x2:=HX.out.cell 2;go_wp2_with fail;go_loopw [] (fun wr=>wr=W5) (fun _=>0);(case atStart=>rfl);subst hrel;go_wp2_with fail;exact⟨⟨k+1,u,some false,by omega,by go_num,hun,Wm.out,UN.out,TA.out,dG.out⟩,by simp [intOf];omega⟩
   go_wp2_with fail;go_loopw [11] (SM t TT nt xs u wo.heap.size #[.int .i64 xs,.int .i64 u,.bool true] w1 (.slice (some ⟨g,0,none⟩) nt cv)) (fun i _=>u - (intOf i).toNat);(case atStart=>exact⟨xs,qql,by omega,rfl,oH.out,HX.out,dG.out⟩);obtain⟨i,hai,hiu,rfl,ho,hx,hb⟩:=hrel;have T4:=qqh ho;have Yc:=qqh hx;have S8:=qqh hb;have q0:=hx.cell 0;have q1:=hx.cell 1;have q2:=hx.cell 2;have hzi:=hb.size;clear ho hx hb;by_cases hlt2:i<u
   ·obtain⟨r,hr⟩:∃ r,t[i]? = some r:=⟨_,List.getElem?_eq_getElem (by rw [zn.out];omega)⟩;have hh:=rE.out i hai hlt2;rw [hr]at hh;simp only [Option.map_some,Option.some.injEq]at hh;have Uf:=HTG.out i r hr;rw [hh,if_pos rfl]at Uf;have xy:(runeCells (TT.take i++t.drop i))[i]? = some (.int .i32 r):=by
     rw [dU,Qr LC.out (by rw [zn.out];omega),hr];rfl
    have c0:wr.cell? ⟨g,i,none⟩=some (.int .i32 r):=by
     have h:=World.ownsRow.cells T4.out (g:=g) rfl i _ xy;rwa [gz,Nat.zero_add]at h
    have fz:∀ (W:World) (xs':List Value),W.ownsRow w1.heap.size 21 1 (.slice (some ⟨g,0,none⟩) nt cv) nt xs'→∀ j,W.frozen? ⟨g,j,none⟩=false:=fun W xs' h j=>by
     rcases h.2 with ⟨h3,_⟩ | ⟨g',cap,cur,h3,_,XO,_⟩
     ·cases h3
     cases h3;simp [World.frozen?,XO]
    have FZ:=qqh fz;have hi0:(0:Int)≤(i:Int):=(by omega);have hi1:(i:Int)<(nt:Int):=(by omega);by_cases ZB:i=xs
    ·have hE:((i:Int) ==(xs:Int))=true:=(by rw [beq_iff_eq];omega);have HTV:=qqh (show TT[i]? = some (xT r) by rw [Uf,ZB,HAH.out trivial,if_neg (by decide)]);clear hr hh Uf xy ZB fz;go_wp2_with fail;refine(tT r _).mono ?_;rintro e w7 ⟨rfl,fG⟩;have Et:=qqh (dF T4.out fG);have Kg:=qqh (aj.below Yc.out fG Yc.out.lt);have kR:=qqh (S8.out.trans (fG.mono hzi));have f7:=FZ.out w7 _ Et.out i;have c7:w7.cell? ⟨g,i,none⟩=some (.int .i32 r):=(fG.cell (p:=⟨g,i,none⟩) (bk T4.out rfl).2).trans c0;have hst:=Et.out.stored i (.int .i32 (xT r));rw [zG,Ho LC.out HTV.out]at hst;have IU:=qqh hst.1;have TU:=qqh (show aj (w7.setCell ⟨g,i,none⟩ (.int .i32 (xT r))) wo.heap.size 56 #[.int .i64 xs,.int .i64 u,.bool true] from(Below.heap_setCell _ _ _ _ (by simp only;omega)).trans Kg.out);have qM:=qqh (kR.out.setCell (p:=⟨g,i,none⟩) hg1 (.int .i32 (xT r)));clear fG hst c0;go_wp2_with fail;exact⟨⟨i+1,by omega,by omega,by go_num,IU.out,TU.out,qM.out⟩,by simp [intOf];omega⟩
    have hE:((i:Int) ==(xs:Int))=false:=(by rw [beq_eq_false_iff_ne];omega);have HTV:=qqh (show TT[i]? = some (iM r) by
     have h1:=rE.out (i - 1) (by omega) (by omega);rw [Uf,if_neg (show ¬ i=0 by omega),h1,if_pos (show(some true).getD false=true from rfl)])
    clear hr hh Uf xy ZB fz;go_wp2_with fail;refine(nG r _).mono ?_;rintro e w7 ⟨rfl,fG⟩;have Et:=qqh (dF T4.out fG);have Kg:=qqh (aj.below Yc.out fG Yc.out.lt);have kR:=qqh (S8.out.trans (fG.mono hzi));have f7:=FZ.out w7 _ Et.out i;have c7:w7.cell? ⟨g,i,none⟩=some (.int .i32 r):=(fG.cell (p:=⟨g,i,none⟩) (bk T4.out rfl).2).trans c0;have hst:=Et.out.stored i (.int .i32 (iM r));rw [zG,Ho LC.out HTV.out]at hst;have IU:=qqh hst.1;have TU:=qqh (show aj (w7.setCell ⟨g,i,none⟩ (.int .i32 (iM r))) wo.heap.size 56 #[.int .i64 xs,.int .i64 u,.bool true] from(Below.heap_setCell _ _ _ _ (by simp only;omega)).trans Kg.out);have qM:=qqh (kR.out.setCell (p:=⟨g,i,none⟩) hg1 (.int .i32 (iM r)));clear fG hst c0;go_wp2_with fail;exact⟨⟨i+1,by omega,by omega,by go_num,IU.out,TU.out,qM.out⟩,by simp [intOf];omega⟩
   obtain rfl:i=u:=(by omega);go_wp2_with fail;exact⟨⟨k+1,i,some true,by omega,by go_num,hun,Wm.out,UN.out,T4.out,S8.out⟩,by simp [intOf];omega⟩
  obtain rfl:k=m:=(by omega);rw [List.drop_of_length_le (by rw [VO.out];exact qql)]at QD;have ha:a=t.length:=QD;have HOF:=qqh (show wr.ownsRow w1.heap.size 21 1 (.slice Av nt cv) nt (runeCells TT) by
   have h:=ho;rw [ha,List.drop_length,List.append_nil,List.take_of_length_le (by rw [LC.out];exact qql)]at h;exact h)
  have oX:=qqh (cV.cC (X:=fun b=>w.heap.size≤b) HOF.out (fun b hb=>Nat.le_trans bJ.out.size (bk HOF.out hb).1));clear QD ha ZP ho hb;go_wp2_with fail;go_ret2;rw [HG.out];exact⟨⟨Av,nt,cv,rfl,oX.out⟩,bJ.out.trans (HB.out.mono bJ.out.size)⟩
 have HG:=qqh (Rz.out.trans (if_pos hz));go_wp2_with fail;go_ret2;rw [HG.out];exact⟨xK.nil _ _ _,bJ.out⟩
theorem DQ (h:Int→Bool):∀ (t:List Int) (p:Bool),fm ((Eo h p t).flatMap (ew 2)) (t.flatMap (ew 2))=true:=by
 intro t;induction t with
 | nil=>intro p;rfl
 | cons r t ih=>
  intro p;have hc:=Qm r;unfold Bx at hc;rw [Bool.and_eq_true]at hc;rw [Eo,List.flatMap_cons,List.flatMap_cons];refine JY ?_ (ih _);split
  ·split;exact hc.2;exact hc.1
  exact vR _
def dI (t:List Int):List Int × Int:=if cm t≠0 then ([],cm t)else if 4000<(t.flatMap (ew 2)).length then ([],4)else (kA t,0)
def K1 (w':World) (o:List Int × Int) (e:Ending):Prop:=∃ (A:Option Addr) (n c:Nat),e=.returned (.tuple #[.slice A n c,.int .i64 o.2])∧o.1.length=n∧nK w' w'.heap.size A n o.1
theorem zi {t:List Int} (h:cm t=0):∀ r∈t,bE r=true:=by
 intro r hr;unfold cm at h;split at h
 ·cases h
 split at h
 ·cases h
 rename_i h2;cases hb:bE r with
 | true=>rfl
 | false=>exact(h2 (by unfold cI;exact List.any_eq_true.2 ⟨r,hr,by rw [hb];rfl⟩)).elim
theorem vQ {t:List Int} (h:cm t=0):t.length≤4000:=by
 unfold cm at h;split at h
 ·cases h
 omega
theorem Ex {B g:Nat} {w wr w2:World} (h:Below B w wr) (hr:Rest wr g w2) (hg:B≤g) (hB:B≤w.heap.size:=by exact qql):Below B w w2 :=
  ⟨hr.2.1.trans h.os,hr.2.2.1.trans h.tape,hr.2.2.2.1.trans h.output,Nat.le_trans h.size hr.1,fun k hk=>(hr.2.2.2.2 k (by have:=h.size;omega) (by omega)).trans (h.block k hk)⟩
theorem Gq (t:List Int) (At:Option Addr) (nt ct:Nat) (w:World) (hnt:nt≤maxLen) (ht:nK w w.heap.size At nt t) :
    Calls Tryz.prog 10 #[.slice At nt ct] w fun e w'=>K1 w' (dI t) e∧Below w.heap.size w w':=by
 have zn:=qqh (show t.length=nt from ht.len);have zj:=qqh (fun(W:World) (hb:Below w.heap.size w W)=>show nK W W.heap.size At nt t from(Rd.below ht hb).more hb.size);have QJ:=qqh (mN At nt ct t w hnt ht);clear ht;go_enter Tryz.func10,Tryz.ntmps10;go_wp2_with fail;refine QJ.out.mono ?_;rintro e w1 ⟨rfl,aT⟩;have bJ:=qqh aT;clear aT QJ;by_cases hz:cm t=0
 ·have h4:nt≤4000:=(by have:=vQ hz;have:=zn.out;omega);have xm:=qqh (zi hz);have Ov:=qqh (show dI t=if 4000<(t.flatMap (ew 2)).length then ([],4)else (kA t,0) by unfold dI;rw [if_neg (fun h=>h hz)]);rw [hz];clear hz;go_wp2_with fail;refine(KC w1).mono ?_;rintro e w2 ⟨⟨m1,m2,n1,n2,rfl,h1,h2,hM,hQ⟩,aX⟩;have Kb:=qqh (hM.keep (heap_alloc_old w2 (.cells #[.map (some m1),.map (some m2)] 63) hM.lt));have Gz:=qqh (aj.new w2 63 #[.map (some m1),.map (some m2)]);have Tw:=bJ.out.trans (aX.mono bJ.out.size);have bM:=qqh (Tw.alloc Tw.size (.cells #[.map (some m1),.map (some m2)] 63));clear hM hQ aX Tw h1 h2 bJ;go_upto_region 5 with fail;generalize w2.heap.size=g5 at *;generalize w2.alloc (.cells #[.map (some m1),.map (some m2)] 63)=W3 at *;have OF:=Kb.out.lt;have Hf:=Gz.out.lt;go_wp2_with fail;go_loopw [6,17] (fun o i wr=>∃ (k:Nat) (O:List Int) (N:Nat),k≤nt∧i=.int .i64 k∧(t.take k).flatMap (ew 2)=O∧N≤3*k∧wr.ownsRow W3.heap.size 21 1 o N (runeCells O)∧Below W3.heap.size W3 wr) (fun _ i _=>nt - (intOf i).toNat);(case atStart=>exact⟨0,[],0,Nat.zero_le _,rfl,by simp,by omega,World.ownsRow_nil _ _ _ _,qqb⟩);obtain⟨k,O,N,hk,rfl,hO,hN,ho,hb⟩:=hrel;obtain⟨Ao,co,rfl,hco⟩:=aJ ho;by_cases hlt:k<nt
  ·obtain⟨r,hr⟩:∃ r,t[k]? = some r:=⟨_,List.getElem?_eq_getElem (by rw [zn.out];exact hlt)⟩;have GR:=Ca (xm.out r (List.mem_of_getElem? hr));obtain⟨b,off,rfl,ey,d0⟩:=nK.at (Rd.below (zj.out W3 bM.out) hb) hlt;rw [show t.getD k 0=r by rw [List.getD_eq_getElem?_getD,hr];rfl]at d0;have HT:=qqh (show(t.take (k+1)).flatMap (ew 2)=O++ew 2 r by rw [List.take_add_one,hr,List.flatMap_append,hO];simp);have hK:=Gz.out.below hb Hf;have t0:wr.cell? ⟨g5,0,none⟩=some (.map (some m1)):=hK.cell 0;have t1:wr.cell? ⟨g5,1,none⟩=some (.map (some m2)):=hK.cell 1;have hfl:=zz 2 r;have HC:=qqh (IV W3.heap.size m1 m2 n1 2 r O Ao N co wr (Le r) (by omega) (by omega) hb.size (Kb.out.below hb OF) ho (by omega));have Ob:=qqh hb;have OD:=qqh ho;have hk0:(0:Int)≤(k:Int):=(by omega);have hk1:(k:Int)<(nt:Int):=(by omega);unfold kJ at HC;clear hr hO hK hb ho;go_wp2_with fail;refine HC.out.mono ?_;rintro e w5 ⟨A5,n5,c5,rfl,PN,Ry,hg,_⟩;have WW:=qqh PN;have oH:=qqh Ry;have dG:=qqh (Ob.out.grown hg Ob.out.size (fun q hq=>(World.ownsRow.lt OD.out q hq).1));clear PN Ry hg t0 t1 d0;go_wp2_with fail;exact⟨⟨k+1,_,n5,by omega,by go_num,HT.out,by have:=WW.out;omega,oH.out,dG.out⟩,by simp [intOf];omega⟩
  obtain rfl:k=nt:=(by omega);have Kt:t.flatMap (ew 2)=O:=(by rw [← hO,List.take_of_length_le (by rw [zn.out];exact qql)]);have Yr:O.length=N:=(by have:=ho.1;rw [runeCells_length]at this;omega);rw [Kt,Yr]at Ov;have GZ:=qqh (show kA t=(i4 N 0 O.toArray).toList by unfold kA;rw [Kt,Yr]);have Ob:=qqh hb;have nx:=qqh (bM.out.trans (hb.mono bM.out.size));have OD:=qqh ho;have XL:=qqh Yr;clear hO Kt Yr hb ho;by_cases hbig:4000<N
  ·have HA:=qqh (Ov.out.trans (if_pos hbig));go_wp2_with fail;go_ret2;rw [HA.out];exact⟨⟨none,0,0,rfl,rfl,Rd.nil⟩,nx.out⟩
  have HA:=qqh (Ov.out.trans (if_neg hbig));rcases OD.out.2 with ⟨hA,_⟩ | ⟨g,cap,cur,hA,hg1,_,hnc,_⟩
  ·injection hA with a1 a2 a3;subst a1 a2 a3;have hO0:O = []:=List.eq_nil_of_length_eq_zero XL.out;have HX:=qqh (show kA t = [] by rw [GZ.out,hO0];rfl);clear hO0;go_wp2_with fail;refine(uj 0 _).mono ?_;rintro e w5 ⟨rfl,rfl⟩;go_wp2_with fail;go_ret2;rw [HA.out,HX.out];exact⟨⟨none,0,0,rfl,rfl,Rd.nil⟩,nx.out⟩
  injection hA with a1 a2 a3;subst a1;have HSO:=qqh (show Calls Tryz.prog 23 #[.slice (some ⟨g,0,none⟩) N co] wr fun e w'=>e=.returned (.slice (some ⟨g,0,none⟩) N co)∧aA wr g 0 (i4 N 0 O.toArray) w' by
   have h:=DR g 0 co O.toArray wr (rP OD.out) (by rw [List.size_toArray,XL.out];omega) (by rw [List.size_toArray,XL.out];omega);rw [List.size_toArray,XL.out]at h;exact h)
  have jl:=qqh hg1;clear a2 a3 hg1 hnc;go_wp2_with fail;refine HSO.out.mono ?_;rintro e w5 ⟨rfl,hr⟩;have BN:=qqh hr;clear hr;go_wp2_with fail;go_ret2;have hl:(kA t).length=N:=(by rw [GZ.out,Array.length_toList,xd,List.size_toArray,XL.out]);rw [HA.out];refine⟨⟨_,N,co,rfl,hl,wY BN.out.row (by rw [GZ.out];exact List.take_of_length_le qql) hl⟩,bM.out.trans ((Ex Ob.out BN.out.rest jl.out).mono bM.out.size)⟩
 have Ov:=qqh (show dI t=([],cm t) by unfold dI;rw [if_pos hz]);have hzz:(cm t == 0)=false:=(by rw [beq_eq_false_iff_ne];exact hz);generalize cm t=x at *;clear hz;go_wp2_with fail;go_ret2;rw [Ov.out];exact⟨⟨none,0,0,rfl,rfl,Rd.nil⟩,bJ.out⟩
def cn (l:List Int):List Int:=l.flatMap fun r=>if 0<dR r then []else [IntKind.i64.wrap (iM r)]
def ei (l:List Int):List Int:=l.flatMap fun r=>if 0<dR r then [IntKind.i64.wrap r]else [0]
def kS (l:List Int):List Int:=l.flatMap fun r=>if 0<dR r then []else [if iM r=r then 0 else 1]
theorem EF:∀ {l k:List Int},fm l k=true→cn l=cn k∧ei l=ei k:=by
 intro l;induction l with
 | nil=>intro k h;cases k with
   | nil=>exact⟨rfl,rfl⟩
   | cons _ _=>cases h
 | cons x l ih=>intro k h;cases k with
   | nil=>cases h
   | cons y k=>
     rw [fm,Bool.and_eq_true]at h
     obtain⟨h1,h2⟩:=ih h.2
     unfold cn ei at *
     rw [List.flatMap_cons,List.flatMap_cons,List.flatMap_cons,List.flatMap_cons,h1,h2,nM h.1]
     by_cases hc:0<dR y
     · rw [if_pos hc,if_pos hc,if_pos hc,if_pos hc,vK h.1 (by rw [nM h.1];exact hc)]
       exact⟨rfl,rfl⟩
     · have h3:=h.1
       unfold nk at h3
       simp only [Bool.or_eq_true,Bool.and_eq_true,beq_iff_eq]at h3
       rw [if_neg hc,if_neg hc,if_neg hc,if_neg hc]
       refine⟨?_,rfl⟩
       rcases h3 with rfl | h3
       · rfl
       · rw [h3.2]
theorem mF {f:Int→List Int} (hf:∀ r,(f r).length≤1):∀ (l:List Int),(l.flatMap f).length≤l.length:=by
 intro l;induction l with
 | nil=>exact qql
 | cons r l ih=>rw [List.flatMap_cons,List.length_append,List.length_cons];have:=hf r;omega
theorem ke (f:Int→List Int) (l:List Int) (r:Int):(l++[r]).flatMap f=l.flatMap f++f r:=by simp
theorem vJ (t:List Int):(dI t).1.length≤4000:=by
 unfold dI;split;exact Nat.zero_le _;split;exact Nat.zero_le _;unfold kA;rw [Array.length_toList,xd,List.size_toArray];omega
theorem FW (t:List Int) (h:(dI t).2≠0):(dI t).1 = []:=by
 unfold dI at h ⊢;split;rfl;rename_i h1;rw [if_neg h1]at h;split;rfl;rename_i h2;rw [if_neg h2]at h;exact absurd rfl h
structure pQ (w:World) (B:Nat) (L M G:List Int) (a b c:Value):Prop where
  l:w.ownsRow B 3 1 a L.length (intCells L)
  m:w.ownsRow B 3 1 b M.length (intCells M)
  g:w.ownsRow B 3 1 c G.length (intCells G)
  ab:∀ k,a.ownBlock=some k→b.ownBlock≠some k
  bc:∀ k,b.ownBlock=some k→c.ownBlock≠some k
  ca:∀ k,c.ownBlock=some k→a.ownBlock≠some k
section
variable {w w0 w' : World} {B : Nat} {L M G : List Int} {a b c a' : Value} {x : Int}
theorem pQ.TW (h:pQ w B L M G a b c):pQ w B M G L b c a:=⟨h.m,h.g,h.l,h.bc,h.ca,h.ab⟩
theorem nX {e:TypeId} {n:Nat} {xs:List Value} {row:Option Nat} (h:w.ownsRow B e 1 a n xs) (hg:w.grownBy w' row) (hne:∀ k,a.ownBlock=some k→row≠some k):w'.ownsRow B e 1 a n xs :=
  h.kept hg (by
    cases ha:a.ownBlock with
    | none=>exact .inl rfl
    | some k=>exact .inr fun e=>hne k ha e.symm)
theorem pQ.still (h:pQ w B L M G a b c) (hg:w.grownBy w' none):pQ w' B L M G a b c :=
  ⟨nX h.l hg (by simp),nX h.m hg (by simp),nX h.g hg (by simp),h.ab,h.bc,h.ca⟩
theorem pQ.push (h:pQ w B L M G a b c) (ha:aP B 3 1 a w (L.length+1) (intCells L++[.int .i64 x]) a' w'):pQ w' B (L++[x]) M G a' b c:=by
 obtain⟨h1,h2,h3⟩:=ha;have hb:∀ k,b.ownBlock=some k→k<w.heap.size:=fun k hk=>(World.ownsRow.lt h.m k hk).2;have hc:∀ k,c.ownBlock=some k→k<w.heap.size:=fun k hk=>(World.ownsRow.lt h.g k hk).2;refine⟨by simpa [intCells] using h1,nX h.m h2 (fun k hk e=>h.ab k e hk),nX h.g h2 (fun k hk e=>h.ca k hk e),fun k hk e=>?_,h.bc,fun k hk e=>?_⟩
 ·rcases h3 with h3 | h3;exact h.ab k (h3.symm.trans hk) e;rw [h3]at hk;injection hk with hk;have:=hb k e;omega
 rcases h3 with h3 | h3;exact h.ca k hk (h3.symm.trans e);rw [h3]at e;injection e with e;have:=hc k hk;omega
end
theorem uR (x:Int):∀ u ∈ [Value.int .i64 x],u.oneCell'=true:=by
 intro u hu;simp at hu;subst hu;rfl
def G0 (w':World) (o:List Int × Int) (e:Ending):Prop:=∃ (A1 A2:Option Addr) (n1 c1 n2 c2:Nat) (v:Value),e=.returned (.tuple #[.slice A1 n1 c1,.slice A2 n2 c2,v,.int .i64 o.2])∧xZ w' w'.heap.size A1 n1 (cn o.1)∧xZ w' w'.heap.size A2 n2 (ei o.1)
theorem zK (t:List Int) (At:Option Addr) (nt ct:Nat) (w:World) (hnt:nt≤maxLen) (ht:nK w w.heap.size At nt t) :
    Calls Tryz.prog 8 #[.slice At nt ct] w fun e w'=>G0 w' (dI t) e∧Below w.heap.size w w':=by
 obtain⟨i0,hi,y0,y1,y2⟩:=info_parts Tryz.info3;have GZ:=qqh (Gq t At nt ct w hnt ht);have hlen:=vJ t;have HNL:=qqh (FW t);unfold K1 at GZ;unfold G0;clear ht;generalize dI t=O at *;obtain⟨o,f⟩:=O;dsimp only at hlen GZ HNL ⊢;go_enter Tryz.func8,Tryz.ntmps8;go_wp2_with fail;refine GZ.out.mono ?_;rintro e W1 ⟨⟨A,n,c,rfl,hn,hr⟩,aT⟩;have bJ:=qqh aT;have HR:=qqh hr;have HN:=qqh hn;have KS:n≤4000:=(by omega);clear aT hr hn GZ;by_cases hf:f=0
 ·subst hf;go_wp2_with fail;go_loopw [2,3,4,21] (fun a b d i wr=>∃ k:Nat,k≤n∧i=.int .i64 k∧pQ wr W1.heap.size (cn (o.take k)) (ei (o.take k)) (kS (o.take k)) a b d∧Below W1.heap.size W1 wr) (fun _ _ _ i _=>n - (intOf i).toNat);(case atStart=>exact⟨0,Nat.zero_le _,rfl,⟨World.ownsRow_nil _ _ _ _,World.ownsRow_nil _ _ _ _,World.ownsRow_nil _ _ _ _,by simp [Value.ownBlock],by simp [Value.ownBlock],by simp [Value.ownBlock]⟩,qqb⟩);obtain⟨k,hk,rfl,h3,hb⟩:=hrel;obtain⟨Aa,ca,rfl,_⟩:=aJ h3.l;obtain⟨Ab,cb,rfl,_⟩:=aJ h3.m;obtain⟨Ac,cc,rfl,_⟩:=aJ h3.g;have H3:=qqh h3;have HB:=qqh hb;have Yy:(cn (o.take k)).length≤4000:=Nat.le_trans (mF (fun r=>by split <;> simp) _) (by rw [List.length_take];omega);have hlm:(ei (o.take k)).length≤4000:=Nat.le_trans (mF (fun r=>by split <;> simp) _) (by rw [List.length_take];omega);have Xr:(kS (o.take k)).length≤4000:=Nat.le_trans (mF (fun r=>by split <;> simp) _) (by rw [List.length_take];omega);by_cases hlt:k<n
  ·obtain⟨r,hr⟩:∃ r,o[k]? = some r:=⟨_,List.getElem?_eq_getElem (by rw [HN.out];exact hlt)⟩;obtain⟨b,off,rfl,ey,d0⟩:=nK.at (Rd.below HR.out hb) hlt;rw [show o.getD k 0=r by rw [List.getD_eq_getElem?_getD,hr];rfl]at d0;have QO:o.take (k+1)=o.take k++[r]:=(by rw [List.take_add_one,hr];rfl);by_cases hc:0<dR r
   ·as_aux_lemma=>
     have Zk:=qqh (show cn (o.take (k+1))=cn (o.take k) by rw [QO,cn,ke,if_pos hc,List.append_nil];rfl);have Oi:=qqh (show kS (o.take (k+1))=kS (o.take k) by rw [QO,kS,ke,if_pos hc,List.append_nil];rfl);have Eg:=qqh (show ei (o.take (k+1))=ei (o.take k)++[IntKind.i64.wrap r] by rw [QO,ei,ke,if_pos hc];rfl);obtain⟨x,hx⟩:∃ x,IntKind.i64.wrap r=x:=⟨_,rfl⟩;rw [hx]at Eg;have OB:=qqh (Rd.new wr 3 1 1 [.int .i64 x] rfl);have H4:=qqh (H3.out.still (World.grownBy_alloc wr (.cells #[.int .i64 x] 3) none));have dS:=qqh (HB.out.alloc HB.out.size (.cells #[.int .i64 x] 3));clear hr QO h3 hb;generalize cn (o.take k)=LL at *;generalize ei (o.take k)=LM at *;generalize kS (o.take k)=LG at *;go_wp2_with fail;refine(jg _ _).mono ?_;rintro e w2 ⟨rfl,rfl⟩;go_wp2_with (at_builtin;refine ai _ rfl (.tmp 28) (.tmp 31) 29 rfl W1.heap.size 3 i0 _ 1 8 Tryz.underlying29 hi y0 y1 y2 rfl (by decide) _ _ _ rfl H4.out.m _ _ 1 1 [.int .i64 x] rfl OB.out (uR _) (by simp only [maxLen];omega) (by omega) dS.out.size ?_);intro v' w9 ak;have HP:=qqh (H4.out.TW.push ak);have eF:=qqh (dS.out.trans (ak.below dS.out.size H4.out.m));clear ak;go_wp2_with fail;exact⟨⟨k+1,by omega,by go_num,by rw [Zk.out,Oi.out,Eg.out];exact HP.out.TW.TW,eF.out⟩,by simp [intOf];omega⟩
   as_aux_lemma=>
    obtain⟨x,hx⟩:∃ x,IntKind.i64.wrap (iM r)=x:=⟨_,rfl⟩;obtain⟨gv,hgv⟩:∃ gv:Int,(if iM r=r then 0 else 1)=gv:=⟨_,rfl⟩;have Zk:=qqh (show cn (o.take (k+1))=cn (o.take k)++[x] by rw [QO,cn,ke,if_neg hc,hx];rfl);have Oi:=qqh (show kS (o.take (k+1))=kS (o.take k)++[gv] by rw [QO,kS,ke,if_neg hc,hgv];rfl);have Eg:=qqh (show ei (o.take (k+1))=ei (o.take k)++[0] by rw [QO,ei,ke,if_neg hc];rfl);have YZ:=qqh hgv;have Rs:=qqh hx;have hcf:decide (0<dR r)=false:=decide_eq_false hc;have Uh:=qqh (nG r wr);clear hr QO h3 hb hc hx hgv;generalize cn (o.take k)=LL at *;generalize ei (o.take k)=LM at *;generalize kS (o.take k)=LG at *;go_wp2_with fail;refine(jg _ _).mono ?_;rintro e w2 ⟨rfl,rfl⟩;go_wp2_with fail;refine Uh.out.mono ?_;rintro e w3 ⟨rfl,bP⟩;have bM:=qqh (HB.out.trans (bP.mono HB.out.size));have H33:=qqh (H3.out.still ⟨bP.os,bP.tape,bP.output,bP.size,fun q hq _=>bP.block q hq⟩);clear bP d0 hcf Uh;generalize iM r=lo at *;go_upto_if 37 with fail;go_cut [10] (fun u wx=>u=.int .i64 gv∧w3=wx);case first=>
     by_cases hs:lo=r
     ·have hq:(lo == r)=true:=(by rw [beq_iff_eq];exact hs);rw [if_pos hs]at YZ;clear hs;go_wp2_with fail;go_meet;exact⟨by rw [← YZ.out],rfl⟩
     have hq:(lo == r)=false:=(by rw [beq_eq_false_iff_ne];exact hs);rw [if_neg hs]at YZ;clear hs;go_wp2_with fail;go_meet;exact⟨by rw [← YZ.out],rfl⟩
    case rest=>
    obtain⟨rfl,rfl⟩:=hcut;have hxx:IntKind.i64.wrap lo=x:=Rs.out;have Uo:=qqh (Rd.new w3 3 1 1 [.int .i64 x] rfl);have H4:=qqh (H33.out.still (World.grownBy_alloc w3 (.cells #[.int .i64 x] 3) none));have dS:=qqh (bM.out.alloc bM.out.size (.cells #[.int .i64 x] 3));go_wp2_with (at_builtin;refine ai _ rfl (.tmp 38) (.tmp 41) 29 rfl W1.heap.size 3 i0 _ 1 8 Tryz.underlying29 hi y0 y1 y2 rfl (by decide) _ _ _ rfl H4.out.l _ _ 1 1 [.int .i64 x] rfl Uo.out (uR _) (by simp only [maxLen];omega) (by omega) dS.out.size ?_);intro va w5 ak;have H5:=qqh (H4.out.push ak);have dG:=qqh (dS.out.trans (ak.below dS.out.size H4.out.l));clear ak Uo hxx;have HN6:=qqh (Rd.new w5 3 1 1 [.int .i64 0] rfl);have H6:=qqh (H5.out.still (World.grownBy_alloc w5 (.cells #[.int .i64 0] 3) none));have gT:=qqh (dG.out.alloc dG.out.size (.cells #[.int .i64 0] 3));go_wp2_with (at_builtin;refine ai _ rfl (.tmp 43) (.tmp 44) 29 rfl W1.heap.size 3 i0 _ 1 8 Tryz.underlying29 hi y0 y1 y2 rfl (by decide) _ _ _ rfl H6.out.m _ _ 1 1 [.int .i64 0] rfl HN6.out (uR _) (by simp only [maxLen];omega) (by omega) gT.out.size ?_);intro vb w7 ak;have H7:=qqh (H6.out.TW.push ak);have kR:=qqh (gT.out.trans (ak.below gT.out.size H6.out.m));clear ak HN6;have HN8:=qqh (Rd.new w7 3 1 1 [.int .i64 gv] rfl);have H8:=qqh (H7.out.TW.still (World.grownBy_alloc w7 (.cells #[.int .i64 gv] 3) none));have qM:=qqh (kR.out.alloc kR.out.size (.cells #[.int .i64 gv] 3));go_wp2_with (at_builtin;refine ai _ rfl (.tmp 46) (.tmp 48) 29 rfl W1.heap.size 3 i0 _ 1 8 Tryz.underlying29 hi y0 y1 y2 rfl (by decide) _ _ _ rfl H8.out.l _ _ 1 1 [.int .i64 gv] rfl HN8.out (uR _) (by simp only [maxLen];omega) (by omega) qM.out.size ?_)
    intro vc w9 ak;have H9:=qqh (H8.out.push ak);have eF:=qqh (qM.out.trans (ak.below qM.out.size H8.out.l));clear ak HN8;go_wp2_with fail;exact⟨⟨k+1,by omega,by go_num,by rw [Zk.out,Oi.out,Eg.out];exact H9.out.TW,eF.out⟩,by simp [intOf];omega⟩
  obtain rfl:k=n:=(by omega);have Q2:=qqh (show o.take k=o by rw [List.take_of_length_le (by rw [HN.out];exact qql)]);rw [Q2.out]at H3;have H1:=qqh (show xZ wr wr.heap.size Aa (cn (o.take k)).length (cn o) by have:=Rd.cC H3.out.l;rw [Q2.out];exact this);have H2:=qqh (show xZ wr wr.heap.size Ab (ei (o.take k)).length (ei o) by have:=Rd.cC H3.out.m;rw [Q2.out];exact this);clear h3 hb H3 Q2;go_wp2_with fail;refine bodyPost_ret (v:=.tuple #[.slice Aa (cn (o.take k)).length ca,.slice Ab (ei (o.take k)).length cb,.slice Ac (kS (o.take k)).length cc,.int .i64 0]) (by simp [results,Tryz.results8,go_sem]) rfl ?_;exact⟨⟨_,_,_,_,_,_,_,rfl,H1.out,H2.out⟩,bJ.out.trans (HB.out.mono bJ.out.size)⟩
 have hff:(f == 0)=false:=(by rw [beq_eq_false_iff_ne];exact hf);have HO:=qqh (HNL.out hf);clear hf;go_wp2_with fail;refine bodyPost_ret (v:=.tuple #[.slice none 0 0,.slice none 0 0,.slice none 0 0,.int .i64 f]) (by simp [results,Tryz.results8,go_sem]) rfl ?_;rw [HO.out];exact⟨⟨_,_,_,_,_,_,_,rfl,Rd.nil,Rd.nil⟩,bJ.out⟩
end Go.Proofs.YtblinekbpcdbfaaGreatDoor
