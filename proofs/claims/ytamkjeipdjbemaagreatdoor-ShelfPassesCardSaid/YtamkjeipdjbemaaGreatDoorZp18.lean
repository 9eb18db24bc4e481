/- Builder + WriteRune + Encode -/
import Derived.Test.YtamkjeipdjbemaaGreatDoorShelfM
import Derived.Test.YtamkjeipdjbemaaGreatDoorZp6
import Derived.Lib.RuneBytes
set_option maxHeartbeats 1000000
set_option maxRecDepth 100000
namespace Go.Proofs.YtamkjeipdjbemaaGreatDoor
open Go.RowKit Go.Shelf
abbrev YR (B b:Nat) (bs:List Value) (w:World):Prop:=Lib.IsBuilderF 110 5 B b bs w
abbrev AtB (B b:Nat) (bs:List Value) (w:World):Prop:=Lib.BuilderAtF 110 5 B b (.pointer (some ⟨b,0,none⟩)) bs w
abbrev QV (b:Nat) (w w':World):Prop:=Lib.OthersKept 5 (some b) w w'
theorem rW:(Tryz.prog.info? 110).map (·.size)=some 2:=by kernel_rfl
theorem Ce:liesAt Tryz.prog Tryz.prog.depth 110 (2 / Tryz.prog.cellsOf 110) 0 110 1=true:=by kernel_rfl
theorem tB (b:Nat) (w:World) (h0:w.cell? ⟨b,0,none⟩=some (.pointer none)) (hsh:w.shape? b=some (110,2)) (hfz:w.frozen? ⟨b,0,none⟩=false) :
    Calls Tryz.prog 91 #[.pointer (some ⟨b,0,none⟩)] w fun e w'=>e=.returned (.tuple #[])∧w'=w.setCell ⟨b,0,none⟩ (.pointer (some ⟨b,0,none⟩)):=by
 obtain⟨j,hj,ZK⟩:=Option.map_eq_some_iff.1 rW;have hne:=Lib.run_neq_ptr_same (P:=Tryz.prog) (w.setCell ⟨b,0,none⟩ (.pointer (some ⟨b,0,none⟩))) ⟨b,0,none⟩ Tryz.underlying107 hj;go_enter Tryz.func91,Tryz.ntmps91;go_wp2_with fail;rw [Lib.run_to_unsafe w ⟨b,0,none⟩ Tryz.underlying107 Tryz.underlying176 hj (by rw [ZK];decide) hsh (Nat.zero_lt_succ 1)];simp only [Result.andThen];rw [Oper.upon_value];go_wp2_with fail;rw [run_callFunc_extern Tryz.func113 (by kernel_rfl) (by kernel_rfl) (by kernel_rfl) (e:=Extern.AbiNoEscape.same) (by kernel_rfl)];rw [Lib.run_noEscape];simp only [Result.andThen];rw [Oper.upon_value];go_wp2_with fail;rw [Lib.run_from_unsafe w ⟨b,0,none⟩ Tryz.underlying176 Tryz.underlying107 hj hsh Ce];simp only [Result.andThen];rw [Oper.upon_value];go_wp2;go_end0;exact⟨rfl,rfl⟩
theorem uH (b:Nat) (w:World) (h0:w.cell? ⟨b,0,none⟩=some (.pointer (some ⟨b,0,none⟩))) :
    Calls Tryz.prog 91 #[.pointer (some ⟨b,0,none⟩)] w fun e w'=>e=.returned (.tuple #[])∧w'=w:=by
 obtain⟨j,hj,_⟩:=Option.map_eq_some_iff.1 rW;have hne:=Lib.run_neq_ptr_same (P:=Tryz.prog) w ⟨b,0,none⟩ Tryz.underlying107 hj;go_enter Tryz.func91,Tryz.ntmps91;go_wp2;go_end0;exact⟨rfl,rfl⟩
theorem Gd (B b:Nat) (bs:List Value) (w:World) (h:YR B b bs w) :
    Calls Tryz.prog 91 #[.pointer (some ⟨b,0,none⟩)] w fun e w'=>e=.returned (.tuple #[])∧AtB B b bs w'∧Below B w w'∧QV b w w':=by
 rcases h with h | h
 ·refine(tB b w h.cell0 h.shape h.frozen0).mono ?_;rintro e w' ⟨rfl,rfl⟩;exact⟨rfl,h.used _,(Below.refl B w).setCell (p:=⟨b,0,none⟩) h.1 _,(Lib.OthersKept.refl _ _ w).setCell ⟨b,0,none⟩ rfl _⟩
 refine(uH b w h.cell0).mono ?_;rintro e w' ⟨rfl,rfl⟩;exact⟨rfl,h,Below.refl B _,Lib.OthersKept.refl _ _ _⟩
theorem byteCells_append (a b:List UInt8):Lib.byteCells (a++b)=Lib.byteCells a++Lib.byteCells b:=by simp [Lib.byteCells]
theorem CM (w:World) (B:Nat) (hB:B≤w.heap.size):YR B w.heap.size [] (w.alloc (.cells #[.pointer none,.slice none 0 0] 110)) :=
  .inl ⟨hB,_,heap_alloc_new _ _,⟨rfl,.inl ⟨rfl,rfl⟩⟩,by simp [Value.ownBlock]⟩
theorem FF (B b:Nat) (bs:List Value) (r:Int) (Mh : -2147483648≤r) (Bw:r≤2147483647) (w:World) (h:YR B b bs w) (hlen:bs.length+4≤140737488355328) (hBw:B≤w.heap.size) :
    Calls Tryz.prog 58 #[.pointer (some ⟨b,0,none⟩),.int .i32 r] w fun e w'=>e=.returned (.tuple #[.int .i64 (Lib.runeCells r).length,.nilIface])∧AtB B b (bs++Lib.runeCells r) w'∧Below B w w'∧QV b w w':=by
 have hk4:=Lib.runeCells_le r;go_enter Tryz.func58,Tryz.ntmps58;go_wp2_with fail;refine(Gd B b bs w h).mono ?_;rintro e w1 ⟨rfl,h1,aP,hk1⟩;obtain⟨hB,v,hbk,hown,hne⟩:=h1;obtain⟨ao,cap,rfl⟩:∃ ao cap,v=.slice ao bs.length cap:=by
  rcases hown.2 with ⟨hv,h0⟩ | ⟨g,cap,cur,fz,hv,_⟩;exact⟨none,0,by rw [hv,h0]⟩;exact⟨_,_,hv⟩
 have c0:w1.cell? ⟨b,0,none⟩=some (.pointer (some ⟨b,0,none⟩)):=(by rw [Lib.cell_of_heap hbk];rfl);have c1:w1.cell? ⟨b,1,none⟩=some (.slice ao bs.length cap):=(by rw [Lib.cell_of_heap hbk];rfl);go_wp2_with fail;refine(Tryz.utf8_AppendRune_row B _ bs.length bs r Mh Bw _ hown hlen (by have:=aP.size;omega)).mono ?_;rintro e w2 ⟨v',rfl,Rk,o,hgrow⟩;have hlt:b<w1.heap.size:=by
  rcases Nat.lt_or_ge b w1.heap.size with h' | h';exact h';simp [Array.getElem?_eq_none h']at hbk
 have aX:w2.heap[b]? = some (.cells #[.pointer (some ⟨b,0,none⟩),.slice ao bs.length cap] 110 (0,0)):=by
  rw [hgrow.block b (by simp;omega) (fun e=>hne e.symm),Lib.alloc_old w1 _ b hlt];exact hbk
 have d0:w2.cell? ⟨b,0,none⟩=some (.pointer (some ⟨b,0,none⟩)):=(by rw [Lib.cell_of_heap aX];rfl);have d1:w2.cell? ⟨b,1,none⟩=some (.slice ao bs.length cap):=(by rw [Lib.cell_of_heap aX];rfl);have f1:w2.frozen? ⟨b,1,none⟩=false:=Lib.frozen_of_heap aX 1;obtain⟨g,cap',rfl⟩:∃ g cap',v'=.slice (some ⟨g,0,none⟩) (bs.length+(Lib.runeCells r).length) cap':=by
  rcases Rk.2 with ⟨_,h0⟩ | ⟨g,cap',cur,fz,hv,_⟩;omega;exact⟨g,cap',hv⟩
 go_wp2;go_ret2;refine⟨?_,?_,?_,((hk1.alloc _).grown hgrow (Lib.ownsRowF_kind (hown.alloc _))).setCell ⟨b,1,none⟩ rfl _⟩
 ·have e:((bs.length:Int)+((Lib.runeCells r).length:Int) - (bs.length:Int))=((Lib.runeCells r).length:Int):=(by omega);simp [e]
 exact Lib.BuilderAtF.put (T:=110) (e:=5) hB aX (bs':=bs++Lib.runeCells r) (by simpa using Rk) (by decide);exact((aP.alloc (by have:=aP.size;omega) _).grown hgrow (by have:=aP.size;simp;omega) (fun k hk=>(hown.lt k hk).1)).setCell (p:=⟨b,1,none⟩) hB _
theorem Bb (l:List Int) (k:Nat) (r:Int) (h:l[k]? = some r):Lib.byteCells (bytesOf (l.take (k+1)))=Lib.byteCells (bytesOf (l.take k))++Lib.runeCells r:=by
 obtain⟨hk,rfl⟩:=List.getElem?_eq_some_iff.1 h;rw [List.take_succ_eq_append_getElem hk,← Lib.byteCells_encodeRune,← byteCells_append];simp only [bytesOf,List.flatMap_append,List.flatMap_cons,List.flatMap_nil,List.append_nil]
def RF (w:World) (l:List Int) (n:Nat) (i:Value) (wr:World):Prop :=
  ∃ k:Nat,k≤n∧i=.int .i64 k∧(l.take k).all bL=true∧YR w.heap.size w.heap.size (Lib.byteCells (bytesOf (l.take k))) wr∧Below w.heap.size w wr
theorem GA (l:List Int) (k:Nat) (r:Int) (h:l[k]? = some r):(l.take (k+1)).all bL=((l.take k).all bL && bL r):=by
 obtain⟨hk,rfl⟩:=List.getElem?_eq_some_iff.1 h;rw [List.take_succ_eq_append_getElem hk];simp only [List.all_append,List.all_cons,List.all_nil,Bool.and_true]
theorem SH (l:List Int) (k:Nat) (r:Int) (h:l[k]? = some r) (hr:bL r=false):l.all bL=false:=by
 rw [List.all_eq_false];exact⟨r,List.mem_of_getElem? h,by simp [hr]⟩
theorem Gg (A:Option Addr) (n c:Nat) (l:List Int) (w:World) (hn:n≤1099511627776) (hl:mg w w.heap.size A n l) :
    Calls Tryz.prog 26 #[.slice A n c] w fun e w'=>e=.returned (.tuple #[.string (Ep l).1,.int .i64 (Ep l).2])∧Below w.heap.size w w':=by
 have hlen:=hl.len;have HL:=qqh hlen;clear hlen;have HR:=qqh hl;clear hl;go_enter Tryz.func26,Tryz.ntmps26;go_wp2;go_loopw [9] (RF w l n) (fun i _=>n - (intOf i).toNat);(case atStart=>exact⟨0,Nat.zero_le _,rfl,rfl,CM w _ qql,qqb.alloc qql _⟩);obtain⟨k,hk,rfl,hall,hB,hb⟩:=hrel;have hz:=hb.size;by_cases hlt:k<n
 ·obtain⟨b,off,rfl,cK,hc0⟩:=HR.out.at hlt;obtain⟨r,hr⟩:∃ r,l[k]? = some r:=⟨_,List.getElem?_eq_getElem (by rw [HL.out];exact hlt)⟩;rw [List.getD,hr,Option.getD_some]at hc0;have hc1:=(hb.cell (p:=⟨b,off+k,none⟩) cK).trans hc0;clear hc0;have eP:=CW (l.take k);have htk:(l.take k).length≤k:=List.length_take_le _ _;have HB:=qqh hB;have HA:=qqh hall;have ZZ:=qqh hr;clear hB hall hr;cases hrb:bL r
  ·have hno:=SH l k r ZZ.out hrb;have HN:=qqh (show Ep l=(⟨#[]⟩,3) by unfold Ep;rw [hno];rfl);clear hno;go_wp2_with (go_at_call 45;refine(fh _ _).mono ?_;rintro e w' ⟨rfl,rfl⟩);go_ret2;rw [HN.out];exact⟨rfl,hb⟩
  obtain⟨Mh,Bw⟩:=Dp hrb;go_wp2_with (go_at_call 45;refine(fh _ _).mono ?_;rintro e w' ⟨rfl,rfl⟩);refine(FF w.heap.size w.heap.size _ r (by omega) (by omega) wr HB.out (by simp only [Lib.byteCells,List.length_map];omega) hz).mono ?_;rintro e w2 ⟨rfl,T1,aX,_⟩;have bM:=hb.trans aX;rw [← Bb l k r ZZ.out]at T1;have Q7:=GA l k r ZZ.out;rw [HA.out,hrb]at Q7;clear aX;go_wp2;exact⟨⟨k+1,by omega,by go_num,by simpa using Q7,.inr T1,bM⟩,by simp [intOf];omega⟩
 obtain rfl:k=n:=(by omega);rw [List.take_of_length_le (by rw [HL.out];omega)]at hall hB;have HE:=qqh (show Ep l=(⟨(bytesOf l).toArray⟩,0) by unfold Ep;rw [hall];rfl);clear hall;have HB:=qqh hB;clear hB;go_wp2_with fail;refine(Tryz.Builder_String_any_f w.heap.size w.heap.size (bytesOf l) wr HB.out hz).mono ?_;rintro e w2 ⟨rfl,_,aX⟩;go_wp2;go_ret2;rw [HE.out];exact⟨rfl,hb.trans aX⟩
end Go.Proofs.YtamkjeipdjbemaaGreatDoor
