/- First -/
import Derived.Test.YthgkedoildcbcaaGreatDoorZg29
set_option maxHeartbeats 1600000
set_option maxRecDepth 100000
namespace Go.Proofs.YthgkedoildcbcaaGreatDoor
open Go.RowKit
theorem oy {t:TypeId} {name:String} {path:List FieldStep} {f:FuncId} (h:(Tryz.prog.info? t).map (fun i=>(i.methods.find? (·.name == name)).map fun m=>(m.path.toList,m.func))=some (some (path,some (f,false)))) :
    ∃ i,Tryz.prog.info? t=some i∧∃ m,i.methods.find? (·.name == name)=some m∧m.path.toList=path∧m.func=some (f,false):=by
 obtain⟨i,hi,h2⟩:=Option.map_eq_some_iff.1 h;obtain⟨m,hm,h3⟩:=Option.map_eq_some_iff.1 h2;simp only [Prod.mk.injEq]at h3;exact⟨i,hi,m,hm,h3.1,h3.2⟩
theorem Dy (v:Value) (w:World):(method 392 65 v "Len").run Tryz.prog w=.ok (218,v) w:=by
 obtain⟨i,hi,m,hm,hp,hf⟩:=oy (t:=65) (name:="Len") (path:=[]) (f:=218) (by kernel_rfl);unfold method;simp [go_sem,typeInfo,hi,hm,hp,hf,follow,receiverAt,Place.get,loadVar]
theorem BI (v:Value) (w:World):(method 392 65 v "Rune").run Tryz.prog w=.ok (219,v) w:=by
 obtain⟨i,hi,m,hm,hp,hf⟩:=oy (t:=65) (name:="Rune") (path:=[]) (f:=219) (by kernel_rfl);unfold method;simp [go_sem,typeInfo,hi,hm,hp,hf,follow,receiverAt,Place.get,loadVar]
theorem Bo:∀ args w,(callFunc 218 args).run Tryz.prog w=.ok (.enter 218 args) w:=enters_of Tryz.func218 (by kernel_rfl) rfl
theorem zk:∀ args w,(callFunc 219 args).run Tryz.prog w=.ok (.enter 219 args) w:=enters_of Tryz.func219 (by kernel_rfl) rfl
theorem KY (A:Option Addr) (n c:Nat) (w:World):Calls Tryz.prog 218 #[.slice A n c] w fun e w'=>e=.returned (.int .i64 n)∧∃ k,w'=w.drewN k:=by
 go_enter Tryz.func218,Tryz.ntmps218;go_wp2_with fail;go_ret;exact⟨rfl,0,rfl⟩
theorem Ix (A:Option Addr) (n c:Nat) (T:List Int) (w:World) (h:kJ w w.heap.size A n T) (hn:n≤100000) (k:Nat) (x:Int) (hx:T[k]? = some x) :
    Calls Tryz.prog 219 #[.slice A n c,.int .i64 k] w fun e w'=>e=.returned (.int .i32 x)∧∃ k,w'=w.drewN k:=by
 have hk:k<n:=(by have:=(List.getElem?_eq_some_iff.1 hx).1;have:=h.len;omega);obtain⟨b,off,e,hb,hc⟩:=h.2 (by omega);subst e;have h0:w.cell? ⟨b,off+k,none⟩=some (.int .i32 x):=hc k _ (by simp [runeCells,hx]);have hk0:(0:Int)≤(k:Int):=(by omega);have hk1:(k:Int)<(n:Int):=(by omega);clear hc hx h;go_enter Tryz.func219,Tryz.ntmps219;go_wp2_with fail;go_ret;exact⟨rfl,0,rfl⟩
def S7 (A:Option Addr) (n:Nat) (T:List Int) (w:World):Prop:=kJ w w.heap.size A n T
theorem Gp (A:Option Addr) (n c:Nat) (T:List Int) (hn:n≤100000) (hT:T.length=n):FH 65 (.slice A n c) (.slice A n c) 218 219 T (S7 A n T) where
  enterL:=Bo
  enterR:=zk
  ml:=fun w _=>Dy _ w
  mr:=fun w _=>BI _ w
  len:=fun w _=>by rw [hT];exact KY A n c w
  rune:=fun w k x h hx=>Ix A n c T w h hn k x hx
  keep:=fun w w' h hb=>(Rd.below h hb).more hb.size
theorem Gt (X:Nat→Prop) (r:ax) (A1 A2 A3 A4 At:Option Addr) (n1 c1 n2 c2 n3 c3 n4 c4 nt ct q b1 b2:Nat) (T:List Int) (w:World) (hr:ey r) (s1:fE w X r.before (.slice A1 n1 c1)) (s2:fE w X r.source (.slice A2 n2 c2)) (s3:fE w X r.after (.slice A3 n3 c3)) (s4:cE w X 1 A4 n4 (runeCells r.target))
    (hn:nt≤100000) (hq:q≤nt) (ht:kJ w w.heap.size At nt T) (h1:ai w b1 108 #[.iface 65 (.slice At nt ct)]) (h2:ai w b2 3 #[.int .i64 q]) :
    Calls Tryz.prog 44 #[.agg #[.bool r.start,.bool r.fin,.slice A1 n1 c1,.slice A2 n2 c2,.slice A3 n3 c3,.slice A4 n4 c4,.int .i64 r.ag],.pointer (some ⟨b1,0,none⟩),.pointer (some ⟨b2,0,none⟩)] w fun e w'=>e=.returned (.bool (eX r T q))∧Below w.heap.size w w':=by
 have hba:=(Below.refl w.heap.size w).alloc (Nat.le_refl _) (.cells #[.bool r.start,.bool r.fin,.slice A1 n1 c1,.slice A2 n2 c2,.slice A3 n3 c3,.slice A4 n4 c4,.int .i64 r.ag] 68);have hx:=ai.new w 68 #[.bool r.start,.bool r.fin,.slice A1 n1 c1,.slice A2 n2 c2,.slice A3 n3 c3,.slice A4 n4 c4,.int .i64 r.ag]
 have pU:sg (w.alloc (.cells #[.bool r.start,.bool r.fin,.slice A1 n1 c1,.slice A2 n2 c2,.slice A3 n3 c3,.slice A4 n4 c4,.int .i64 r.ag] 68)) X r w.heap.size 0 A1 A2 A3 A4 n1 c1 n2 c2 n3 c3 n4 c4 :=
   ⟨hx.lt,hx.cell 0,hx.cell 1,hx.cell 2,hx.cell 3,hx.cell 4,hx.cell 5,hx.cell 6,s1.keep (aa.any hba),s2.keep (aa.any hba),s3.keep (aa.any hba),s4.keep (aa.any hba)⟩
 have HH:=qqh (wM (Gp At nt ct T hn ht.len) X r w.heap.size 0 A1 A2 A3 A4 n1 c1 n2 c2 n3 c3 n4 c4 q _ (by rw [ht.len];exact hn) (by rw [ht.len];exact hq) hr pU ((Rd.below ht hba).more hba.size));have u1:=(h1.alloc (.cells #[.bool r.start,.bool r.fin,.slice A1 n1 c1,.slice A2 n2 c2,.slice A3 n3 c3,.slice A4 n4 c4,.int .i64 r.ag] 68)).cell 0;have u2:=(h2.alloc (.cells #[.bool r.start,.bool r.fin,.slice A1 n1 c1,.slice A2 n2 c2,.slice A3 n3 c3,.slice A4 n4 c4,.int .i64 r.ag] 68)).cell 0;have yz:=qqh hba;clear hx pU hba s1 s2 s3 s4 ht h1 h2 hr;go_enter Tryz.func44,Tryz.ntmps44;go_upto_region 1 with fail;generalize w.alloc (.cells #[.bool r.start,.bool r.fin,.slice A1 n1 c1,.slice A2 n2 c2,.slice A3 n3 c3,.slice A4 n4 c4,.int .i64 r.ag] 68)=W1 at *;go_wp2_with fail;refine HH.out.mono ?_;rintro e w2 ⟨rfl,aR⟩;have bw:=qqh (yz.out.trans (aR.mono yz.out.size));clear aR;go_wp2_with fail;go_ret;exact⟨rfl,bw.out⟩
def Uu (w:World) (l:List ax) (T:List Int) (q n:Nat) (i:Value) (wr:World):Prop :=
  ∃ k:Nat,k≤n∧i=.int .i64 k∧ep l T q=dH l T q ((upTo n).drop k)∧Below w.heap.size w wr
theorem PX {n k:Nat} (h:k<n):(upTo n).drop k=(k:Int)::(upTo n).drop (k+1):=by
 have hl:k<(upTo n).length:=(by simp [upTo,h]);rw [List.drop_eq_getElem_cons hl];simp [upTo]
theorem QW (n:Nat):(upTo n).drop n = []:=by
 apply List.drop_of_length_le;simp [upTo]
theorem CU (X:Nat→Prop) (l:List ax) (A At:Option Addr) (n c nt ct q b1 b2:Nat) (T:List Int) (w:World) (hn:n≤maxLen) (hR:∀ r∈l,ey r) (hl:bH (aW w X) w X 7 A n l)
    (hnt:nt≤100000) (hq:q≤nt) (ht:kJ w w.heap.size At nt T) (h1:ai w b1 108 #[.iface 65 (.slice At nt ct)]) (h2:ai w b2 3 #[.int .i64 q]) :
    Calls Tryz.prog 43 #[.slice A n c,.func (.func 44) #[] #[.pointer (some ⟨b1,0,none⟩),.pointer (some ⟨b2,0,none⟩)]] w fun e w'=>e=.returned (.int .i64 (ep l T q))∧Below w.heap.size w w':=by
 have aO:=qqh (show l.length=n from hl.len);have HL:=qqh hl;have HT:=qqh ht;have H1:=qqh h1;have H2:=qqh h2;have jd:=qqh hR;have H0:=qqh (show ep l T q=dH l T q ((upTo n).drop 0) by unfold ep;rw [aO.out];rfl);clear hl ht hR h1 h2;simp only [maxLen]at hn;go_enter Tryz.func43,Tryz.ntmps43;go_wp2_with fail;go_loopw [8] (Uu w l T q n) (fun i _=>n - (intOf i).toNat);(case atStart=>exact⟨0,Nat.zero_le _,rfl,H0.out,Below.refl _ _⟩);obtain⟨k,hk,rfl,aV,hb⟩:=hrel;by_cases hlt:k<n
 ·obtain⟨r,hr⟩:∃ z,l[k]? = some z:=⟨_,List.getElem?_eq_getElem (by rw [aO.out];exact hlt)⟩;obtain⟨b,off,A1,A2,A3,A4,n1,c1,n2,c2,n3,c3,n4,c4,rfl,_,cC,⟨d0,d1,d2,d3,d4,d5,d6⟩,s1,s2,s3,s4,AW⟩:=nF (HL.out.keep (aa.any hb) (fun _ _=>aW.keep (aa.any hb))) hr;rw [PX hlt,dH,show hereAt l T q (k:Int)=eX r T q by unfold hereAt;rw [Int.toNat_natCast,hr]]at aV;have dQ:=qqh aV;have HB:=qqh hb;have HM:=qqh (Gt X r A1 A2 A3 A4 At n1 c1 n2 c2 n3 c3 n4 c4 nt ct q b1 b2 T wr (jd.out r (List.mem_of_getElem? hr)) s1 s2 s3 s4 hnt hq ((Rd.below HT.out hb).more hb.size) (ai.below H1.out hb H1.out.lt) (ai.below H2.out hb H2.out.lt));clear aV hr hb s1 s2 s3 s4 AW;go_wp2_with fail;refine HM.out.mono ?_;rintro e w9 ⟨rfl,cj⟩;have fe:=qqh (HB.out.trans (cj.mono HB.out.size));clear cj;cases hh:eX r T q
  ·have HG:=qqh (dQ.out.trans (by rw [hh,if_neg (by decide)]));clear hh;go_wp2_with fail;exact⟨⟨k+1,by omega,by go_num,HG.out,fe.out⟩,by simp [intOf];omega⟩
  have HG:=qqh (dQ.out.trans (by rw [hh,if_pos rfl]));clear hh;go_wp2_with fail;go_ret;exact⟨nG HG.out.symm,fe.out⟩
 obtain rfl:k=n:=(by omega);rw [QW,dH]at aV;have HG:=qqh aV;clear aV;go_wp2_with fail;go_ret;exact⟨nG HG.out.symm,hb⟩
theorem Io (X:Nat→Prop) (l:List ax) (A At:Option Addr) (n c nt ct q:Nat) (T:List Int) (w:World) (hn:n≤maxLen) (hR:∀ r∈l,ey r) (hl:bH (aW w X) w X 7 A n l)
    (hnt:nt≤100000) (hq:q≤nt) (ht:kJ w w.heap.size At nt T) :
    Calls Tryz.prog 21 #[.slice A n c,.iface 65 (.slice At nt ct),.int .i64 q] w fun e w'=>e=.returned (.int .i64 (ep l T q))∧Below w.heap.size w w':=by
 have hba:=((Below.refl w.heap.size w).alloc (Nat.le_refl _) (.cells #[.iface 65 (.slice At nt ct)] 108)).alloc (by simp) (.cells #[.int .i64 q] 3);have H:=qqh (CU X l A At n c nt ct q w.heap.size (w.heap.size+1) T _ hn hR (hl.keep (aa.any hba) (fun _ _=>aW.keep (aa.any hba))) hnt hq ((Rd.below ht hba).more hba.size) (ai.alloc (ai.new w _ _) _) (by
  have:=ai.new (w.alloc (.cells #[.iface 65 (.slice At nt ct)] 108)) 3 #[.int .i64 q];simpa using this))
 have yz:=qqh hba;clear hba hl ht hR;go_enter Tryz.func21,Tryz.ntmps21;go_wp2_with fail;refine H.out.mono ?_;rintro e w2 ⟨rfl,aR⟩;have bw:=qqh (yz.out.trans (aR.mono yz.out.size));clear aR;go_wp2_with fail;go_ret;exact⟨rfl,bw.out⟩
end Go.Proofs.YthgkedoildcbcaaGreatDoor
