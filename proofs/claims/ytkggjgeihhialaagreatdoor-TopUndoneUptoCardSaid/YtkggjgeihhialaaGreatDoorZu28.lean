/- First -/
import Derived.Test.YtkggjgeihhialaaGreatDoorZu27
set_option maxHeartbeats 1600000
set_option maxRecDepth 100000
namespace Go.Proofs.YtkggjgeihhialaaGreatDoor
open Go.RowKit
theorem o8 {t:TypeId} {name:String} {path:List FieldStep} {f:FuncId} (h:(Tryz.prog.info? t).map (fun i=>(i.methods.find? (·.name == name)).map fun m=>(m.path.toList,m.func))=some (some (path,some (f,false)))) :
    ∃ i,Tryz.prog.info? t=some i∧∃ m,i.methods.find? (·.name == name)=some m∧m.path.toList=path∧m.func=some (f,false):=by
 obtain⟨i,hi,h2⟩:=Option.map_eq_some_iff.1 h;obtain⟨m,hm,h3⟩:=Option.map_eq_some_iff.1 h2;simp only [Prod.mk.injEq]at h3;exact⟨i,hi,m,hm,h3.1,h3.2⟩
theorem FA (v:Value) (w:World):(method 391 86 v "Len").run Tryz.prog w=.ok (227,v) w:=by
 obtain⟨i,hi,m,hm,hp,hf⟩:=o8 (t:=86) (name:="Len") (path:=[]) (f:=227) (by kernel_rfl);unfold method;simp [go_sem,typeInfo,hi,hm,hp,hf,follow,receiverAt,Place.get,loadVar]
theorem CS (v:Value) (w:World):(method 391 86 v "Rune").run Tryz.prog w=.ok (228,v) w:=by
 obtain⟨i,hi,m,hm,hp,hf⟩:=o8 (t:=86) (name:="Rune") (path:=[]) (f:=228) (by kernel_rfl);unfold method;simp [go_sem,typeInfo,hi,hm,hp,hf,follow,receiverAt,Place.get,loadVar]
theorem CZ:∀ args w,(callFunc 227 args).run Tryz.prog w=.ok (.enter 227 args) w:=enters_of Tryz.func227 (by kernel_rfl) rfl
theorem Bs:∀ args w,(callFunc 228 args).run Tryz.prog w=.ok (.enter 228 args) w:=enters_of Tryz.func228 (by kernel_rfl) rfl
theorem LN (A:Option Addr) (n c:Nat) (w:World):Calls Tryz.prog 227 #[.slice A n c] w fun e w'=>e=.returned (.int .i64 n)∧∃ k,w'=w.drewN k:=by
 go_enter Tryz.func227,Tryz.ntmps227;go_wp2_with fail;go_ret;exact⟨rfl,0,rfl⟩
theorem JZ (A:Option Addr) (n c:Nat) (T:List Int) (w:World) (h:lX w w.heap.size A n T) (hn:n≤100000) (k:Nat) (x:Int) (hx:T[k]? = some x) :
    Calls Tryz.prog 228 #[.slice A n c,.int .i64 k] w fun e w'=>e=.returned (.int .i32 x)∧∃ k,w'=w.drewN k:=by
 have hk:k<n:=(by have:=(List.getElem?_eq_some_iff.1 hx).1;have:=h.len;omega);obtain⟨b,off,e,hb,hc⟩:=h.2 (by omega);subst e;have h0:w.cell? ⟨b,off+k,none⟩=some (.int .i32 x):=hc k _ (by simp [runeCells,hx]);have hk0:(0:Int)≤(k:Int):=(by omega);have hk1:(k:Int)<(n:Int):=(by omega);clear hc hx h;go_enter Tryz.func228,Tryz.ntmps228;go_wp2_with fail;go_ret;exact⟨rfl,0,rfl⟩
def WO (A:Option Addr) (n:Nat) (T:List Int) (w:World):Prop:=lX w w.heap.size A n T
theorem Ib (A:Option Addr) (n c:Nat) (T:List Int) (hn:n≤100000) (hT:T.length=n):GB 86 (.slice A n c) (.slice A n c) 227 228 T (WO A n T) where
  enterL:=CZ
  enterR:=Bs
  ml:=fun w _=>FA _ w
  mr:=fun w _=>CS _ w
  len:=fun w _=>by rw [hT];exact LN A n c w
  rune:=fun w k x h hx=>JZ A n c T w h hn k x hx
  keep:=fun w w' h hb=>(Rd.below h hb).more hb.size
theorem Jo (X:Nat→Prop) (r:ai) (A1 A2 A3 A4 At:Option Addr) (n1 c1 n2 c2 n3 c3 n4 c4 nt ct q b1 b2:Nat) (T:List Int) (w:World) (hr:bQ r) (s1:fq w X r.before (.slice A1 n1 c1)) (s2:fq w X r.source (.slice A2 n2 c2)) (s3:fq w X r.after (.slice A3 n3 c3)) (s4:cE w X 1 A4 n4 (runeCells r.target))
    (hn:nt≤100000) (hq:q≤nt) (ht:lX w w.heap.size At nt T) (h1:aj w b1 128 #[.iface 86 (.slice At nt ct)]) (h2:aj w b2 3 #[.int .i64 q]) :
    Calls Tryz.prog 64 #[.agg #[.bool r.start,.bool r.fin,.slice A1 n1 c1,.slice A2 n2 c2,.slice A3 n3 c3,.slice A4 n4 c4,.int .i64 r.ag],.pointer (some ⟨b1,0,none⟩),.pointer (some ⟨b2,0,none⟩)] w fun e w'=>e=.returned (.bool (ec r T q))∧Below w.heap.size w w':=by
 have hba:=(Below.refl w.heap.size w).alloc (Nat.le_refl _) (.cells #[.bool r.start,.bool r.fin,.slice A1 n1 c1,.slice A2 n2 c2,.slice A3 n3 c3,.slice A4 n4 c4,.int .i64 r.ag] 89);have hx:=aj.new w 89 #[.bool r.start,.bool r.fin,.slice A1 n1 c1,.slice A2 n2 c2,.slice A3 n3 c3,.slice A4 n4 c4,.int .i64 r.ag]
 have qt:rU (w.alloc (.cells #[.bool r.start,.bool r.fin,.slice A1 n1 c1,.slice A2 n2 c2,.slice A3 n3 c3,.slice A4 n4 c4,.int .i64 r.ag] 89)) X r w.heap.size 0 A1 A2 A3 A4 n1 c1 n2 c2 n3 c3 n4 c4 :=
   ⟨hx.lt,hx.cell 0,hx.cell 1,hx.cell 2,hx.cell 3,hx.cell 4,hx.cell 5,hx.cell 6,s1.keep (aa.any hba),s2.keep (aa.any hba),s3.keep (aa.any hba),s4.keep (aa.any hba)⟩
 have HH:=qqh (vM (Ib At nt ct T hn ht.len) X r w.heap.size 0 A1 A2 A3 A4 n1 c1 n2 c2 n3 c3 n4 c4 q _ (by rw [ht.len];exact hn) (by rw [ht.len];exact hq) hr qt ((Rd.below ht hba).more hba.size));have u1:=(h1.alloc (.cells #[.bool r.start,.bool r.fin,.slice A1 n1 c1,.slice A2 n2 c2,.slice A3 n3 c3,.slice A4 n4 c4,.int .i64 r.ag] 89)).cell 0;have u2:=(h2.alloc (.cells #[.bool r.start,.bool r.fin,.slice A1 n1 c1,.slice A2 n2 c2,.slice A3 n3 c3,.slice A4 n4 c4,.int .i64 r.ag] 89)).cell 0;have vu:=qqh hba;clear hx qt hba s1 s2 s3 s4 ht h1 h2 hr;go_enter Tryz.func64,Tryz.ntmps64;go_upto_region 1 with fail;generalize w.alloc (.cells #[.bool r.start,.bool r.fin,.slice A1 n1 c1,.slice A2 n2 c2,.slice A3 n3 c3,.slice A4 n4 c4,.int .i64 r.ag] 89)=W1 at *;go_wp2_with fail;refine HH.out.mono ?_;rintro e w2 ⟨rfl,aU⟩;have bD:=qqh (vu.out.trans (aU.mono vu.out.size));clear aU;go_wp2_with fail;go_ret;exact⟨rfl,bD.out⟩
def WV (w:World) (l:List ai) (T:List Int) (q n:Nat) (i:Value) (wr:World):Prop :=
  ∃ k:Nat,k≤n∧i=.int .i64 k∧bM l T q=ck l T q ((upTo n).drop k)∧Below w.heap.size w wr
theorem Rs {n k:Nat} (h:k<n):(upTo n).drop k=(k:Int)::(upTo n).drop (k+1):=by
 have hl:k<(upTo n).length:=(by simp [upTo,h]);rw [List.drop_eq_getElem_cons hl];simp [upTo]
theorem Rj (n:Nat):(upTo n).drop n = []:=by
 apply List.drop_of_length_le;simp [upTo]
theorem DX (X:Nat→Prop) (l:List ai) (A At:Option Addr) (n c nt ct q b1 b2:Nat) (T:List Int) (w:World) (hn:n≤maxLen) (hR:∀ r∈l,bQ r) (hl:bt (aL w X) w X 7 A n l)
    (hnt:nt≤100000) (hq:q≤nt) (ht:lX w w.heap.size At nt T) (h1:aj w b1 128 #[.iface 86 (.slice At nt ct)]) (h2:aj w b2 3 #[.int .i64 q]) :
    Calls Tryz.prog 63 #[.slice A n c,.func (.func 64) #[] #[.pointer (some ⟨b1,0,none⟩),.pointer (some ⟨b2,0,none⟩)]] w fun e w'=>e=.returned (.int .i64 (bM l T q))∧Below w.heap.size w w':=by
 have aQ:=qqh (show l.length=n from hl.len);have HL:=qqh hl;have HT:=qqh ht;have H1:=qqh h1;have H2:=qqh h2;have i4:=qqh hR;have H0:=qqh (show bM l T q=ck l T q ((upTo n).drop 0) by unfold bM;rw [aQ.out];rfl);clear hl ht hR h1 h2;simp only [maxLen]at hn;go_enter Tryz.func63,Tryz.ntmps63;go_wp2_with fail;go_loopw [8] (WV w l T q n) (fun i _=>n - (intOf i).toNat);(case atStart=>exact⟨0,Nat.zero_le _,rfl,H0.out,Below.refl _ _⟩);obtain⟨k,hk,rfl,aV,hb⟩:=hrel;by_cases hlt:k<n
 ·obtain⟨r,hr⟩:∃ z,l[k]? = some z:=⟨_,List.getElem?_eq_getElem (by rw [aQ.out];exact hlt)⟩;obtain⟨b,off,A1,A2,A3,A4,n1,c1,n2,c2,n3,c3,n4,c4,rfl,_,cH,⟨d0,d1,d2,d3,d4,d5,d6⟩,s1,s2,s3,s4,rD⟩:=gT (HL.out.keep (aa.any hb) (fun _ _=>aL.keep (aa.any hb))) hr;rw [Rs hlt,ck,show hereAt l T q (k:Int)=ec r T q by unfold hereAt;rw [Int.toNat_natCast,hr]]at aV;have dO:=qqh aV;have HB:=qqh hb;have HM:=qqh (Jo X r A1 A2 A3 A4 At n1 c1 n2 c2 n3 c3 n4 c4 nt ct q b1 b2 T wr (i4.out r (List.mem_of_getElem? hr)) s1 s2 s3 s4 hnt hq ((Rd.below HT.out hb).more hb.size) (aj.below H1.out hb H1.out.lt) (aj.below H2.out hb H2.out.lt));clear aV hr hb s1 s2 s3 s4 rD;go_wp2_with fail;refine HM.out.mono ?_;rintro e w9 ⟨rfl,bY⟩;have eG:=qqh (HB.out.trans (bY.mono HB.out.size));clear bY;cases hh:ec r T q
  ·have HG:=qqh (dO.out.trans (by rw [hh,if_neg (by decide)]));clear hh;go_wp2_with fail;exact⟨⟨k+1,by omega,by go_num,HG.out,eG.out⟩,by simp [intOf];omega⟩
  have HG:=qqh (dO.out.trans (by rw [hh,if_pos rfl]));clear hh;go_wp2_with fail;go_ret;exact⟨nV HG.out.symm,eG.out⟩
 obtain rfl:k=n:=(by omega);rw [Rj,ck]at aV;have HG:=qqh aV;clear aV;go_wp2_with fail;go_ret;exact⟨nV HG.out.symm,hb⟩
theorem rW (X:Nat→Prop) (l:List ai) (A At:Option Addr) (n c nt ct q:Nat) (T:List Int) (w:World) (hn:n≤maxLen) (hR:∀ r∈l,bQ r) (hl:bt (aL w X) w X 7 A n l)
    (hnt:nt≤100000) (hq:q≤nt) (ht:lX w w.heap.size At nt T) :
    Calls Tryz.prog 36 #[.slice A n c,.iface 86 (.slice At nt ct),.int .i64 q] w fun e w'=>e=.returned (.int .i64 (bM l T q))∧Below w.heap.size w w':=by
 have hba:=((Below.refl w.heap.size w).alloc (Nat.le_refl _) (.cells #[.iface 86 (.slice At nt ct)] 128)).alloc (by simp) (.cells #[.int .i64 q] 3);have H:=qqh (DX X l A At n c nt ct q w.heap.size (w.heap.size+1) T _ hn hR (hl.keep (aa.any hba) (fun _ _=>aL.keep (aa.any hba))) hnt hq ((Rd.below ht hba).more hba.size) (aj.alloc (aj.new w _ _) _) (by
  have:=aj.new (w.alloc (.cells #[.iface 86 (.slice At nt ct)] 128)) 3 #[.int .i64 q];simpa using this))
 have vu:=qqh hba;clear hba hl ht hR;go_enter Tryz.func36,Tryz.ntmps36;go_wp2_with fail;refine H.out.mono ?_;rintro e w2 ⟨rfl,aU⟩;have bD:=qqh (vu.out.trans (aU.mono vu.out.size));clear aU;go_wp2_with fail;go_ret;exact⟨rfl,bD.out⟩
end Go.Proofs.YtkggjgeihhialaaGreatDoor
