/- Contracts of functions, plain laws. Conditions: none. -/
import Derived.Laws.IdiomCopy
import Derived.Test.YtkoeecdjijfjnaaGreatE5
set_option maxRecDepth 100000
set_option maxHeartbeats 8000000
namespace Go.Proofs.YtkoeecdjijfjnaaGreat
open Go.RowKit
theorem aR {g:Nat}{t:TypeId}:∀ (us:List Value){w:World}{cs:List Value}(o:Nat),Blk w g t cs.toArray->o+us.length<=cs.length->Blk (w.setCells g o us) g t (cs.take o ++ us ++ cs.drop (o+us.length)).toArray
 | [],w,cs,o,h,_=>by simp only [World.setCells,List.append_nil,List.length_nil,Nat.add_zero,List.take_append_drop];exact h
 | u :: us,w,cs,o,h,ho=>by
  simp only [List.length_cons] at ho;have h1:=h.set_ o u;simp only [List.setIfInBounds_toArray] at h1;have h2:=aR us (o+1) h1 (by simp;omega)
  have e:(cs.set o u).take (o+1) ++ us ++ (cs.set o u).drop (o+1+us.length)=cs.take o ++ u :: us ++ cs.drop (o+(us.length+1)):=by
   rw [List.drop_set_of_lt (by omega),List.take_succ_eq_append_getElem (by simp;omega)];simp only [List.getElem_set_self,List.append_assoc,List.cons_append,List.nil_append];rw [List.take_set_of_le (by omega)];simp [Nat.add_comm,Nat.add_left_comm]
  rw [e] at h2;exact h2
theorem aD.setCells {Q:Nat->Prop}{g:Nat}(hg:¬ Q g):∀ (us:List Value){w w':World}(o:Nat),aD Q w w'->aD Q w (w'.setCells g o us)
 | [],_,_,_,h=>h
 | u :: us,_,_,o,h=>aD.setCells hg us (o+1) (h.set (p:=⟨g,o,none⟩) u hg)
theorem Fr.setCells {M:Nat->Prop}{g:Nat}:∀ (us:List Value){w w':World}(o:Nat),Fr M w w'->(M g∨w.heap.size<=g)->Fr M w (w'.setCells g o us)
 | [],_,_,_,h,_=>h
 | u :: us,_,_,o,h,hg=>Fr.setCells us (o+1) (h.setCell (p:=⟨g,o,none⟩) hg u) hg
theorem Blk.farCells {g g':Nat}{t:TypeId}{cs:Array Value}(hne:g ≠ g'):∀ (us:List Value){w:World}(o:Nat),Blk w g t cs->Blk (w.setCells g' o us) g t cs
 | [],_,_,h=>h
 | u :: us,_,o,h=>Blk.farCells hne us (o+1) (h.far (p:=⟨g',o,none⟩) hne u)
theorem Blk.some_ {w:World}{g:Nat}{t:TypeId}{cs:List Value}(h:Blk w g t cs.toArray){i:Nat}(hi:i<cs.length):∃ y,w.cell? ⟨g,i,none⟩=some y:=⟨cs[i],h.cell' i (by simp [hi])⟩
structure aOi {α:Type}(size:Nat)(R:World->(Nat->Prop)->α->List Value->Prop):Prop where
 len:∀ w P x cs,R w P x cs->cs.length=size
 carry:∀ w w' P Q x cs,R w P x cs->aD P w w'->(∀ b,b<w.heap.size->P b->Q b)->R w' Q x cs
def aFs {α:Type}(size:Nat)(R:World->(Nat->Prop)->α->List Value->Prop)(l:List α)(g:Nat)(ty:TypeId)(W0:World)(i:Value)(wr:World):Prop :=
 ∃ (k:Nat) (cs:List Value),k<=l.length∧i=.int .i64 k∧Blk wr g ty cs.toArray∧cs.length=l.length*size∧RL (R wr (fun b=>W0.heap.size<=b∧b ≠ g)) (l.take k) (cs.take (k*size))∧Ext W0 wr
section
variable {α:Type}{size:Nat}{R:World->(Nat->Prop)->α->List Value->Prop}
theorem RL.move {w w':World}{P Q:Nat->Prop}(hE:aOi size R){l:List α}{cs:List Value}(h:RL (R w P) l cs)(hk:aD P w w')(hPQ:∀ b,b<w.heap.size->P b->Q b):RL (R w' Q) l cs :=
 h.mono (fun x _ cs hx=>hE.carry w w' P Q x cs hx hk hPQ)
theorem uO {l:List α}{ty:TypeId}{W0:World}(cs:Array Value)(hcs:cs.size=l.length*size):aFs size R l W0.heap.size ty W0 (.int .i64 0) (W0.alloc (.cells cs ty)) :=
 ⟨0,cs.toList,Nat.zero_le _,rfl,by simpa using Blk.new W0 ty cs,by simpa using hcs,by simp [RL],(Ext.refl _).alloc' _⟩
theorem yN (hE:aOi size R){l:List α}{g:Nat}{ty:TypeId}{W0 wr w1:World}{k:Nat}{cs us:List Value}(d:α)(hg:W0.heap.size<=g)(hk:k<l.length)(hB:Blk wr g ty cs.toArray)(hl:cs.length=l.length*size)
  (hR:RL (R wr (fun b=>W0.heap.size<=b∧b ≠ g)) (l.take k) (cs.take (k*size)))(hx:Ext W0 wr)(h1:Ext wr w1)(hu:R w1 (fun b=>wr.heap.size<=b) (l.getD k d) us) :
  aFs size R l g ty W0 (.int .i64 ((k:Int)+1)) (w1.setCells g (k*size) us):=by
 have hus:=hE.len _ _ _ _ hu;have hkl:k*size+size<=l.length*size:=by rw [<- Nat.succ_mul];exact Nat.mul_le_mul_right _ hk
 have hB1:=aR us (k*size) (hB.ext h1) (by omega);have hgl:=hB.lt;refine ⟨k+1,_,by omega,by simp,hB1,?_,?_,?_⟩
 ·simp only [List.length_append,List.length_take,List.length_drop];omega
 ·have e:(cs.take (k*size) ++ us ++ cs.drop (k*size+us.length)).take ((k+1)*size)=cs.take (k*size) ++ us:=by
   rw [List.take_append_of_le_length (by simp only [List.length_append,List.length_take];rw [Nat.add_mul];omega),List.take_of_length_le (by simp only [List.length_append,List.length_take];rw [Nat.add_mul];omega)]
  rw [e,aZ d hk];have hg2:¬ (fun b=>W0.heap.size<=b∧b ≠ g) g:=fun h=>h.2 rfl
  refine RL.append ?_ (RL.one ?_)
  ·refine hR.move hE (aD.setCells hg2 us (k*size) (aD.of_ext h1)) (fun _ _ h=>h)
  ·have hk0:aD (fun b=>wr.heap.size<=b) w1 w1:=fun _ _ _=>rfl
   have hsz:=hx.size;exact hE.carry _ _ _ _ _ _ hu (aD.setCells (by simp;omega) us (k*size) hk0) (fun b _ h=>⟨by omega,by omega⟩)
 ·exact ((Fr.of_ext (M:=fun _=>False) (hx.trans' h1)).setCells us (k*size) (.inr hg)).ext
theorem aE3 (hE:aOi size R){l:List α}{g:Nat}{ty:TypeId}{W0 wr:World}{cs:List Value}(hg:W0.heap.size<=g)(hln:l.length<=17592186044416)(hB:Blk wr g ty cs.toArray)(hl:cs.length=l.length*size)
  (hR:RL (R wr (fun b=>W0.heap.size<=b∧b ≠ g)) (l.take l.length) (cs.take (l.length*size))):Lst wr (fun b=>W0.heap.size<=b) size (R wr (fun b=>W0.heap.size<=b)) (.slice (some ⟨g,0,none⟩) l.length l.length) l:=by
 rw [List.take_length,List.take_of_length_le (by omega)] at hR;exact ⟨_,_,cs,rfl,Nat.le_refl _,⟨hln,by omega⟩,⟨hl,fun _=>⟨g,0,rfl,hg,fun j u hu=>by rw [Nat.zero_add];exact hB.cell' j (by simpa using hu)⟩⟩,hR.move hE (fun _ _ _=>rfl) (fun _ _ h=>h.1)⟩
end
theorem aRr:aOi 4 RV:=⟨fun _ _ _ _ h=>h.len,fun _ _ _ _ _ _ h hk hPQ=>RV.carry hk hPQ h⟩
theorem qC:aOi 12 RN:=⟨fun _ _ _ _ h=>RN.len _ _ h,fun _ _ _ _ _ _ h hk hPQ=>h.carry hk hPQ⟩
def aUf (x:GV)(w:World)(e:Ending)(w':World):Prop:=∃ A c,e=.returned (eI x A c)∧VAt w' (fun b=>w.heap.size<=b) x A c∧Ext w w'
def sP (x:GV):Prop:=∀ (A:Option Addr)(c:Nat)(P:Nat->Prop)(w:World),VAt w P x A c->Calls Tryz.prog 143 #[eI x A c] w (aUf x w)
def aSk (l:List GV)(w:World)(e:Ending)(w':World):Prop:=∃ A c,e=.returned (.slice A l.length c)∧cB w' (fun b=>w.heap.size<=b) (.slice A l.length c) l∧Ext w w'
theorem mH (l:List GV)(hF:∀ x ∈ l,sP x)(P:Nat->Prop)(v:Value)(w:World)(hl:cB w P v l)(hlen:l.length<=1000000000):Calls Tryz.prog 182 #[v,.func (.func 143) #[] #[]] w (aSk l w):=by
 have HF:=aV4 hF;have HV:=aV4 hl;obtain ⟨A,c,e,h1,h2⟩:=hl.form;subst e;clear hl hF
 by_cases h0:l.length=0
 ·have t0:((l.length:Int) == 0)=true:=aV6 (by omega)
  have hnil:l=[]:=List.eq_nil_of_length_eq_zero h0;subst hnil;clear h0;go_enter Tryz.func182,Tryz.ntmps182;go_wp2_with fail;go_ret;exact ⟨none,0,rfl,⟨none,0,[],rfl,Nat.le_refl _,by simp,⟨rfl,fun h=>by simp at h⟩,by simp [RVs]⟩,Ext.refl _⟩
 ·have t0:((l.length:Int) == 0)=false:=aV5 (by omega)
  have H0:=aV4 h0;clear h0;obtain ⟨i0,hi,hz0,hz1,hz2⟩:=info_parts Tryz.info85
  have hmk:∀ W:World,(Instr.makeSlice 83 (.int .i64 (l.length:Int)) (.int .i64 (l.length:Int))).run Tryz.prog W=.ok (.slice (some ⟨W.heap.size,0,none⟩) l.length l.length) (W.alloc (.cells (madeCells #[.int .i64 0,.int .i64 0,.string ByteArray.empty,.slice none 0 0] (l.length*4)) 85)):=by
   intro W;have h:=run_make (P:=Tryz.prog) W 83 85 i0 _ Tryz.underlying83 hi hz0 .i64 .i64 (l.length:Int) (l.length:Int) (by omega) (Int.le_refl _) (by rw [hz2];omega) (by omega);rw [hz1] at h;rw [h]
   rfl
  have hsz:=size_madeCells #[.int .i64 0,.int .i64 0,.string ByteArray.empty,.slice none 0 0] (l.length*4);generalize madeCells #[.int .i64 0,.int .i64 0,.string ByteArray.empty,.slice none 0 0] (l.length*4)=mc at *;have HSZ:=aV4 hsz;clear hsz hi hz0 hz1 hz2 i0;go_enter Tryz.func182,Tryz.ntmps182;go_wp2_with fail;go_loopw [15] (fun i wr=>aFs 4 RV l w.heap.size 85 w i wr) (fun i _=>l.length - (intOf i).toNat)
  case atStart=>exact uO mc HSZ.out
  case round =>
   obtain ⟨k,cs,hk,rfl,hB,hcl,hR,hx⟩:=hrel;have HB:=aV4 hB;have HCL:=aV4 hcl;have HR:=aV4 hR;have HX:=aV4 hx;clear hB hcl hR hx
   by_cases hlt:k<l.length
   ·obtain ⟨b1,o1,A1,d1,rfl,-,hv1,g10,g11,g12,g13⟩:=(HV.out.ext HX.out).get hlt
    have HV1:=aV4 hv1;have HCX:=aV4 (HF.out _ (aG (d:=default) hlt) A1 d1 P wr hv1);have HGX:=aV4 (show ∃ x,x=l.getD k default from ⟨_,rfl⟩);obtain ⟨x,hgx⟩:=HGX.out;have HG:=aV4 hgx;rw [<- hgx] at HCX g10 g11 g12 g13;have hkk:(k:Int)<(l.length:Int):=by omega
    clear hv1 HV1 HGX hgx;go_wp2_with fail;refine (HCX.out).mono ?_;rintro e w1 ⟨A2,d2,rfl,hv2,hx2⟩;have hBB:=HB.out.ext hx2;have hcl:=HCL.out;obtain ⟨y0,q0⟩:=hBB.some_ (i:=k*4) (by omega);obtain ⟨y1,q1⟩:=hBB.some_ (i:=k*4+1) (by omega);obtain ⟨y2,q2⟩:=hBB.some_ (i:=k*4+2) (by omega);obtain ⟨y3,q3⟩:=hBB.some_ (i:=k*4+3) (by omega);have f0:=hBB.frozen (k*4);have f1:=hBB.frozen (k*4+1);have f2:=hBB.frozen (k*4+2);have f3:=hBB.frozen (k*4+3);have HV2:=aV4 hv2;have HX2:=aV4 hx2;clear hv2 hx2 hBB hcl;go_wp2_with fail;go_roundw
    case rel =>
     have:=HG.out;subst this;exact yN (w1:=w1) aRr default (Nat.le_refl _) hlt HB.out HCL.out HR.out HX.out HX2.out (us:=cellsOf _ A2 d2) HV2.out.rv
    case measure=>simp [intOf];omega
   ·obtain rfl:k=l.length:=by omega
    go_wp2_with fail;go_ret;exact ⟨_,_,rfl,aAk.2 (aE3 aRr (Nat.le_refl _) (by omega) HB.out HCL.out HR.out),HX.out⟩
theorem zS:∀ (l:List GV),l.length<=jO l
 | []=>by simp [jO]
 | x :: xs=>by
  have:=zS xs;obtain ⟨k,n,s,l⟩:=x;simp only [jO,gsz,List.length_cons];omega
theorem aRp (x:GV):gsz x=1+jO x.kids:=by obtain ⟨k,n,s,l⟩:=x;simp only [gsz,GV.kids]
theorem aY {w:World}{g:Nat}{t:TypeId}{u0 u1 u2 u3:Value}(h:Blk w g t #[u0,u1,u2,u3]):w.cell? ⟨g,0,none⟩=some u0∧w.cell? ⟨g,1,none⟩=some u1∧w.cell? ⟨g,2,none⟩=some u2∧w.cell? ⟨g,3,none⟩=some u3:=⟨h.cell' 0 rfl,h.cell' 1 rfl,h.cell' 2 rfl,h.cell' 3 rfl⟩
theorem yM (N:Nat)(ih:∀ x,gsz x<N->gsz x<=1000000->sP x)(x:GV)(hN:gsz x<N+1)(hs:gsz x<=1000000):sP x:=by
 intro A c P w hx;have hkl:x.kids.length<=1000000:=by have:=zS x.kids;have:=aRp x;omega
 have HK:=aV4 (show ∀ y ∈ x.kids,sP y from fun y hy=>ih y (by have:=cT hy;omega) (by have:=cT hy;omega));have HX:=aV4 hx;have hc1:=hx.len;have hc2:=hx.cap;clear hx ih hs hN;go_enter Tryz.func143,Tryz.ntmps143;go_wp2_with fail;have HE:=aV4 (show Ext w ((w.alloc (.cells #[.int .i64 x.kind,.int .i64 x.n,.string x.s,.slice A x.kids.length c] 85)).alloc (.cells #[.int .i64 0,.int .i64 0,.string ⟨#[]⟩,.slice none 0 0] 85)) from ((Ext.refl w).alloc' _).alloc' _);have HB:=aV4 ((Blk.new w 85 #[.int .i64 x.kind,.int .i64 x.n,.string x.s,.slice A x.kids.length c]).alloc (.cells #[.int .i64 0,.int .i64 0,.string ⟨#[]⟩,.slice none 0 0] 85));have HR:=aV4 (Blk.new' (w.alloc (.cells #[.int .i64 x.kind,.int .i64 x.n,.string x.s,.slice A x.kids.length c] 85)) 85 #[.int .i64 0,.int .i64 0,.string ⟨#[]⟩,.slice none 0 0] (g:=w.heap.size+1) (by simp));generalize hW:(w.alloc (.cells #[.int .i64 x.kind,.int .i64 x.n,.string x.s,.slice A x.kids.length c] 85)).alloc (.cells #[.int .i64 0,.int .i64 0,.string ⟨#[]⟩,.slice none 0 0] 85)=W at *;clear hW;refine (mH x.kids HK.out P _ W (HX.out.kids.ext HE.out) (by omega)).mono ?_;rintro e w1 ⟨A1,c1,rfl,hv1,hx1⟩;have B1:=HB.out.ext hx1;have R1:=HR.out.ext hx1;obtain ⟨b0,b1,b2,b3⟩:=aY B1
 obtain ⟨r0,r1,r2,r3⟩:=aY R1;have fb:=B1.frozen 3;have f0:=R1.frozen 0;have f1:=R1.frozen 1;have f2:=R1.frozen 2;have f3:=R1.frozen 3;have HB1:=aV4 B1;have HR1:=aV4 R1;have HX1:=aV4 hx1;have HV1:=aV4 hv1;have HSZ:=aV4 HE.out.size;clear hx1 hv1 B1 R1;go_wp2_with fail;have hfin:=aR [.int .i64 x.kind,.int .i64 x.n,.string x.s,.slice A1 x.kids.length c1] (w:=w1.setCell ⟨w.heap.size,3,none⟩ (.slice A1 x.kids.length c1)) (cs:=[.int .i64 0,.int .i64 0,.string ⟨#[]⟩,.slice none 0 0]) (g:=w.heap.size+1) (t:=85) 0 (HR1.out.far (p:=⟨w.heap.size,3,none⟩) (by simp) _) (by simp);have hnl:=HB1.out.lt;have hWs:=HSZ.out
 have hfr:Ext w ((w1.setCell ⟨w.heap.size,3,none⟩ (.slice A1 x.kids.length c1)).setCells (w.heap.size+1) 0 [.int .i64 x.kind,.int .i64 x.n,.string x.s,.slice A1 x.kids.length c1]) :=
  ((((Fr.of_ext (M:=fun _=>False) (HE.out.trans' HX1.out)).setCell (p:=⟨w.heap.size,3,none⟩) (.inr (Nat.le_refl _)) _).setCells _ 0 (.inr (by omega)))).ext
 have hwg:=HB.out.lt;have hwr:=HR.out.lt
 have hkv:cB ((w1.setCell ⟨w.heap.size,3,none⟩ (.slice A1 x.kids.length c1)).setCells (w.heap.size+1) 0 [.int .i64 x.kind,.int .i64 x.n,.string x.s,.slice A1 x.kids.length c1]) (fun b=>w.heap.size<=b) (.slice A1 x.kids.length c1) x.kids:=by
  have hk0:aD (fun b=>W.heap.size<=b) w1 w1:=fun _ _ _=>rfl
  exact HV1.out.carry (aD.setCells (by simp;omega) _ 0 (hk0.set (p:=⟨w.heap.size,3,none⟩) _ (by simp;omega))) (fun b _ h=>by omega)
 simp only [List.take_zero,List.nil_append,List.length_cons,List.length_nil,Nat.zero_add,List.drop_succ_cons,List.drop_nil,List.append_nil] at hfin;obtain ⟨z0,z1,z2,z3⟩:=aY hfin;have hgen:((((w1.setCell ⟨w.heap.size,3,none⟩ (.slice A1 x.kids.length c1)).setCell ⟨w.heap.size+1,0,none⟩ (.int .i64 x.kind)).setCell ⟨w.heap.size+1,1,none⟩ (.int .i64 x.n)).setCell ⟨w.heap.size+1,2,none⟩ (.string x.s)).setCell ⟨w.heap.size+1,3,none⟩ (.slice A1 x.kids.length c1)=(w1.setCell ⟨w.heap.size,3,none⟩ (.slice A1 x.kids.length c1)).setCells (w.heap.size+1) 0 [.int .i64 x.kind,.int .i64 x.n,.string x.s,.slice A1 x.kids.length c1]:=rfl;rw [hgen];generalize (w1.setCell ⟨w.heap.size,3,none⟩ (.slice A1 x.kids.length c1)).setCells (w.heap.size+1) 0 [.int .i64 x.kind,.int .i64 x.n,.string x.s,.slice A1 x.kids.length c1]=W2 at *;exact bodyPost_ret (v:=eI x A1 c1) (by simp [results,Tryz.results143,go_sem,z0,z1,z2,z3]) rfl ⟨A1,c1,rfl,⟨HX.out.kind,HX.out.n,HX.out.s,hkv.le.1,hkv.le.2,hkv⟩,hfr⟩
theorem aB0 (N:Nat):∀ x,gsz x<N->gsz x<=1000000->sP x:=by
 induction N with
 | zero=>intro x h;omega
 | succ N ih=>exact fun x h hs=>yM N ih x h hs
theorem sG (x:GV)(hs:gsz x<=1000000):sP x:=aB0 (gsz x+1) x (by omega) hs
theorem uL (l:List GV)(hs:∀ x ∈ l,gsz x<=1000000)(P:Nat->Prop)(v:Value)(w:World)(hl:cB w P v l)(hlen:l.length<=1000000000):Calls Tryz.prog 142 #[v] w (aSk l w):=by
 have HC:=aV4 (mH l (fun x hx=>sG x (hs x hx)) P v w hl hlen);obtain ⟨A,c,e,h1,h2⟩:=hl.form;subst e;clear hl hs;go_enter Tryz.func142,Tryz.ntmps142;go_wp2_with fail;refine HC.out.mono ?_;rintro e w1 ⟨A1,c1,rfl,hv1,hx1⟩;have HV:=aV4 hv1;have HX:=aV4 hx1;clear hv1 hx1;go_wp2_with fail;go_ret;exact ⟨A1,c1,rfl,HV.out,HX.out⟩
def aUi (l:List Int)(w:World)(e:Ending)(w':World):Prop:=∃ A c,e=.returned (.slice A l.length c)∧bT w' (fun b=>w.heap.size<=b) (.slice A l.length c) l∧Ext w w'
def aUg (l:List ByteArray)(w:World)(e:Ending)(w':World):Prop:=∃ A c,e=.returned (.slice A l.length c)∧qT w' (fun b=>w.heap.size<=b) (.slice A l.length c) l∧Ext w w'
theorem Tryz.info9:(Tryz.prog.info? 9).map (fun i=>(i.zero,i.size,i.bytes))=some (some (.string ByteArray.empty),1,16):=by kernel_rfl
theorem aB5 {l:List ByteArray}{cs:List Value}(h:RL aS2 l cs):cs=l.map Value.string∧∀ s ∈ l,s.size<=17592186044416:=by
 induction l generalizing cs with
 | nil=>simp only [RL] at h;subst h;exact ⟨rfl,fun s hs=>by simp at hs⟩
 | cons x xs ih =>
  simp only [RL] at h;obtain ⟨c1,c2,rfl,h1,h2⟩:=h;obtain ⟨e,h3⟩:=ih h2;refine ⟨by rw [h1.2,e];rfl,fun s hs=>?_⟩;rcases List.mem_cons.1 hs with rfl | hs
  ·exact h1.1
  ·exact h3 s hs
theorem wQ (l:List Int)(P:Nat->Prop)(v:Value)(w:World)(hl:bT w P v l)(hlen:l.length<=1000000):Calls Tryz.prog 140 #[v] w (aUi l w):=by
 obtain ⟨A,c,rfl,h1,h2,h3,h4⟩:=hl;have H2:=aV4 h2;have H3:=aV4 h3;have H4:=aV4 h4;clear h3 h4
 by_cases h0:l.length=0
 ·have t0:((l.length:Int) == 0)=true:=aV6 (by omega)
  have hnil:l=[]:=List.eq_nil_of_length_eq_zero h0;subst hnil;clear h0;go_enter Tryz.func140,Tryz.ntmps140;go_wp2_with fail;go_ret;exact ⟨none,0,rfl,⟨none,0,rfl,Nat.le_refl _,by simp,fun x hx=>by simp at hx,rfl,fun h=>by simp at h⟩,Ext.refl _⟩
 ·have t0:((l.length:Int) == 0)=false:=aV5 (by omega)
  clear h0;obtain ⟨i0,hi,hz0,hz1,hz2⟩:=info_parts Tryz.info3;have HI:=aV4 hi;clear hi;go_enter Tryz.func140,Tryz.ntmps140;go_wp2_with (at_builtin;refine aN _ rfl (.tmp 6) (.tmp 7) 22 (by rfl) w.heap.size 3 i0 _ 1 8 Tryz.underlying22 HI.out hz0 hz1 hz2 rfl (by omega) (.slice (some ⟨w.heap.size,0,none⟩) 0 0) 0 [] rfl (World.ownsRow_lit w #[] 0 (Nat.le_refl _) (by unfold maxLen;omega) rfl) P A l.length c (l.map (Value.int .i64)) rfl (H4.out.keep (aD.of_ext ((Ext.refl _).alloc' _)) (fun _ h=>h)) (fun u hu=>by obtain ⟨z,_,rfl⟩:=List.mem_map.1 hu;rfl) (by omega) (by omega) (by simp) ?_;intro v1 w1 ho1 hb1);simp only [Nat.zero_add,List.nil_append] at ho1;obtain ⟨A1,c1,e0,e1,e2,e3⟩:=Sl.of_own ho1;unfold maxLen at e2;subst e0;have HB:=aV4 (show Ext w w1 from Below.trans ((Ext.refl w).alloc' _) hb1);go_wp2_with fail;go_ret;exact ⟨A1,c1,rfl,⟨A1,c1,rfl,e1,⟨H2.out.1,e2⟩,H3.out,e3 _ (fun b hb=>(ho1.lt b hb).1)⟩,HB.out⟩
theorem aEl (l:List ByteArray)(P:Nat->Prop)(v:Value)(w:World)(hl:qT w P v l)(hlen:l.length<=1000000):Calls Tryz.prog 141 #[v] w (aUg l w):=by
 obtain ⟨A,c,css,rfl,h1,h2,h4,h3⟩:=hl;have H2:=aV4 h2;have H3:=aV4 h3;have H4:=aV4 h4;clear h3 h4
 by_cases h0:l.length=0
 ·have t0:((l.length:Int) == 0)=true:=aV6 (by omega)
  have hnil:l=[]:=List.eq_nil_of_length_eq_zero h0;subst hnil;clear h0;go_enter Tryz.func141,Tryz.ntmps141;go_wp2_with fail;go_ret;exact ⟨none,0,rfl,⟨none,0,[],rfl,Nat.le_refl _,by simp,⟨rfl,fun h=>by simp at h⟩,by simp [RL]⟩,Ext.refl _⟩
 ·have t0:((l.length:Int) == 0)=false:=aV5 (by omega)
  clear h0;obtain ⟨i0,hi,hz0,hz1,hz2⟩:=info_parts Tryz.info9;have HI:=aV4 hi;clear hi;go_enter Tryz.func141,Tryz.ntmps141;go_wp2_with (at_builtin;refine aN _ rfl (.tmp 6) (.tmp 7) 82 (by rfl) w.heap.size 9 i0 _ 1 16 Tryz.underlying82 HI.out hz0 hz1 hz2 rfl (by omega) (.slice (some ⟨w.heap.size,0,none⟩) 0 0) 0 [] rfl (World.ownsRow_lit w #[] 0 (Nat.le_refl _) (by unfold maxLen;omega) rfl) P A l.length c css rfl (H4.out.keep (aD.of_ext ((Ext.refl _).alloc' _)) (fun _ h=>h)) (fun u hu=>by rw [(aB5 H3.out).1] at hu;obtain ⟨z,_,rfl⟩:=List.mem_map.1 hu;rfl) (by omega) (by omega) (by simp) ?_;intro v1 w1 ho1 hb1);simp only [Nat.zero_add,List.nil_append] at ho1;obtain ⟨A1,c1,e0,e1,e2,e3⟩:=Sl.of_own ho1;unfold maxLen at e2;subst e0;have HB:=aV4 (show Ext w w1 from Below.trans ((Ext.refl w).alloc' _) hb1);go_wp2_with fail;go_ret;exact ⟨A1,c1,rfl,⟨A1,c1,css,rfl,e1,⟨H2.out.1,e2⟩,e3 _ (fun b hb=>(ho1.lt b hb).1),H3.out⟩,HB.out⟩
def aUh (x:GN)(w:World)(e:Ending)(w':World):Prop:=∃ a,e=.returned (hH x a)∧NAt w' (fun b=>w.heap.size<=b) x a∧Ext w w'
theorem zM {W w1:World}{gb gr:Nat}{t t':TypeId}{cs zs:Array Value}(hB:Blk W gb t cs)(hR:Blk W gr t' zs)(hne:gr ≠ gb)(hx:Ext W w1)(i:Nat)(v:Value) :
  Blk (w1.setCell ⟨gb,i,none⟩ v) gb t (cs.setIfInBounds i v)∧Blk (w1.setCell ⟨gb,i,none⟩ v) gr t' zs∧Fr (fun b=>b=gb) W (w1.setCell ⟨gb,i,none⟩ v) :=
 ⟨(hB.ext hx).set_ i v,(hR.ext hx).far (p:=⟨gb,i,none⟩) hne v,(Fr.of_ext (M:=fun b=>b=gb) hx).setCell (p:=⟨gb,i,none⟩) (.inl rfl) v⟩
structure CnW (w W:World)(P:Nat->Prop)(x:GN)(a:NA)(cs:Array Value):Prop where
 box:Blk W w.heap.size 87 cs
 res:Blk W (w.heap.size+1) 87 #[.int .i64 0,.string ⟨#[]⟩,.int .i64 0,.int .i64 0,.slice none 0 0,.slice none 0 0,.slice none 0 0,.slice none 0 0,.int .i64 0,.int .i64 0,.string ⟨#[]⟩,.slice none 0 0]
 ext:Ext w W
 node:NAt W P x a
 sz:w.heap.size+2<=W.heap.size
theorem CnW.step {w W w1:World}{P:Nat->Prop}{x:GN}{a:NA}{cs:Array Value}(h:CnW w W P x a cs)(hP:∀ b,P b->b<w.heap.size)(hx:Ext W w1)(i:Nat)(v:Value):CnW w (w1.setCell ⟨w.heap.size,i,none⟩ v) P x a (cs.setIfInBounds i v):=by
 obtain ⟨h1,h2,h3⟩:=zM h.box h.res (by omega) hx i v;exact ⟨h1,h2,((Fr.of_ext (M:=fun _=>False) (h.ext.trans' hx)).setCell (p:=⟨w.heap.size,i,none⟩) (.inr (Nat.le_refl _)) v).ext,h.node.carry (aD.of_fr h3 (fun b hb e=>by have:=hP b hb;omega)) (fun _ _ h=>h),Nat.le_trans h.sz h3.size⟩
theorem CnW.keeps {w W w1:World}{P:Nat->Prop}{x:GN}{a:NA}{cs:Array Value}(h:CnW w W P x a cs)(hx:Ext W w1)(i:Nat)(v:Value):aD (fun b=>w.heap.size+2<=b) W (w1.setCell ⟨w.heap.size,i,none⟩ v) :=
 aD.of_fr (zM h.box h.res (by omega) hx i v).2.2 (fun b hb e=>by omega)
theorem CnW.keep1 {w W w1:World}{P:Nat->Prop}{x:GN}{a:NA}{cs:Array Value}(h:CnW w W P x a cs)(i:Nat)(v:Value):aD (fun b=>W.heap.size<=b) w1 (w1.setCell ⟨w.heap.size,i,none⟩ v) :=
 aD.set (fun _ _ _=>rfl) v (by have:=h.sz;simp;omega)
theorem uN (x:GN)(a:NA)(P:Nat->Prop)(w:World)(hP:∀ b,P b->b<w.heap.size)(hx:NAt w P x a)(h1:x.weights.length<=1000000)(h2:x.labels.length<=1000000)(h3:x.values.length<=1000000)(h4:x.kids.length<=1000000)(h5:gsz x.value<=1000000)(h6:∀ v ∈ x.values,gsz v<=1000000) :
  Calls Tryz.prog 95 #[hH x a] w (aUh x w):=by
 have HX:=aV4 hx;have HP:=aV4 hP;have H5:=aV4 h5;have H6:=aV4 h6;clear hx hP h5 h6;go_enter Tryz.func95,Tryz.ntmps95;go_wp2_with fail
 have HC0:=aV4 (show CnW w ((w.alloc (.cells (aE x a).toArray 87)).alloc (.cells #[.int .i64 0,.string ⟨#[]⟩,.int .i64 0,.int .i64 0,.slice none 0 0,.slice none 0 0,.slice none 0 0,.slice none 0 0,.int .i64 0,.int .i64 0,.string ⟨#[]⟩,.slice none 0 0] 87)) P x a (aE x a).toArray from
  ⟨(Blk.new w 87 (aE x a).toArray).alloc _,Blk.new' _ 87 _ (by simp),((Ext.refl w).alloc' _).alloc' _,HX.out.ext (((Ext.refl w).alloc' _).alloc' _),by simp⟩)
 generalize (w.alloc (.cells (aE x a).toArray 87)).alloc (.cells #[.int .i64 0,.string ⟨#[]⟩,.int .i64 0,.int .i64 0,.slice none 0 0,.slice none 0 0,.slice none 0 0,.slice none 0 0,.int .i64 0,.int .i64 0,.string ⟨#[]⟩,.slice none 0 0] 87)=W0 at *;refine (wQ x.weights P _ W0 HC0.out.node.weights h1).mono ?_;rintro e v1 ⟨A1,c1,rfl,hv1,hx1⟩;have HC1:=aV4 (HC0.out.step HP.out hx1 4 (.slice A1 x.weights.length c1));have HV1:=aV4 (hv1.carry (Q:=fun b=>w.heap.size+2<=b) (HC0.out.keep1 4 (.slice A1 x.weights.length c1)) (fun b _ h=>by have:=HC0.out.sz;omega));have B1:=HC0.out.box.ext hx1;obtain ⟨y1,q1⟩:∃ y,v1.cell? ⟨w.heap.size,4,none⟩=some y:=⟨_,B1.cell' 4 rfl⟩;have fz1:=B1.frozen 4;have r1_5:=B1.cell' (u:=.slice a.lA x.labels.length a.lc) 5 rfl;clear hv1 hx1 B1;go_wp2_with fail;generalize v1.setCell ⟨w.heap.size,4,none⟩ (.slice A1 x.weights.length c1)=W1 at *;clear q1 fz1 r1_5;refine (aEl x.labels P _ W1 HC1.out.node.labels h2).mono ?_;rintro e v2 ⟨A2,c2,rfl,hv2,hx2⟩;have HC2:=aV4 (HC1.out.step HP.out hx2 5 (.slice A2 x.labels.length c2));have HV2:=aV4 (hv2.carry (Q:=fun b=>w.heap.size+2<=b) (HC1.out.keep1 5 (.slice A2 x.labels.length c2)) (fun b _ h=>by have:=HC1.out.sz;omega));have HV1':=aV4 (HV1.out.carry (HC1.out.keeps hx2 5 (.slice A2 x.labels.length c2)) (fun _ _ h=>h))
 clear HV1;have HV1:=HV1';clear HV1';have B2:=HC1.out.box.ext hx2;obtain ⟨y2,q2⟩:∃ y,v2.cell? ⟨w.heap.size,5,none⟩=some y:=⟨_,B2.cell' 5 rfl⟩;have fz2:=B2.frozen 5;have r2_6:=B2.cell' (u:=.slice a.vA x.values.length a.vc) 6 rfl;clear hv2 hx2 B2;go_wp2_with fail;generalize v2.setCell ⟨w.heap.size,5,none⟩ (.slice A2 x.labels.length c2)=W2 at *;clear q2 fz2 r2_6;refine (uL x.values H6.out P _ W2 HC2.out.node.values (by omega)).mono ?_;rintro e v3 ⟨A3,c3,rfl,hv3,hx3⟩;have HC3:=aV4 (HC2.out.step HP.out hx3 6 (.slice A3 x.values.length c3));have HV3:=aV4 (hv3.carry (Q:=fun b=>w.heap.size+2<=b) (HC2.out.keep1 6 (.slice A3 x.values.length c3)) (fun b _ h=>by have:=HC2.out.sz;omega));have HV1':=aV4 (HV1.out.carry (HC2.out.keeps hx3 6 (.slice A3 x.values.length c3)) (fun _ _ h=>h));have HV2':=aV4 (HV2.out.carry (HC2.out.keeps hx3 6 (.slice A3 x.values.length c3)) (fun _ _ h=>h));clear HV1;have HV1:=HV1';clear HV1';clear HV2;have HV2:=HV2';clear HV2';have B3:=HC2.out.box.ext hx3;obtain ⟨y3,q3⟩:∃ y,v3.cell? ⟨w.heap.size,6,none⟩=some y:=⟨_,B3.cell' 6 rfl⟩;have fz3:=B3.frozen 6;have aSz:=B3.cell' (u:=.slice a.kA x.kids.length a.kc) 7 rfl;clear hv3 hx3 B3;go_wp2_with fail;generalize v3.setCell ⟨w.heap.size,6,none⟩ (.slice A3 x.values.length c3)=W3 at *
 clear q3 fz3 aSz;refine (wQ x.kids P _ W3 HC3.out.node.kids h4).mono ?_;rintro e v4 ⟨A4,c4,rfl,hv4,hx4⟩;have HC4:=aV4 (HC3.out.step HP.out hx4 7 (.slice A4 x.kids.length c4));have HV4:=aV4 (hv4.carry (Q:=fun b=>w.heap.size+2<=b) (HC3.out.keep1 7 (.slice A4 x.kids.length c4)) (fun b _ h=>by have:=HC3.out.sz;omega));have HV1':=aV4 (HV1.out.carry (HC3.out.keeps hx4 7 (.slice A4 x.kids.length c4)) (fun _ _ h=>h));have HV2':=aV4 (HV2.out.carry (HC3.out.keeps hx4 7 (.slice A4 x.kids.length c4)) (fun _ _ h=>h));have HV3':=aV4 (HV3.out.carry (HC3.out.keeps hx4 7 (.slice A4 x.kids.length c4)) (fun _ _ h=>h));clear HV1;have HV1:=HV1';clear HV1';clear HV2;have HV2:=HV2';clear HV2';clear HV3;have HV3:=HV3';clear HV3';have B4:=HC3.out.box.ext hx4;obtain ⟨y4,q4⟩:∃ y,v4.cell? ⟨w.heap.size,7,none⟩=some y:=⟨_,B4.cell' 7 rfl⟩;have fz4:=B4.frozen 7;have r4_8:=B4.cell' (u:=.int .i64 x.value.kind) 8 rfl;have r4_9:=B4.cell' (u:=.int .i64 x.value.n) 9 rfl;have r4_10:=B4.cell' (u:=.string x.value.s) 10 rfl;have r4_11:=B4.cell' (u:=.slice a.xA x.value.kids.length a.xc) 11 rfl;clear hv4 hx4 B4;go_wp2_with fail;generalize v4.setCell ⟨w.heap.size,7,none⟩ (.slice A4 x.kids.length c4)=W4 at *;clear q4 fz4 r4_8 r4_9 r4_10 r4_11
 refine (sG x.value H5.out a.xA a.xc P W4 HC4.out.node.value).mono ?_;rintro e v5 ⟨A5,c5,rfl,hv5,hx5⟩;have B5:=HC4.out.box.ext hx5;have R5:=HC4.out.res.ext hx5;have r5_0:=B5.cell' (u:=.int .i64 x.kind) 0 rfl;have r5_1:=B5.cell' (u:=.string x.name) 1 rfl;have r5_2:=B5.cell' (u:=.int .i64 x.lo) 2 rfl;have r5_3:=B5.cell' (u:=.int .i64 x.hi) 3 rfl;have r5_4:=B5.cell' (u:=.slice A1 x.weights.length c1) 4 rfl;have r5_5:=B5.cell' (u:=.slice A2 x.labels.length c2) 5 rfl;have r5_6:=B5.cell' (u:=.slice A3 x.values.length c3) 6 rfl;have r5_7:=B5.cell' (u:=.slice A4 x.kids.length c4) 7 rfl;have r5_8:=B5.cell' (u:=.int .i64 x.value.kind) 8 rfl;have r5_9:=B5.cell' (u:=.int .i64 x.value.n) 9 rfl;have r5_10:=B5.cell' (u:=.string x.value.s) 10 rfl;have r5_11:=B5.cell' (u:=.slice a.xA x.value.kids.length a.xc) 11 rfl;have fb5_8:=B5.frozen 8;have fb5_9:=B5.frozen 9;have fb5_10:=B5.frozen 10;have fb5_11:=B5.frozen 11;have s5_0:=R5.cell' (u:=.int .i64 0) 0 rfl;have s5_1:=R5.cell' (u:=.string ⟨#[]⟩) 1 rfl;have s5_2:=R5.cell' (u:=.int .i64 0) 2 rfl;have s5_3:=R5.cell' (u:=.int .i64 0) 3 rfl;have s5_4:=R5.cell' (u:=.slice none 0 0) 4 rfl;have s5_5:=R5.cell' (u:=.slice none 0 0) 5 rfl;have s5_6:=R5.cell' (u:=.slice none 0 0) 6 rfl
 have s5_7:=R5.cell' (u:=.slice none 0 0) 7 rfl;have s5_8:=R5.cell' (u:=.int .i64 0) 8 rfl;have s5_9:=R5.cell' (u:=.int .i64 0) 9 rfl;have s5_10:=R5.cell' (u:=.string ⟨#[]⟩) 10 rfl;have s5_11:=R5.cell' (u:=.slice none 0 0) 11 rfl;have fr5_0:=R5.frozen 0;have fr5_1:=R5.frozen 1;have fr5_2:=R5.frozen 2;have fr5_3:=R5.frozen 3;have fr5_4:=R5.frozen 4;have fr5_5:=R5.frozen 5;have fr5_6:=R5.frozen 6;have fr5_7:=R5.frozen 7;have fr5_8:=R5.frozen 8;have fr5_9:=R5.frozen 9;have fr5_10:=R5.frozen 10;have fr5_11:=R5.frozen 11;have HP5:=aV4 hv5;have HX5:=aV4 hx5;have HR5:=aV4 R5;clear hv5 hx5 B5 R5;go_wp2_with fail;have hsz:=HC4.out.sz;have hcl:=(HR5.out.farCells (g':=w.heap.size) (by omega) [.int .i64 x.value.kind,.int .i64 x.value.n,.string x.value.s,.slice A5 x.value.kids.length c5] 8);have hfin:=aR [.int .i64 x.kind,.string x.name,.int .i64 x.lo,.int .i64 x.hi,.slice A1 x.weights.length c1,.slice A2 x.labels.length c2,.slice A3 x.values.length c3,.slice A4 x.kids.length c4,.int .i64 x.value.kind,.int .i64 x.value.n,.string x.value.s,.slice A5 x.value.kids.length c5] (cs:=[.int .i64 0,.string ⟨#[]⟩,.int .i64 0,.int .i64 0,.slice none 0 0,.slice none 0 0,.slice none 0 0,.slice none 0 0,.int .i64 0,.int .i64 0,.string ⟨#[]⟩,.slice none 0 0]) (g:=w.heap.size+1) (t:=87) 0 hcl (by simp)
 simp only [List.take_zero,List.nil_append,List.length_cons,List.length_nil,Nat.zero_add,List.drop_succ_cons,List.drop_nil,List.append_nil] at hfin
 have hk1:aD (fun b=>w.heap.size+2<=b) W4 ((v5.setCells w.heap.size 8 [.int .i64 x.value.kind,.int .i64 x.value.n,.string x.value.s,.slice A5 x.value.kids.length c5]).setCells (w.heap.size+1) 0 [.int .i64 x.kind,.string x.name,.int .i64 x.lo,.int .i64 x.hi,.slice A1 x.weights.length c1,.slice A2 x.labels.length c2,.slice A3 x.values.length c3,.slice A4 x.kids.length c4,.int .i64 x.value.kind,.int .i64 x.value.n,.string x.value.s,.slice A5 x.value.kids.length c5]) :=
  aD.setCells (by simp <;> omega) _ 0 (aD.setCells (by simp <;> omega) _ 8 (aD.of_ext HX5.out))
 have hk2:aD (fun b=>W4.heap.size<=b) v5 ((v5.setCells w.heap.size 8 [.int .i64 x.value.kind,.int .i64 x.value.n,.string x.value.s,.slice A5 x.value.kids.length c5]).setCells (w.heap.size+1) 0 [.int .i64 x.kind,.string x.name,.int .i64 x.lo,.int .i64 x.hi,.slice A1 x.weights.length c1,.slice A2 x.labels.length c2,.slice A3 x.values.length c3,.slice A4 x.kids.length c4,.int .i64 x.value.kind,.int .i64 x.value.n,.string x.value.s,.slice A5 x.value.kids.length c5]) :=
  aD.setCells (by simp <;> omega) _ 0 (aD.setCells (by simp <;> omega) _ 8 (fun _ _ _=>rfl))
 have hE:Ext w ((v5.setCells w.heap.size 8 [.int .i64 x.value.kind,.int .i64 x.value.n,.string x.value.s,.slice A5 x.value.kids.length c5]).setCells (w.heap.size+1) 0 [.int .i64 x.kind,.string x.name,.int .i64 x.lo,.int .i64 x.hi,.slice A1 x.weights.length c1,.slice A2 x.labels.length c2,.slice A3 x.values.length c3,.slice A4 x.kids.length c4,.int .i64 x.value.kind,.int .i64 x.value.n,.string x.value.s,.slice A5 x.value.kids.length c5]) :=
  (((Fr.of_ext (M:=fun _=>False) (HC4.out.ext.trans' HX5.out)).setCells _ 8 (.inr (Nat.le_refl _))).setCells _ 0 (.inr (by omega))).ext
 have g1:=HV1.out.carry (Q:=fun b=>w.heap.size<=b) hk1 (fun b _ h=>by omega);have g2:=HV2.out.carry (Q:=fun b=>w.heap.size<=b) hk1 (fun b _ h=>by omega);have g3:=HV3.out.carry (Q:=fun b=>w.heap.size<=b) hk1 (fun b _ h=>by omega);have g4:=HV4.out.carry (Q:=fun b=>w.heap.size<=b) hk1 (fun b _ h=>by omega);have g5:=HP5.out.carry (Q:=fun b=>w.heap.size<=b) hk2 (fun b _ h=>by omega);have z0:=hfin.cell' (u:=.int .i64 x.kind) 0 rfl;have z1:=hfin.cell' (u:=.string x.name) 1 rfl;have z2:=hfin.cell' (u:=.int .i64 x.lo) 2 rfl;have z3:=hfin.cell' (u:=.int .i64 x.hi) 3 rfl;have z4:=hfin.cell' (u:=.slice A1 x.weights.length c1) 4 rfl;have z5:=hfin.cell' (u:=.slice A2 x.labels.length c2) 5 rfl;have z6:=hfin.cell' (u:=.slice A3 x.values.length c3) 6 rfl;have z7:=hfin.cell' (u:=.slice A4 x.kids.length c4) 7 rfl;have z8:=hfin.cell' (u:=.int .i64 x.value.kind) 8 rfl;have z9:=hfin.cell' (u:=.int .i64 x.value.n) 9 rfl;have z10:=hfin.cell' (u:=.string x.value.s) 10 rfl;have z11:=hfin.cell' (u:=.slice A5 x.value.kids.length c5) 11 rfl;have hgen:((((((((((((((((v5.setCell ⟨w.heap.size,8,none⟩ (.int .i64 x.value.kind)).setCell ⟨w.heap.size,9,none⟩ (.int .i64 x.value.n)).setCell ⟨w.heap.size,10,none⟩ (.string x.value.s)).setCell ⟨w.heap.size,11,none⟩ (.slice A5 x.value.kids.length c5)).setCell ⟨w.heap.size+1,0,none⟩ (.int .i64 x.kind)).setCell ⟨w.heap.size+1,1,none⟩ (.string x.name)).setCell ⟨w.heap.size+1,2,none⟩ (.int .i64 x.lo)).setCell ⟨w.heap.size+1,3,none⟩ (.int .i64 x.hi)).setCell ⟨w.heap.size+1,4,none⟩ (.slice A1 x.weights.length c1)).setCell ⟨w.heap.size+1,5,none⟩ (.slice A2 x.labels.length c2)).setCell ⟨w.heap.size+1,6,none⟩ (.slice A3 x.values.length c3)).setCell ⟨w.heap.size+1,7,none⟩ (.slice A4 x.kids.length c4)).setCell ⟨w.heap.size+1,8,none⟩ (.int .i64 x.value.kind)).setCell ⟨w.heap.size+1,9,none⟩ (.int .i64 x.value.n)).setCell ⟨w.heap.size+1,10,none⟩ (.string x.value.s)).setCell ⟨w.heap.size+1,11,none⟩ (.slice A5 x.value.kids.length c5))=(v5.setCells w.heap.size 8 [.int .i64 x.value.kind,.int .i64 x.value.n,.string x.value.s,.slice A5 x.value.kids.length c5]).setCells (w.heap.size+1) 0 [.int .i64 x.kind,.string x.name,.int .i64 x.lo,.int .i64 x.hi,.slice A1 x.weights.length c1,.slice A2 x.labels.length c2,.slice A3 x.values.length c3,.slice A4 x.kids.length c4,.int .i64 x.value.kind,.int .i64 x.value.n,.string x.value.s,.slice A5 x.value.kids.length c5]:=rfl
 rw [hgen];clear hgen;generalize (v5.setCells w.heap.size 8 [.int .i64 x.value.kind,.int .i64 x.value.n,.string x.value.s,.slice A5 x.value.kids.length c5]).setCells (w.heap.size+1) 0 [.int .i64 x.kind,.string x.name,.int .i64 x.lo,.int .i64 x.hi,.slice A1 x.weights.length c1,.slice A2 x.labels.length c2,.slice A3 x.values.length c3,.slice A4 x.kids.length c4,.int .i64 x.value.kind,.int .i64 x.value.n,.string x.value.s,.slice A5 x.value.kids.length c5]=WF at *;exact bodyPost_ret (v:=hH x ⟨A1,c1,A2,c2,A3,c3,A4,c4,A5,c5⟩) (by simp [results,Tryz.results95,go_sem,z0,z1,z2,z3,z4,z5,z6,z7,z8,z9,z10,z11]) rfl ⟨⟨A1,c1,A2,c2,A3,c3,A4,c4,A5,c5⟩,rfl,⟨HX.out.kind,HX.out.name,HX.out.lo,HX.out.hi,g1,g2,g3,g4,g5⟩,hE⟩
def aSj (l:List GN)(w:World)(e:Ending)(w':World):Prop:=∃ A c,e=.returned (.slice A l.length c)∧Nds w' (fun b=>w.heap.size<=b) (.slice A l.length c) l∧Ext w w'
theorem Tryz.info87:(Tryz.prog.info? 87).map (fun i=>(i.zero,i.size,i.bytes))=some (some (.agg #[.int .i64 0,.string ⟨#[]⟩,.int .i64 0,.int .i64 0,.slice none 0 0,.slice none 0 0,.slice none 0 0,.slice none 0 0,.int .i64 0,.int .i64 0,.string ⟨#[]⟩,.slice none 0 0]),12,192):=by kernel_rfl
def dL (x:GN):Prop:=x.weights.length<=1000000∧x.labels.length<=1000000∧x.values.length<=1000000∧x.kids.length<=1000000∧gsz x.value<=1000000∧∀ v ∈ x.values,gsz v<=1000000
theorem rG (l:List GN)(hF:∀ x ∈ l,dL x)(P:Nat->Prop)(v:Value)(w:World)(hP:∀ b,P b->b<w.heap.size)(hl:Nds w P v l)(hlen:l.length<=1000000):Calls Tryz.prog 94 #[v,.func (.func 95) #[] #[]] w (aSj l w):=by
 have HF:=aV4 hF;have HV:=aV4 hl;have HP:=aV4 hP;obtain ⟨A,c,e,h1,h2⟩:=hl.form;subst e;clear hl hF hP
 by_cases h0:l.length=0
 ·have t0:((l.length:Int) == 0)=true:=aV6 (by omega)
  have hnil:l=[]:=List.eq_nil_of_length_eq_zero h0;subst hnil;clear h0;go_enter Tryz.func94,Tryz.ntmps94;go_wp2_with fail;go_ret;exact ⟨none,0,rfl,⟨none,0,[],rfl,Nat.le_refl _,by simp,⟨rfl,fun h=>by simp at h⟩,by simp [RL]⟩,Ext.refl _⟩
 ·have t0:((l.length:Int) == 0)=false:=aV5 (by omega)
  clear h0;obtain ⟨i0,hi,hz0,hz1,hz2⟩:=info_parts Tryz.info87
  have hmk:∀ W:World,(Instr.makeSlice 23 (.int .i64 (l.length:Int)) (.int .i64 (l.length:Int))).run Tryz.prog W=.ok (.slice (some ⟨W.heap.size,0,none⟩) l.length l.length) (W.alloc (.cells (madeCells #[.int .i64 0,.string ⟨#[]⟩,.int .i64 0,.int .i64 0,.slice none 0 0,.slice none 0 0,.slice none 0 0,.slice none 0 0,.int .i64 0,.int .i64 0,.string ⟨#[]⟩,.slice none 0 0] (l.length*12)) 87)):=by
   intro W;have h:=run_make (P:=Tryz.prog) W 23 87 i0 _ Tryz.underlying23 hi hz0 .i64 .i64 (l.length:Int) (l.length:Int) (by omega) (Int.le_refl _) (by rw [hz2];omega) (by omega);rw [hz1] at h;rw [h]
   rfl
  have hsz:=size_madeCells #[.int .i64 0,.string ⟨#[]⟩,.int .i64 0,.int .i64 0,.slice none 0 0,.slice none 0 0,.slice none 0 0,.slice none 0 0,.int .i64 0,.int .i64 0,.string ⟨#[]⟩,.slice none 0 0] (l.length*12);generalize madeCells #[.int .i64 0,.string ⟨#[]⟩,.int .i64 0,.int .i64 0,.slice none 0 0,.slice none 0 0,.slice none 0 0,.slice none 0 0,.int .i64 0,.int .i64 0,.string ⟨#[]⟩,.slice none 0 0] (l.length*12)=mc at *;have HSZ:=aV4 hsz;clear hsz hi hz0 hz1 hz2 i0;go_enter Tryz.func94,Tryz.ntmps94;go_wp2_with fail;go_loopw [15] (fun i wr=>aFs 12 RN l w.heap.size 87 w i wr) (fun i _=>l.length - (intOf i).toNat)
  case atStart=>exact uO mc HSZ.out
  case round =>
   obtain ⟨k,cs,hk,rfl,hB,hcl,hR,hx⟩:=hrel;have HB:=aV4 hB;have HCL:=aV4 hcl;have HR:=aV4 hR;have HX:=aV4 hx;clear hB hcl hR hx
   by_cases hlt:k<l.length
   ·obtain ⟨b1,o1,a1,rfl,-,hv1,hn1⟩:=(HV.out.ext HX.out).get hlt
    have hsm:=HF.out _ (aG (d:=default) hlt);obtain ⟨x,hgx⟩:∃ x,x=l.getD k default:=⟨_,rfl⟩;have HG:=aV4 hgx;rw [<- hgx] at hv1 hn1 hsm;have HCX:=aV4 (uN x a1 P wr (fun b hb=>Nat.lt_of_lt_of_le (HP.out b hb) HX.out.size) hv1 hsm.1 hsm.2.1 hsm.2.2.1 hsm.2.2.2.1 hsm.2.2.2.2.1 hsm.2.2.2.2.2);have hkk:(k:Int)<(l.length:Int):=by omega
    have n0:=hn1.c0;have n1:=hn1.c1;have n2:=hn1.c2;have n3:=hn1.c3;have n4:=hn1.c4;have n5:=hn1.c5;have n6:=hn1.c6;have n7:=hn1.c7;have n8:=hn1.c8;have n9:=hn1.c9;have n10:=hn1.c10;have n11:=hn1.c11;clear hv1 hgx hn1 hsm;go_wp2_with fail;refine (HCX.out).mono ?_;rintro e w1 ⟨a2,rfl,hv2,hx2⟩;have hBB:=HB.out.ext hx2;have hcl:=HCL.out;obtain ⟨y0,q0⟩:=hBB.some_ (i:=k*12) (by omega);obtain ⟨y1,q1⟩:=hBB.some_ (i:=k*12+1) (by omega);obtain ⟨y2,q2⟩:=hBB.some_ (i:=k*12+2) (by omega);obtain ⟨y3,q3⟩:=hBB.some_ (i:=k*12+3) (by omega);obtain ⟨y4,q4⟩:=hBB.some_ (i:=k*12+4) (by omega);obtain ⟨y5,q5⟩:=hBB.some_ (i:=k*12+5) (by omega);obtain ⟨y6,q6⟩:=hBB.some_ (i:=k*12+6) (by omega);obtain ⟨y7,q7⟩:=hBB.some_ (i:=k*12+7) (by omega);obtain ⟨y8,q8⟩:=hBB.some_ (i:=k*12+8) (by omega);obtain ⟨y9,q9⟩:=hBB.some_ (i:=k*12+9) (by omega);obtain ⟨y10,q10⟩:=hBB.some_ (i:=k*12+10) (by omega);obtain ⟨y11,q11⟩:=hBB.some_ (i:=k*12+11) (by omega);have f0:=hBB.frozen (k*12);have f1:=hBB.frozen (k*12+1);have f2:=hBB.frozen (k*12+2);have f3:=hBB.frozen (k*12+3);have f4:=hBB.frozen (k*12+4);have f5:=hBB.frozen (k*12+5);have f6:=hBB.frozen (k*12+6);have f7:=hBB.frozen (k*12+7);have f8:=hBB.frozen (k*12+8);have f9:=hBB.frozen (k*12+9)
    have f10:=hBB.frozen (k*12+10);have f11:=hBB.frozen (k*12+11);have HV2:=aV4 hv2;have HX2:=aV4 hx2;clear hv2 hx2 hBB hcl n0 n1 n2 n3 n4 n5 n6 n7 n8 n9 n10 n11;go_wp2_with fail;go_roundw
    case rel =>
     have:=HG.out;subst this;exact yN (w1:=w1) qC default (Nat.le_refl _) hlt HB.out HCL.out HR.out HX.out HX2.out (us:=aE _ a2) ⟨a2,rfl,HV2.out⟩
    case measure=>simp [intOf];omega
   ·obtain rfl:k=l.length:=by omega
    go_wp2_with fail;go_ret;exact ⟨_,_,rfl,aE3 qC (Nat.le_refl _) (by omega) HB.out HCL.out HR.out,HX.out⟩
theorem uM (l:List GN)(hF:∀ x ∈ l,dL x)(P:Nat->Prop)(v:Value)(w:World)(hP:∀ b,P b->b<w.heap.size)(hl:Nds w P v l)(hlen:l.length<=1000000):Calls Tryz.prog 43 #[.agg #[v]] w fun e w'=>∃ A c,e=.returned (.agg #[.slice A l.length c])∧Nds w' (fun b=>w.heap.size<=b) (.slice A l.length c) l∧Ext w w':=by
 have HC:=aV4 (fun (W:World) (hx:Ext w W)=>rG l hF P v W (fun b hb=>Nat.lt_of_lt_of_le (hP b hb) hx.size) (hl.ext hx) hlen);obtain ⟨A,c,e,h1,h2⟩:=hl.form;subst e;clear hl hF hP;go_enter Tryz.func43,Tryz.ntmps43;go_wp2_with fail;have hE:=((Ext.refl w).alloc' (.cells #[.slice A l.length c] 25)).alloc' (.cells #[.slice none 0 0] 25);have hR:=Blk.new' (w.alloc (.cells #[.slice A l.length c] 25)) 25 #[.slice none 0 0] (g:=w.heap.size+1) (by simp);have hsz:w.heap.size+2<=((w.alloc (.cells #[.slice A l.length c] 25)).alloc (.cells #[.slice none 0 0] 25)).heap.size:=by simp
 have HE:=aV4 hE;have HR:=aV4 hR;have HSZ:=aV4 hsz;clear hE hR hsz;generalize (w.alloc (.cells #[.slice A l.length c] 25)).alloc (.cells #[.slice none 0 0] 25)=W at *;refine (HC.out W HE.out).mono ?_;rintro e w1 ⟨A1,c1,rfl,hv1,hx1⟩;have R1:=HR.out.ext hx1;have r0:=R1.cell' (u:=.slice none 0 0) 0 rfl;have f0:=R1.frozen 0;have HR1:=aV4 R1;have HV1:=aV4 hv1;have HX1:=aV4 hx1;clear R1 hv1 hx1;go_wp2_with fail;have z0:=(HR1.out.set_ 0 (.slice A1 l.length c1)).cell' (u:=.slice A1 l.length c1) 0 rfl;have hN:Nds (w1.setCell ⟨w.heap.size+1,0,none⟩ (.slice A1 l.length c1)) (fun b=>w.heap.size<=b) (.slice A1 l.length c1) l:=HV1.out.carry (aD.set (fun _ _ _=>rfl) _ (by have:=HSZ.out;simp;omega)) (fun b _ h=>by have:=HSZ.out;omega);have hX:Ext w (w1.setCell ⟨w.heap.size+1,0,none⟩ (.slice A1 l.length c1)):=((Fr.of_ext (M:=fun _=>False) (HE.out.trans' HX1.out)).setCell (p:=⟨w.heap.size+1,0,none⟩) (.inr (by simp)) _).ext;generalize w1.setCell ⟨w.heap.size+1,0,none⟩ (.slice A1 l.length c1)=WF at *;exact bodyPost_ret (v:=.agg #[.slice A1 l.length c1]) (by simp [results,Tryz.results43,go_sem,z0]) rfl ⟨A1,c1,rfl,hN,hX⟩
end Go.Proofs.YtkoeecdjijfjnaaGreat
