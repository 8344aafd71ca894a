/- Contracts of functions. Conditions: none. -/
import Derived.Laws.IdiomCopy
import Derived.Test.YtkoeecdjijfjnaaGreatE5
set_option maxRecDepth 100000
set_option maxHeartbeats 8000000
namespace Go.Proofs.YtkoeecdjijfjnaaGreat
open Go.RowKit
theorem aJ {g:Nat}{t:TypeId}:∀ (us:List Value){w:World}{cs:List Value}(o:Nat),Blk w g t cs.toArray->o+us.length<=cs.length->Blk (w.setCells g o us) g t (cs.take o ++ us ++ cs.drop (o+us.length)).toArray
 | [],w,cs,o,h,_=>by simp only [World.setCells,List.append_nil,List.length_nil,Nat.add_zero,List.take_append_drop];exact h
 | u :: us,w,cs,o,h,ho=>by
  simp only [List.length_cons] at ho;have h1:=h.set_ o u;simp only [List.setIfInBounds_toArray] at h1;have h2:=aJ us (o+1) h1 ab
  have e:(cs.set o u).take (o+1) ++ us ++ (cs.set o u).drop (o+1+us.length)=cs.take o ++ u :: us ++ cs.drop (o+(us.length+1)):=by
   rw [List.drop_set_of_lt U,List.take_succ_eq_append_getElem ab];simp only [List.getElem_set_self,List.append_assoc,List.cons_append,List.nil_append];rw [List.take_set_of_le U];simp [Nat.add_comm,Nat.add_left_comm]
  rw [e] at h2;exact h2
theorem aB.setCells {Q:Nat->Prop}{g:Nat}(hg:¬ Q g):∀ (us:List Value){w w':World}(o:Nat),aB Q w w'->aB Q w (w'.setCells g o us)
 | [],_,_,_,h=>h
 | u :: us,w,_,o,h=>aB.setCells hg us (o+1) (h.set (p:=⟨g,o,none⟩) u hg)
theorem Fr.setCells {M:Nat->Prop}{g:Nat}:∀ (us:List Value){w w':World}(o:Nat),Fr M w w'->(M g∨w.heap.size<=g)->Fr M w (w'.setCells g o us)
 | [],_,_,_,h,_=>h
 | u :: us,w,_,o,h,hg=>Fr.setCells us (o+1) (h.setCell (p:=⟨g,o,none⟩) hg u) hg
theorem Blk.farCells {g g':Nat}{t:TypeId}{cs:Array Value}(hne:g ≠ g'):∀ (us:List Value){w:World}(o:Nat),Blk w g t cs->Blk (w.setCells g' o us) g t cs
 | [],_,_,h=>h
 | u :: us,w,o,h=>Blk.farCells hne us (o+1) (h.far (p:=⟨g',o,none⟩) hne u)
theorem Blk.some_ {w:World}{g:Nat}{t:TypeId}{cs:List Value}(h:Blk w g t cs.toArray){i:Nat}(hi:i<cs.length):∃ y,w.cell? ⟨g,i,none⟩=some y:=⟨cs[i],h.cell' i (by simp [hi])⟩
structure aMm {α:Type}(size:Nat)(R:World->(Nat->Prop)->α->List Value->Prop):Prop where
 len:∀ w P x cs,R w P x cs->cs.length=size
 carry:∀ w w' P Q x cs,R w P x cs->aB P w w'->(∀ b,b<w.heap.size->P b->Q b)->R w' Q x cs
def aF2 {α:Type}(size:Nat)(R:World->(Nat->Prop)->α->List Value->Prop)(l:List α)(g:Nat)(ty:TypeId)(W0:World)(i:Value)(wr:World):Prop :=
 ∃ (k:Nat) (cs:List Value),k<=l.length∧i=↑k∧Blk wr g ty cs.toArray∧cs.length=l.length*size∧RL (R wr (fun b=>W0.heap.size<=b∧b ≠ g)) (l.take k) (cs.take (k*size))∧Ext W0 wr
section
variable {α:Type}{size:Nat}{R:World->(Nat->Prop)->α->List Value->Prop}
theorem RL.move {w w':World}{P Q:Nat->Prop}(hE:aMm size R){l:List α}{cs:List Value}(h:RL (R w P) l cs)(hk:aB P w w')(hPQ:∀ b,b<w.heap.size->P b->Q b):RL (R w' Q) l cs :=
 h.mono (fun x _ cs hx=>hE.carry w w' P Q x cs hx hk hPQ)
theorem uK {l:List α}{ty:TypeId}{W0:World}(cs:Array Value)(hcs:cs.size=l.length*size):aF2 size R l W0.heap.size ty W0 (.int .i64 0) (W0.alloc (.cells cs ty)) :=
 ⟨0,cs.toList,Nat.zero_le _,rfl,by simpa using Blk.new W0 ty cs,by simpa using hcs,ey,(Ext.refl _).alloc' _⟩
theorem zJ (hE:aMm size R){l:List α}{g:Nat}{ty:TypeId}{W0 wr w1:World}{k:Nat}{cs us:List Value}(d:α)(hg:W0.heap.size<=g)(hk:k<l.length)(hB:Blk wr g ty cs.toArray)(hl:cs.length=l.length*size)
  (hR:RL (R wr (fun b=>W0.heap.size<=b∧b ≠ g)) (l.take k) (cs.take (k*size)))(hx:Ext W0 wr)(h1:Ext wr w1)(hu:R w1 (fun b=>wr.heap.size<=b) (l.getD k d) us) :
  aF2 size R l g ty W0 (.int .i64 ((k:Int)+1)) (w1.setCells g (k*size) us):=by
 have hus:=hE.len _ _ _ _ hu;have hkl:k*size+size<=l.length*size:=by rw [<- Nat.succ_mul];exact Nat.mul_le_mul_right _ hk
 have hB1:=aJ us (k*size) (hB.ext h1) U;have hgl:=hB.lt;refine ⟨k+1,_,U,Y,hB1,?_,?_,?_⟩
 ·simp only [List.length_append,List.length_take,List.length_drop];omega
 ·have e:(cs.take (k*size) ++ us ++ cs.drop (k*size+us.length)).take ((k+1)*size)=cs.take (k*size) ++ us:=by
   rw [List.take_append_of_le_length ee,List.take_of_length_le ee]
  rw [e,aX d hk];have hg2:¬ (fun b=>W0.heap.size<=b∧b ≠ g) g:=fun h=>h.2 rfl
  refine RL.append ?_ (RL.one ?_)
  ·refine hR.move hE (aB.setCells hg2 us (k*size) (aB.of_ext h1)) (fun _ _ h=>h)
  ·have hk0:aB (fun b=>wr.heap.size<=b) w1 w1:=fun _ _ _=>rfl
   exact hE.carry _ _ _ _ _ _ hu (aB.setCells ab us (k*size) hk0) (fun b _ h=>⟨U,U⟩)
 ·exact ((Fr.of_ext (M:=fun _=>False) (hx.trans' h1)).setCells us (k*size) (.inr hg)).ext
theorem aE9 (hE:aMm size R){l:List α}{g:Nat}{ty:TypeId}{W0 wr:World}{cs:List Value}(hg:W0.heap.size<=g)(hln:l.length<=17592186044416)(hB:Blk wr g ty cs.toArray)(hl:cs.length=l.length*size)
  (hR:RL (R wr (fun b=>W0.heap.size<=b∧b ≠ g)) (l.take l.length) (cs.take (l.length*size))):Lst wr (fun b=>W0.heap.size<=b) size (R wr (fun b=>W0.heap.size<=b)) (.slice (some ⟨g,0,none⟩) l.length l.length) l:=by
 rw [List.take_length,List.take_of_length_le U] at hR;exact ⟨_,_,cs,rfl,Nat.le_refl _,⟨hln,U⟩,⟨hl,fun _=>⟨g,0,rfl,hg,fun j u hu=>by rw [Nat.zero_add];exact hB.cell' j fq⟩⟩,hR.move hE (fun _ _ _=>rfl) (fun _ _ h=>h.1)⟩
end
theorem aPz:aMm 4 RV:=⟨fun _ _ _ _ h=>h.len,fun _ _ _ _ _ _ h hk hPQ=>RV.carry hk hPQ h⟩
theorem zF:aMm 12 RN:=⟨fun _ _ _ _ h=>RN.len _ _ h,fun _ _ _ _ _ _ h hk hPQ=>h.carry hk hPQ⟩
def aTt (x:GV)(w:World)(e:Ending)(w':World):Prop:=∃ A c,e=.returned (eF x A c)∧VAt w' (fun b=>w.heap.size<=b) x A c∧Ext w w'
def sI (x:GV):Prop:=∀ (A:Option Addr)(c:Nat)(P:Nat->Prop)(w:World),VAt w P x A c->Calls Tryz.prog 143 #[eF x A c] w (aTt x w)
def aQx (l:List GV)(w:World)(e:Ending)(w':World):Prop:=∃ A c,e=.returned (.slice A l.length c)∧bV w' (fun b=>w.heap.size<=b) (.slice A l.length c) l∧Ext w w'
theorem mE (l:List GV)(hF:∀ x ∈ l,sI x)(P:Nat->Prop)(v:Value)(w:World)(hl:bV w P v l)(hlen:l.length<=1000000000):Calls Tryz.prog 182 #[v,.func (.func 143) #[] #[]] w (aQx l w):=by
 have HF:=aYl hF;have HV:=aYl hl;obtain ⟨A,c,e,h1,h2⟩:=hl.form;subst e;clear hl hF
 by_cases h0:l.length=0
 ·have t0:((l.length:Int) == 0)=true:=aYn U
  have hnil:l=[]:=List.eq_nil_of_length_eq_zero h0;subst hnil;clear h0;go_enter Tryz.func182,Tryz.ntmps182;go_wp2_with fail;go_ret;exact ⟨none,0,rfl,⟨none,0,[],rfl,Nat.le_refl _,Y,⟨rfl,fun h=>by simp at h⟩,by simp [RVs]⟩,Ext.refl _⟩
 ·have t0:((l.length:Int) == 0)=false:=aYm U
  clear h0;obtain ⟨i0,hi,hz0,hz1,hz2⟩:=info_parts Tryz.info85
  have hmk:∀ W:World,(Instr.makeSlice 83 (.int .i64 (l.length:Int)) (.int .i64 (l.length:Int))).run Tryz.prog W=.ok (.slice (some ⟨W.heap.size,0,none⟩) l.length l.length) (W.alloc (.cells (madeCells #[.int .i64 0,.int .i64 0,.string ByteArray.empty,.slice none 0 0] (l.length*4)) 85)):=by
   intro W;have h:=run_make (P:=Tryz.prog) W 83 85 i0 _ Tryz.underlying83 hi hz0 .i64 .i64 (l.length:Int) (l.length:Int) U (Int.le_refl _) cu U;rw [hz1] at h;rw [h]
   rfl
  have hsz:=size_madeCells #[.int .i64 0,.int .i64 0,.string ByteArray.empty,.slice none 0 0] (l.length*4);generalize madeCells #[.int .i64 0,.int .i64 0,.string ByteArray.empty,.slice none 0 0] (l.length*4)=mc at *;have HSZ:=aYl hsz;clear hsz hi hz0 hz1 hz2 i0;go_enter Tryz.func182,Tryz.ntmps182;go_wp2_with fail;go_loopw [15] (fun i wr=>aF2 4 RV l w.heap.size 85 w i wr) (fun i _=>l.length - (intOf i).toNat)
  case atStart=>exact uK mc HSZ.out
  case round =>
   obtain ⟨k,cs,hk,rfl,hB,hcl,hR,hx⟩:=hrel;have HB:=aYl hB;have HCL:=aYl hcl;have HR:=aYl hR;have HX:=aYl hx;clear hB hcl hR hx
   by_cases hlt:k<l.length
   ·obtain ⟨b1,o1,A1,d1,rfl,-,hv1,g10,g11,g12,g13⟩:=(HV.out.ext HX.out).get hlt
    have HCX:=aYl (HF.out _ (aF (d:=default) hlt) A1 d1 P wr hv1);have HGX:=aYl (show ∃ x,x=l.getD k default from ⟨_,rfl⟩);obtain ⟨x,hgx⟩:=HGX.out;have HG:=aYl hgx;rw [<- hgx] at HCX g10 g11 g12 g13;have hkk:(k:Int)<(l.length:Int):=by omega
    clear hv1 HGX hgx;go_wp2_with fail;refine (HCX.out).mono ?_;rintro e w1 ⟨A2,d2,rfl,hv2,hx2⟩;have hBB:=HB.out.ext hx2;have hcl:=HCL.out;obtain ⟨y0,q0⟩:=hBB.some_ (i:=k*4) U;obtain ⟨y1,q1⟩:=hBB.some_ (i:=k*4+1) U;obtain ⟨y2,q2⟩:=hBB.some_ (i:=k*4+2) U;obtain ⟨y3,q3⟩:=hBB.some_ (i:=k*4+3) U;have f0:=hBB.frozen (k*4);have f1:=hBB.frozen (k*4+1);have f2:=hBB.frozen (k*4+2);have f3:=hBB.frozen (k*4+3);have HV2:=aYl hv2;have HX2:=aYl hx2;clear hv2 hx2 hBB hcl;go_wp2_with fail;go_roundw
    case rel =>
     have:=HG.out;subst this;exact zJ (w1:=w1) aPz default (Nat.le_refl _) hlt HB.out HCL.out HR.out HX.out HX2.out (us:=cellsOf _ A2 d2) HV2.out.rv
    case measure=>simp [intOf];omega
   ·obtain rfl:k=l.length:=by omega
    go_wp2_with fail;go_ret;exact ⟨_,_,rfl,aBg.2 (aE9 aPz (Nat.le_refl _) U HB.out HCL.out HR.out),HX.out⟩
theorem aAt:∀ (l:List GV),l.length<=kH l
 | []=>by simp [kH]
 | x :: xs=>by
  have:=aAt xs;obtain ⟨k,n,s,l⟩:=x;simp only [kH,gsz,List.length_cons];omega
theorem aPx (x:GV):gsz x=1+kH x.kids:=by obtain ⟨k,n,s,l⟩:=x;simp only [gsz,GV.kids]
theorem aS {w:World}{g:Nat}{t:TypeId}{u0 u1 u2 u3:Value}(h:Blk w g t #[u0,u1,u2,u3]):w.cell? ⟨g,0,none⟩=some u0∧w.cell? ⟨g,1,none⟩=some u1∧w.cell? ⟨g,2,none⟩=some u2∧w.cell? ⟨g,3,none⟩=some u3:=⟨h.cell' 0 rfl,h.cell' 1 rfl,h.cell' 2 rfl,h.cell' 3 rfl⟩
theorem zI (N:Nat)(ih:∀ x,gsz x<N->gsz x<=1000000->sI x)(x:GV)(hN:gsz x<N+1)(hs:gsz x<=1000000):sI x:=by
 intro A c P w hx;have hkl:x.kids.length<=1000000:=by have:=aAt x.kids;have:=aPx x;omega
 have HK:=aYl (show ∀ y ∈ x.kids,sI y from fun y hy=>ih y (by have:=gX hy;omega) (by have:=gX hy;omega));have HX:=aYl hx;clear hx ih hs hN;go_enter Tryz.func143,Tryz.ntmps143;go_wp2_with fail;have HE:=aYl (show Ext w ((w.alloc (.cells #[↑x.kind,↑x.n,.string x.s,.slice A x.kids.length c] 85)).alloc (.cells #[.int .i64 0,.int .i64 0,.string ⟨#[]⟩,.slice none 0 0] 85)) from ((Ext.refl w).alloc' _).alloc' _);have HB:=aYl ((Blk.new w 85 #[↑x.kind,↑x.n,.string x.s,.slice A x.kids.length c]).alloc (.cells #[.int .i64 0,.int .i64 0,.string ⟨#[]⟩,.slice none 0 0] 85));have HR:=aYl (Blk.new' (w.alloc (.cells #[↑x.kind,↑x.n,.string x.s,.slice A x.kids.length c] 85)) 85 #[.int .i64 0,.int .i64 0,.string ⟨#[]⟩,.slice none 0 0] (g:=w.heap.size+1) Y);generalize hW:(w.alloc (.cells #[↑x.kind,↑x.n,.string x.s,.slice A x.kids.length c] 85)).alloc (.cells #[.int .i64 0,.int .i64 0,.string ⟨#[]⟩,.slice none 0 0] 85)=W at *;clear hW;refine (mE x.kids HK.out P _ W (HX.out.kids.ext HE.out) U).mono ?_;rintro e w1 ⟨A1,c1,rfl,hv1,hx1⟩;have B1:=HB.out.ext hx1;have R1:=HR.out.ext hx1;obtain ⟨b0,b1,b2,b3⟩:=aS B1;obtain ⟨r0,r1,r2,r3⟩:=aS R1
 have fb:=B1.frozen 3;have f0:=R1.frozen 0;have f1:=R1.frozen 1;have f2:=R1.frozen 2;have f3:=R1.frozen 3;have HR1:=aYl R1;have HX1:=aYl hx1;have HV1:=aYl hv1;clear hx1 hv1 B1 R1;go_wp2_with fail;have hfin:=aJ [.int .i64 x.kind,.int .i64 x.n,.string x.s,.slice A1 x.kids.length c1] (w:=w1.setCell ⟨w.heap.size,3,none⟩ (.slice A1 x.kids.length c1)) (cs:=[.int .i64 0,.int .i64 0,.string ⟨#[]⟩,.slice none 0 0]) (g:=w.heap.size+1) (t:=85) 0 (HR1.out.far (p:=⟨w.heap.size,3,none⟩) Y _) Y
 have hfr:Ext w ((w1.setCell ⟨w.heap.size,3,none⟩ (.slice A1 x.kids.length c1)).setCells (w.heap.size+1) 0 [.int .i64 x.kind,.int .i64 x.n,.string x.s,.slice A1 x.kids.length c1]) :=
  ((((Fr.of_ext (M:=fun _=>False) (HE.out.trans' HX1.out)).setCell (p:=⟨w.heap.size,3,none⟩) (.inr (Nat.le_refl _)) _).setCells _ 0 (.inr U))).ext
 have hwg:=HB.out.lt;have hwr:=HR.out.lt
 have hkv:bV ((w1.setCell ⟨w.heap.size,3,none⟩ (.slice A1 x.kids.length c1)).setCells (w.heap.size+1) 0 [.int .i64 x.kind,.int .i64 x.n,.string x.s,.slice A1 x.kids.length c1]) (fun b=>w.heap.size<=b) (.slice A1 x.kids.length c1) x.kids:=by
  have hk0:aB (fun b=>W.heap.size<=b) w1 w1:=fun _ _ _=>rfl
  exact HV1.out.carry (aB.setCells ab _ 0 (hk0.set (p:=⟨w.heap.size,3,none⟩) _ ab)) (fun b _ h=>by omega)
 simp only [List.take_zero,List.nil_append,List.length_cons,List.length_nil,Nat.zero_add,List.drop_succ_cons,List.drop_nil,List.append_nil] at hfin;obtain ⟨z0,z1,z2,z3⟩:=aS hfin;have hgen:((((w1.setCell ⟨w.heap.size,3,none⟩ (.slice A1 x.kids.length c1)).setCell ⟨w.heap.size+1,0,none⟩ (↑x.kind)).setCell ⟨w.heap.size+1,1,none⟩ (↑x.n)).setCell ⟨w.heap.size+1,2,none⟩ (.string x.s)).setCell ⟨w.heap.size+1,3,none⟩ (.slice A1 x.kids.length c1)=(w1.setCell ⟨w.heap.size,3,none⟩ (.slice A1 x.kids.length c1)).setCells (w.heap.size+1) 0 [.int .i64 x.kind,.int .i64 x.n,.string x.s,.slice A1 x.kids.length c1]:=rfl;rw [hgen];generalize (w1.setCell ⟨w.heap.size,3,none⟩ (.slice A1 x.kids.length c1)).setCells (w.heap.size+1) 0 [.int .i64 x.kind,.int .i64 x.n,.string x.s,.slice A1 x.kids.length c1]=W2 at *;exact bodyPost_ret (v:=eF x A1 c1) (by simp [results,Tryz.results143,go_sem,z0,z1,z2,z3]) rfl ⟨A1,c1,rfl,⟨HX.out.kind,HX.out.n,HX.out.s,hkv.le.1,hkv.le.2,hkv⟩,hfr⟩
theorem aCp (N:Nat):∀ x,gsz x<N->gsz x<=1000000->sI x:=by
 induction N with
 | zero=>intro x h;omega
 | succ N ih=>exact fun x h hs=>zI N ih x h hs
theorem sA (x:GV)(hs:gsz x<=1000000):sI x:=aCp (gsz x+1) x U hs
theorem uH (l:List GV)(hs:∀ x ∈ l,gsz x<=1000000)(P:Nat->Prop)(v:Value)(w:World)(hl:bV w P v l)(hlen:l.length<=1000000000):Calls Tryz.prog 142 #[v] w (aQx l w):=by
 have HC:=aYl (mE l (fun x hx=>sA x (hs x hx)) P v w hl hlen);obtain ⟨A,c,e,h1,h2⟩:=hl.form;subst e;clear hl hs;go_enter Tryz.func142,Tryz.ntmps142;go_wp2_with fail;refine HC.out.mono ?_;rintro e w1 ⟨A1,c1,rfl,hv1,hx1⟩;have HV:=aYl hv1;have HX:=aYl hx1;clear hv1 hx1;go_wp2_with fail;go_ret;exact ⟨A1,c1,rfl,HV.out,HX.out⟩
def aTw (l:List Int)(w:World)(e:Ending)(w':World):Prop:=∃ A c,e=.returned (.slice A l.length c)∧aU w' (fun b=>w.heap.size<=b) (.slice A l.length c) l∧Ext w w'
def aTu (l:List ByteArray)(w:World)(e:Ending)(w':World):Prop:=∃ A c,e=.returned (.slice A l.length c)∧uP w' (fun b=>w.heap.size<=b) (.slice A l.length c) l∧Ext w w'
end Go.Proofs.YtkoeecdjijfjnaaGreat
