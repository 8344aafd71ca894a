/- Contracts and laws. Conditions: none. -/
import Derived.Test.YtkoeecdjijfjnaaGreatDoorE5
set_option linter.all false
set_option maxRecDepth 100000
set_option maxHeartbeats 8000000
namespace Go.Proofs.YtkoeecdjijfjnaaGreatDoor
open Go.RowKit
theorem yq:∀ (l:List GV),l<=jQ l
 | []=>by simp [jQ]
 | x :: xs=>by
  have:=yq xs;obtain ⟨k,n,s,l⟩:=x;simp only [jQ,gsz,ai];omega
theorem Jw (x:GV):gsz x=1+jQ x.kids:=by obtain ⟨k,n,s,l⟩:=x;simp only [gsz,GV.kids]
theorem aU {w:World}{g:Nat}{t:TypeId}{u0 u1 u2 u3:Value}(h:Blk w g t #[u0,u1,u2,u3]):qc w g 0 u0∧qc w g 1 u1∧qc w g 2 u2∧qc w g 3 u3:=⟨h.cell' 0 rfl,h.cell' 1 rfl,h.cell' 2 rfl,h.cell' 3 rfl⟩
theorem Mg (N:Nat)(ih:∀ x,gsz x<N->gsz x<=1000000000->uD x)(x:GV)(hN:gsz x<N+1)(hs:gsz x<=1000000000):uD x:=by
 intro A c P w hx;have hkl:x.kids.length<=1000000000:=by have:=yq x.kids;have:=Jw x;omega
 have HK:=aYf (show ∀ y ∈ x.kids,uD y from fun y hy=>ih y (by have:=iL hy;omega) (by have:=iL hy;omega));have HX:=aYf hx;clear hx ih hs hN;go_enter Tryz.func108,Tryz.ntmps108;go_wp2_with fail;have HE:=aYf (show Ext w ((w.alloc (qk (qh x A c) 58)).alloc (qk #[qz,qz,qe,qn] 58)) from ((aq w).alloc' _).alloc' _);have HB:=aYf ((aw w 58 (qh x A c)).alloc (qk #[qz,qz,qe,qn] 58));have HR:=aYf (az (w.alloc (qk (qh x A c) 58)) 58 #[qz,qz,qe,qn] (g:=w.heap.size+1) U);generalize hW:(w.alloc (qk (qh x A c) 58)).alloc (qk #[qz,qz,qe,qn] 58)=W at *;clear hW;refine (mT x.kids HK.out P _ W (HX.out.kids.ext HE.out) I).mono ?_;rintro e w1 ⟨A1,c1,rfl,hv1,hx1⟩;have B1:=HB.out.ext hx1;have R1:=HR.out.ext hx1;obtain ⟨b0,b1,b2,b3⟩:=aU B1;obtain ⟨r0,r1,r2,r3⟩:=aU R1;have fb:=B1.frozen 3;have f0:=R1.frozen 0;have f1:=R1.frozen 1;have f2:=R1.frozen 2;have f3:=R1.frozen 3;have HR1:=aYf R1;have HX1:=aYf hx1;have HV1:=aYf hv1;clear hx1 hv1 B1 R1;go_wp2_with fail;have hfin:=aF (qh x A1 c1) (w:=w1.setCell (qt w 3) (.slice A1 x.kids c1)) (cs:=[qz,qz,qe,qn]) (g:=w.heap.size+1) (t:=58) 0 (HR1.out.far (p:=qt w 3) U _) U
 have hfr:Ext w ((w1.setCell (qt w 3) (.slice A1 x.kids c1)).setCells (w+1) 0 (qh x A1 c1)) :=
  ((((ar (M:=fun _=>False) (HE.out.trans' HX1.out)).setCell (p:=qt w 3) (.inr (ab _)) _).setCells _ 0 (.inr I))).ext
 have hwg:=HB.out.lt;have hwr:=HR.out.lt
 have hkv:bZ ((w1.setCell (qt w 3) (.slice A1 x.kids c1)).setCells (w+1) 0 (qh x A1 c1)) (fun b=>w.heap.size<=b) (.slice A1 x.kids c1) x.kids:=by
  have hk0:aB (fun b=>W.heap.size<=b) w1 w1:=fun _ _ _=>rfl
  exact HV1.out.carry (aB.setCells bh _ 0 (hk0.set (p:=qt w 3) _ bh)) (fun b _ h=>by omega)
 simp only [List.take_zero,List.nil_append,ai,List.length_nil,Nat.zero_add,List.drop_succ_cons,List.drop_nil,List.append_nil] at hfin;obtain ⟨z0,z1,z2,z3⟩:=aU hfin;have hgen:((((w1.setCell (qt w 3) (.slice A1 x.kids c1)).setCell (qp (w+1)) (↑x.kind)).setCell (qt (w+1) 1) (↑x.n)).setCell (qt (w+1) 2) x.s).setCell (qt (w+1) 3) (.slice A1 x.kids c1)=(w1.setCell (qt w 3) (.slice A1 x.kids c1)).setCells (w+1) 0 (qh x A1 c1):=rfl;rw [hgen];generalize (w1.setCell (qt w 3) (.slice A1 x.kids c1)).setCells (w+1) 0 (qh x A1 c1)=W2 at *;exact bodyPost_ret (v:=cN x A1 c1) (by simp [results,Tryz.results108,go_sem,z0,z1,z2,z3]) rfl ⟨A1,c1,rfl,⟨HX.out.kind,HX.out.n,HX.out.s,hkv.le.1,hkv.le.2,hkv⟩,hfr⟩
theorem CV (N:Nat):∀ x,gsz x<N->gsz x<=1000000000->uD x:=by
 induction N with
 | zero=>intro x h;omega
 | succ N ih=>exact fun x h hs=>Mg N ih x h hs
theorem tP (x:GV)(hs:gsz x<=1000000000):uD x:=CV (gsz x+1) x I hs
theorem wH (l:List GV)(hs:∀ x ∈ l,gsz x<=1000000000)(P:Nat->Prop)(v:Value)(w:World)(hl:bZ w P v l)(hlen:l.length<=1000000000):qg 107 #[v] w (Bs l w):=by
 have HC:=aYf (mT l (fun x hx=>tP x (hs x hx)) P v w hl hlen);obtain ⟨A,c,e,h1,h2⟩:=hl.form;subst e;clear hl hs;go_enter Tryz.func107,Tryz.ntmps107;go_wp2_with fail;refine HC.out.mono ?_;rintro e w1 ⟨A1,c1,rfl,hv1,hx1⟩;have HV:=aYf hv1;have HX:=aYf hx1;clear hv1 hx1;go_wp2_with fail;go_ret;exact ⟨A1,c1,rfl,HV.out,HX.out⟩
def Iq (l:List Int)(w:World)(e:Ending)(w':World):Prop:=∃ A c,e=.returned (.slice A l c)∧bL w' (fun b=>w.heap.size<=b) (.slice A l c) l∧Ext w w'
def LV (l:List ByteArray)(w:World)(e:Ending)(w':World):Prop:=∃ A c,e=.returned (.slice A l c)∧nS w' (fun b=>w.heap.size<=b) (.slice A l c) l∧Ext w w'
