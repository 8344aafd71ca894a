/- Contracts and laws. Conditions: none. -/
import Derived.Test.YtkoeecdjijfjnaaGreatE5
set_option linter.all false
set_option maxRecDepth 100000
set_option maxHeartbeats 8000000
namespace Go.Proofs.YtkoeecdjijfjnaaGreat
open Go.RowKit
theorem xL:∀ l,l<=iQ l
 | []=>by simp [iQ]
 | x :: xs=>by
  have:=xL xs;obtain ⟨k,n,s,l⟩:=x;simp only [iQ,gsz,ai];omega
theorem aU3 (x):gsz x=1+iQ x.kids:=by obtain ⟨k,n,s,l⟩:=x;simp only [gsz,GV.kids]
theorem aQ {w g t u0 u1 u2 u3}(h:Blk w g t #[u0,u1,u2,u3]):qc w g 0 u0∧qc w g 1 u1∧qc w g 2 u2∧qc w g 3 u3:=⟨h.cell' 0 rfl,h.cell' 1 rfl,h.cell' 2 rfl,h.cell' 3 rfl⟩
theorem aCu (N)(ih:∀ x,gsz x<N->gsz x<=1000000000->vS x)(x)(hN:gsz x<N+1)(hs:gsz x<=1000000000):vS x:=by
 intro A c P w hx;have hkl:x.kids.length<=1000000000:=by have:=xL x.kids;have:=aU3 x;omega
 have HK:=a4b (show ∀ y ∈ x.kids,vS y from fun y hy=>ih y (by have:=eY hy;omega) (by have:=eY hy;omega));have HX:=a4b hx;clear hx ih hs hN;go_enter Tryz.func143,Tryz.ntmps143;go_wp2_with fail;have HE:=a4b (show Ext w ((w.alloc (qk (qh x A c) 85)).alloc (qk #[qz,qz,qe,qn] 85)) from ((aq w).alloc' _).alloc' _);have HB:=a4b ((aw w 85 (qh x A c)).alloc (qk #[qz,qz,qe,qn] 85));have HR:=a4b (az (w.alloc (qk (qh x A c) 85)) 85 #[qz,qz,qe,qn] (g:=w.heap.size+1) O);generalize hW:(w.alloc (qk (qh x A c) 85)).alloc (qk #[qz,qz,qe,qn] 85)=W at *;clear hW;refine (nQ x.kids HK.out P _ W (HX.out.kids.ext HE.out) I).mono ?_;rintro e w1 ⟨A1,c1,rfl,hv1,hx1⟩;have B1:=HB.out.ext hx1;have R1:=HR.out.ext hx1;obtain ⟨b0,b1,b2,b3⟩:=aQ B1;obtain ⟨r0,r1,r2,r3⟩:=aQ R1;have fb:=B1.frozen 3;have f0:=R1.frozen 0;have f1:=R1.frozen 1;have f2:=R1.frozen 2;have f3:=R1.frozen 3;have HR1:=a4b R1;have HX1:=a4b hx1;have HV1:=a4b hv1;clear hx1 hv1 B1 R1;go_wp2_with fail;have hfin:=aG (qh x A1 c1) (w:=w1.setCell (qt w 3) (.slice A1 x.kids c1)) (cs:=[qz,qz,qe,qn]) (g:=w.heap.size+1) (t:=85) 0 (HR1.out.far (p:=qt w 3) O _) O
 have hfr:Ext w ((w1.setCell (qt w 3) (.slice A1 x.kids c1)).setCells (w+1) 0 (qh x A1 c1)) :=
  ((((ar (M:=fun _=>False) (HE.out.trans' HX1.out)).setCell (p:=qt w 3) (.inr (ab _)) _).setCells _ 0 (.inr I))).ext
 have hwg:=HB.out.lt;have hwr:=HR.out.lt
 have hkv:bT ((w1.setCell (qt w 3) (.slice A1 x.kids c1)).setCells (w+1) 0 (qh x A1 c1)) (fun b=>w.heap.size<=b) (.slice A1 x.kids c1) x.kids:=by
  have hk0:aB (fun b=>W.heap.size<=b) w1 w1:=fun _ _ _=>rfl
  exact HV1.out.carry (aB.setCells bh _ 0 (hk0.set (p:=qt w 3) _ bh)) (fun b _ h=>by omega)
 simp only [List.take_zero,List.nil_append,ai,List.length_nil,Nat.zero_add,List.drop_succ_cons,List.drop_nil,List.append_nil] at hfin;obtain ⟨z0,z1,z2,z3⟩:=aQ hfin;have hgen:((((w1.setCell (qt w 3) (.slice A1 x.kids c1)).setCell (qp (w+1)) (↑x.kind)).setCell (qt (w+1) 1) (↑x.n)).setCell (qt (w+1) 2) x.s).setCell (qt (w+1) 3) (.slice A1 x.kids c1)=(w1.setCell (qt w 3) (.slice A1 x.kids c1)).setCells (w+1) 0 (qh x A1 c1):=rfl;rw [hgen];generalize (w1.setCell (qt w 3) (.slice A1 x.kids c1)).setCells (w+1) 0 (qh x A1 c1)=W2 at *;exact bodyPost_ret (v:=dA x A1 c1) (by simp [results,Tryz.results143,go_sem,z0,z1,z2,z3]) rfl ⟨A1,c1,rfl,⟨HX.out.kind,HX.out.n,HX.out.s,hkv.le.1,hkv.le.2,hkv⟩,hfr⟩
theorem aF4 (N):∀ x,gsz x<N->gsz x<=1000000000->vS x:=by
 induction N with
 | zero=>intro x h;omega
 | succ N ih=>exact fun x h hs=>aCu N ih x h hs
theorem vJ (x)(hs:gsz x<=1000000000):vS x:=aF4 (gsz x+1) x I hs
theorem yD (l)(hs:∀ x ∈ l,gsz x<=1000000000)(P v w)(hl:bT w P v l)(hlen:l.length<=1000000000):qg 142 #[v] w (aV9 l w):=by
 have HC:=a4b (nQ l (fun x hx=>vJ x (hs x hx)) P v w hl hlen);obtain ⟨A,c,e,h1,h2⟩:=hl.form;subst e;clear hl hs;go_enter Tryz.func142,Tryz.ntmps142;go_wp2_with fail;refine HC.out.mono ?_;rintro e w1 ⟨A1,c1,rfl,hv1,hx1⟩;have HV:=a4b hv1;have HX:=a4b hx1;clear hv1 hx1;go_wp2_with fail;go_ret;exact ⟨A1,c1,rfl,HV.out,HX.out⟩
def aZm (l:List Int)(w:World)(e:Ending)(w':World):Prop:=∃ A c,e=.returned (.slice A l c)∧Ints w' (fun b=>w.heap.size<=b) (.slice A l c) l∧Ext w w'
def aZk (l:List ByteArray)(w:World)(e:Ending)(w':World):Prop:=∃ A c,e=.returned (.slice A l c)∧nW w' (fun b=>w.heap.size<=b) (.slice A l c) l∧Ext w w'
