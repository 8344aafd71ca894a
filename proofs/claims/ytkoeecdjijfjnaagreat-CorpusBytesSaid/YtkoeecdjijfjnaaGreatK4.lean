/- Contracts and laws. Conditions: none. -/
import Derived.Lib.Overlaps
import Derived.Lib.AppendZerosOnto
import Derived.Laws.Externs
import Derived.Test.YtkoeecdjijfjnaaGreatJ1
import Derived.Test.YtkoeecdjijfjnaaGreatH5
set_option linter.all false
set_option maxRecDepth 100000
set_option maxHeartbeats 8000000
namespace Go.Proofs.YtkoeecdjijfjnaaGreat
open Go.RowKit
theorem aKa (t vn gw gs gl gf P w)(h:kE t vn gw gs gl gf P w)(htl:t.length<=100000) :
  Calls Tryz.prog 100 #[qp gw] w fun e w'=>e=.returned (.int .i64 ((t:Int) - 1))∧w=w':=by
 have c0:=h.box.cell' (u:=qp gs) 0 rfl;have c1:=h.sets;obtain ⟨An,cn,en,hn1,hn2⟩:=h.nodes.form;subst en;clear h;go_enter Tryz.func100,Tryz.ntmps100;go_wp2_with fail;go_ret;exact ⟨rfl,rfl⟩
def aNr (r:GF)(w:World)(e:Ending)(w':World):Prop:=∃ A c,e=.returned (.tuple #[dA r.val A c,r.at_,r.good])∧VAt w' (fun _=>True) r.val A c∧Ext w w'
structure a0w (w W:World)(gw:Nat)(vp:Value):Prop where
 b0:Blk W w 91 #[qp gw]
 b1:Blk W (w+1) 22 #[vp]
 b2:Blk W (w.heap.size+1+1) 85 #[qz,qz,qe,qn]
 b3:Blk W (w.heap.size+1+1+1) 3 #[qz]
 b4:Blk W (w.heap.size+1+1+1+1) 4 #[true]
 ext:Ext w W
 sz:W.heap.size=w+5
theorem aN8 (w gw vp):a0w w (((((w.alloc (qk #[qp gw] 91)).alloc (qk #[vp] 22)).alloc (qk #[qz,qz,qe,qn] 85)).alloc (qk #[qz] 3)).alloc (qk #[true] 4)) gw vp :=
 ⟨((((aw w 91 _).alloc _).alloc _).alloc _).alloc _,(((az (w.alloc _) 22 _ O).alloc _).alloc _).alloc _,((az ((w.alloc _).alloc _) 85 _ O).alloc _).alloc _,(az (((w.alloc _).alloc _).alloc _) 3 _ O).alloc _,az ((((w.alloc _).alloc _).alloc _).alloc _) 4 _ O,(((((aq w).alloc' _).alloc' _).alloc' _).alloc' _).alloc' _,O⟩
def vfa (gw gs gl gf B:Nat):FA:=⟨gw,gs,gl,gf,B+1,B,B+1+1+1,B+1+1+1+1,fun b=>b=B+1+1⟩
theorem aJ1 {t path vn vp gw gs gl gf P Pp w W}(h:kE t vn gw gs gl gf P w)(hp:Ints w Pp vp path)(hW:a0w w W gw vp):aGh t path vn vp (vfa gw gs gl gf w) W∧FSt (vfa gw gs gl gf w) 0 true W:=by
 have hQ:∀ b,b<w.heap.size->(vfa gw gs gl gf w).Q b:=fun b hb=>⟨fun h=>by rcases h with h | h <;> (simp only [vfa] at h;omega),fun h=>by simp only [vfa] at h;omega⟩
 refine ⟨⟨h.carry (aB.of_ext hW.ext) (fun b hb _=>hQ b hb),hW.b1.cell' 0 rfl,hW.b0.cell' 0 rfl,hp.carry (aB.of_ext hW.ext) (fun b hb _=>hQ b hb),?_,?_,?_,?_⟩,hW.b3,hW.b4⟩
 ·exact ⟨fun h=>by rcases h with h | h <;> (simp only [vfa] at h;omega),fun h=>by simp only [vfa] at h;omega⟩
 ·exact ⟨fun h=>by rcases h with h | h <;> (simp only [vfa] at h;omega),fun h=>by simp only [vfa] at h;omega⟩
 ·simp only [vfa];omega
 ·intro b hb
  simp only [vfa] at hb;have:=hW.sz;omega
theorem vT (t path vn vp)(gw gs gl gf i:Nat)(P Pp w)(h:kE t vn gw gs gl gf P w)(hp:Ints w Pp vp path)(hg:bD t t)(hi:i<t)(hpl:path.length<=1000000000) :
  qg 101 #[qp gw,↑i,vp] w (aNr (iT t path t i 0 true) w):=by
 have HH:=a4b h;have HPP:=a4b hp;have HG:=a4b hg;obtain ⟨Ap,cp,ep,hp1,hp2⟩:=hp.form;subst ep;clear h hp hg;go_enter Tryz.func101,Tryz.ntmps101;go_wp2_with fail;have HW:=a4b (aN8 w gw (.slice Ap path cp));generalize ((((w.alloc (qk #[qp gw] 91)).alloc (qk #[.slice Ap path cp] 22)).alloc (qk #[qz,qz,qe,qn] 85)).alloc (qk #[qz] 3)).alloc (qk #[true] 4)=W at *;have HEV:=a4b (aJ1 HH.out HPP.out HW.out);refine (aFn t path vn _ HG.out hpl t (vfa gw gs gl gf w) i 0 true W hi hi HEV.out.1 HEV.out.2 I I).mono ?_;rintro e wu ⟨A2,d2,rfl,hv2,hfu,hsu⟩;have hX:Ext w wu:=((ar (M:=fun b=>w.heap.size<=b) HW.out.ext).trans (hfu.mono (fun b hb=>by rcases hb with hb | hb <;> (simp only [vfa] at hb;omega)))).new_ext (fun b hb=>hb);have hB2:=HW.out.b2.fr hfu (fun hb=>by rcases hb with hb | hb <;> (simp only [vfa] at hb;omega));generalize iT t path t (i:Int) 0 true=rr at *;obtain ⟨y,at2,gd2⟩:=rr;simp only at hv2 hsu;have ca:qc wu (w.heap.size+1+1+1) 0 at2:=hsu.1.cell' 0 rfl;have cg:qc wu (w.heap.size+1+1+1+1) 0 gd2:=hsu.2.cell' 0 rfl;have lg:=aX cg;have HV2:=a4b hv2;have HXU:=a4b hX;have HBR:=a4b hB2;clear hv2 hfu hsu hX hB2;go_wp2_with fail;have HXQ:=a4b ((aq wu).alloc' (qk (qh y A2 d2) 85));have HBQ:=a4b (aw wu 85 (qh y A2 d2));generalize wu.alloc (qk (qh y A2 d2) 85)=Wq at *;obtain ⟨y0,y1,y2,y3⟩:=aQ HBQ.out;have ea:=aA HXQ.out ca;have eg:=aA HXQ.out cg;have hBQ:=HBR.out.ext HXQ.out;obtain ⟨r0,r1,r2,r3⟩:=aQ hBQ;have f0:=hBQ.frozen 0;have f1:=hBQ.frozen 1;have f2:=hBQ.frozen 2;have f3:=hBQ.frozen 3;have HRQ:=a4b hBQ;have n1:¬ wu.heap.size=w+1+1:=by omega
 have n2:¬ w.heap.size+1+1+1=w+1+1:=I;have n3:¬ w.heap.size+1+1+1+1=w+1+1:=I;clear hBQ ca cg
 go_region_held3 (fun w'=>qc w' wu 0 y.kind∧qc w' wu 1 y.n∧qc w' wu 2 y.s∧qc w' wu 3 (.slice A2 y.kids d2)∧qc w' (w.heap.size+1+1+1) 0 at2∧qc w' (w.heap.size+1+1+1+1) 0 gd2)
  (first
   | with_reducible exact ⟨cF n1 y0,cF n1 y1,cF n1 y2,cF n1 y3,cF n2 ea,cF n3 eg⟩
   | with_reducible exact ⟨cN n1 y0,cN n1 y1,cN n1 y2,cN n1 y3,cN n2 ea,cN n3 eg⟩
   | go_keep)
  (first
   | fail)
 go_wp2_with fail;clear r0 r1 r2 r3;have hb:=aG (cellsOf y A2 d2) (cs:=[qz,qz,qe,qn]) 0 HRQ.out gi;have e:(([↑qz,↑qz,↑qe,↑qn]:List Value).take 0 ++ cellsOf y A2 d2 ++ ([↑qz,↑qz,↑qe,↑qn]:List Value).drop (0+(cellsOf y A2 d2).length)).toArray=(cellsOf y A2 d2).toArray:=by simp [cellsOf]
 rw [e] at hb;have z0:=hb.cell' (u:=↑y.kind) 0 rfl;have z1:=hb.cell' (u:=↑y.n) 1 rfl;have z2:=hb.cell' (u:=y.s) 2 rfl;have z3:=hb.cell' (u:=.slice A2 y.kids d2) 3 rfl;have hXF:Ext w (Wq.setCells (w.heap.size+1+1) 0 (cellsOf y A2 d2)):=((ar (M:=fun _=>False) (HXU.out.trans' HXQ.out)).setCells _ 0 (.inr I)).ext;have hVF:VAt (Wq.setCells (w.heap.size+1+1) 0 (cellsOf y A2 d2)) (fun _=>True) y A2 d2:=(HV2.out.ext HXQ.out).carry (aB.setCells (fun h=>h.2 rfl) _ 0 (fun _ _ _=>rfl)) (fun _ _ _=>trivial);have hgen:(((Wq.setCell (qp (w.heap.size+1+1)) (↑y.kind)).setCell (qt (w.heap.size+1+1) 1) (↑y.n)).setCell (qt (w.heap.size+1+1) 2) y.s).setCell (qt (w.heap.size+1+1) 3) (.slice A2 y.kids d2)=Wq.setCells (w.heap.size+1+1) 0 (cellsOf y A2 d2):=rfl;rw [hgen];generalize Wq.setCells (w.heap.size+1+1) 0 (cellsOf y A2 d2)=WF at *;exact bodyPost_ret (v:=.tuple #[dA y A2 d2,↑at2,gd2]) (by simp [results,Tryz.results101,go_sem,z0,z1,z2,z3]) rfl ⟨A2,d2,rfl,hVF.ext (aq _).drew',hXF.drew'⟩
def aEn (b:Bool)(w:World)(e:Ending)(w':World):Prop:=∃ (y:GV)(A:Option Addr)(c:Nat),e=.returned (.tuple #[dA y A c,b])∧Ext w w'
theorem yZ (t path vn vp gw gs gl gf P Pp w)(h:kE t vn gw gs gl gf P w)(hp:Ints w Pp vp path)(hg:bD t t)(hpl:path.length<=1000000000) :
  qg 47 #[qp gw,vp] w (aEn (aL t path) w):=by
 have htl:t.length<=4096:=hg.2.1;have HRT:=a4b (show ∀ W,Ext w W->Calls Tryz.prog 100 #[qp gw] W fun e w'=>e=.returned (.int .i64 ((t:Int) - 1))∧W=w' from fun W hx=>aKa t vn gw gs gl gf P W (h.carry (aB.of_ext hx) (fun _ _ h=>h)) I);have HWB:=a4b (show aL t path=(decide (0<t.length) && (iT t path t ((t:Int) - 1) 0 true).good && decide ((iT t path t ((t:Int) - 1) 0 true).at_=path)) from rfl);obtain ⟨Ap,cp,ep,hp1,hp2⟩:=hp.form;subst ep;by_cases h0:t.length=0
 ·have HF:=a4b (show aL t path=false by rw [HWB.out,a4f I];rfl)
  have HZ:=a4b (show ((t:Int) - 1)=-1 by omega);rw [HZ.out] at HRT;clear h hp hg h0;go_enter Tryz.func47,Tryz.ntmps47;go_wp2_with fail;have HX:=a4b ((aq w).alloc' (qk #[qz,qz,qe,qn] 85));have HB:=a4b (aw w 85 #[qz,qz,qe,qn]);generalize w.alloc (qk #[qz,qz,qe,qn] 85)=W at *;obtain ⟨r0,r1,r2,r3⟩:=aQ HB.out;have f0:=HB.out.frozen 0;have f1:=HB.out.frozen 1;have f2:=HB.out.frozen 2;have f3:=HB.out.frozen 3;refine (HRT.out W HX.out).mono ?_;rintro e w1 ⟨rfl,rfl⟩;go_wp2_with fail;have hb:=aG [qz,qz,qe,qn] (cs:=[qz,qz,qe,qn]) 0 HB.out O;have z0:=hb.cell' (u:=qz) 0 rfl;have z1:=hb.cell' (u:=qz) 1 rfl;have z2:=hb.cell' (u:=qe) 2 rfl;have z3:=hb.cell' (u:=qn) 3 rfl;have hXF:Ext w (W.setCells w 0 [qz,qz,qe,qn]):=((ar (M:=fun _=>False) HX.out).setCells _ 0 (.inr (ab _))).ext;have hgen:(((W.setCell (qp w) qz).setCell (qt w 1) qz).setCell (qt w 2) qe).setCell (qt w 3) qn=W.setCells w 0 [qz,qz,qe,qn]:=rfl;rw [hgen];generalize W.setCells w 0 [qz,qz,qe,qn]=WF at *;exact bodyPost_ret (v:=.tuple #[dA (.mk 0 0 ⟨#[]⟩ []) none 0,false]) (by simp [results,Tryz.results47,go_sem,z0,z1,z2,z3];exact ⟨rfl,rfl,rfl,rfl⟩) rfl ⟨.mk 0 0 ⟨#[]⟩ [],none,0,by rw [HF.out],hXF⟩
 ·obtain ⟨n,hn⟩:∃ n:Nat,t.length=n+1:=⟨t.length - 1,I⟩
  have HZ:=a4b (show ((t:Int) - 1)=(n:Int) by omega);rw [HZ.out] at HRT HWB;have HVA:=a4b (show ∀ W,Ext w W->qg 101 #[qp gw,↑n,.slice Ap path cp] W (aNr (iT t path t n 0 true) W) from fun W hx=>vT t path vn _ gw gs gl gf n P Pp W (h.carry (aB.of_ext hx) (fun _ _ h=>h)) (hp.ext hx) hg I hpl);have HF:=a4b (show aL t path=((iT t path t (n:Int) 0 true).good && decide ((iT t path t (n:Int) 0 true).at_=path)) by rw [HWB.out,a4e I];simp);generalize iT t path t (n:Int) 0 true=rr at *;obtain ⟨y,at2,gd2⟩:=rr;simp only at HF;clear h hp hg h0 hn;go_enter Tryz.func47,Tryz.ntmps47;go_wp2_with fail;have HX:=a4b ((aq w).alloc' (qk #[qz,qz,qe,qn] 85));have HB:=a4b (aw w 85 #[qz,qz,qe,qn]);generalize w.alloc (qk #[qz,qz,qe,qn] 85)=W at *;refine (HRT.out W HX.out).mono ?_;rintro e w1 ⟨rfl,rfl⟩;go_wp2_with fail;refine (HRT.out W HX.out).mono ?_;rintro e w1 ⟨rfl,rfl⟩;go_wp2_with fail;refine (HVA.out W HX.out).mono ?_;rintro e w2 ⟨A2,d2,rfl,hv2,hx2⟩;have hB2:=HB.out.ext hx2;obtain ⟨r0,r1,r2,r3⟩:=aQ hB2;have f0:=hB2.frozen 0;have f1:=hB2.frozen 1;have f2:=hB2.frozen 2;have f3:=hB2.frozen 3;have lr:=hB2.lt;have HB2:=a4b hB2;have HX2:=a4b (HX.out.trans' hx2);clear hB2 hx2 hv2;cases gd2
  ·have HF2:=a4b (show aL t path=false by rw [HF.out];rfl)
   go_wp2_with fail;have hb:=aG (cellsOf y A2 d2) (cs:=[qz,qz,qe,qn]) 0 HB2.out gi;have z0:=(hb.alloc (qk (qh y A2 d2) 85)).cell' (u:=↑y.kind) 0 rfl;have z1:=(hb.alloc (qk (qh y A2 d2) 85)).cell' (u:=↑y.n) 1 rfl;have z2:=(hb.alloc (qk (qh y A2 d2) 85)).cell' (u:=y.s) 2 rfl;have z3:=(hb.alloc (qk (qh y A2 d2) 85)).cell' (u:=.slice A2 y.kids d2) 3 rfl;have hXF:Ext w (w2.setCells w 0 (cellsOf y A2 d2)):=((ar (M:=fun _=>False) HX2.out).setCells _ 0 (.inr (ab _))).ext;have hgen:(((w2.setCell (qp w) (↑y.kind)).setCell (qt w 1) (↑y.n)).setCell (qt w 2) y.s).setCell (qt w 3) (.slice A2 y.kids d2)=w2.setCells w 0 (cellsOf y A2 d2):=rfl;rw [hgen];generalize w2.setCells w 0 (cellsOf y A2 d2)=WF at *;exact bodyPost_ret (v:=.tuple #[dA y A2 d2,false]) (by simp [results,Tryz.results47,go_sem,z0,z1,z2,z3]) rfl ⟨y,A2,d2,by rw [HF2.out],hXF.alloc' _⟩
  ·have HF2:=a4b (show aL t path=decide (at2=path) by rw [HF.out];rfl)
   obtain ⟨bb,hbb⟩:∃ bb,bb=(at2 == (path:Int)):=⟨_,rfl⟩;have tb:(at2 == (path:Int))=bb:=hbb.symm;have HBB:=a4b (show aL t path=bb by rw [HF2.out,hbb];rfl);clear hbb;go_wp2_with fail;have hb:=aG (cellsOf y A2 d2) (cs:=[qz,qz,qe,qn]) 0 HB2.out gi;have z0:=(hb.alloc (qk (qh y A2 d2) 85)).cell' (u:=↑y.kind) 0 rfl;have z1:=(hb.alloc (qk (qh y A2 d2) 85)).cell' (u:=↑y.n) 1 rfl;have z2:=(hb.alloc (qk (qh y A2 d2) 85)).cell' (u:=y.s) 2 rfl;have z3:=(hb.alloc (qk (qh y A2 d2) 85)).cell' (u:=.slice A2 y.kids d2) 3 rfl;have hXF:Ext w (w2.setCells w 0 (cellsOf y A2 d2)):=((ar (M:=fun _=>False) HX2.out).setCells _ 0 (.inr (ab _))).ext;have hgen:(((w2.setCell (qp w) (↑y.kind)).setCell (qt w 1) (↑y.n)).setCell (qt w 2) y.s).setCell (qt w 3) (.slice A2 y.kids d2)=w2.setCells w 0 (cellsOf y A2 d2):=rfl;rw [hgen];generalize w2.setCells w 0 (cellsOf y A2 d2)=WF at *;exact bodyPost_ret (v:=.tuple #[dA y A2 d2,.bool bb]) (by simp [results,Tryz.results47,go_sem,z0,z1,z2,z3]) rfl ⟨y,A2,d2,by rw [HBB.out],hXF.alloc' _⟩
structure CA where
 c:Nat
 w:Nat
 s:Nat
 l:Nat
 f:Nat
structure cV (t:List GN)(vn:Value)(b:Int)(L:List GE)(g:CA)(P:Nat->Prop)(ve:Value)(w:World):Prop where
 box:Blk w g.c 95 #[vn,qp g.w,↑b,ve]
 walk:kE t vn g.w g.s g.l g.f P w
 own:∃ xs,w.ownsRow 0 102 6 ve L xs∧RL (REn w P) L xs
 excl:∀ k,P k->k ≠ g.c∧some k ≠ ve.ownBlock
 ne:some g.c ≠ ve.ownBlock
 inc:mB L
 bI:0<=b∧b<=1099511627776
 few:L.length<=100000
 short:∀ e ∈ L,e.path.length<=1000000000
 good:bD t t
def CA.M (g:CA)(ve:Value):Nat->Prop:=fun k=>k=g.c∨some k=ve.ownBlock
section
variable {t:List GN}{vn:Value}{b:Int}{L:List GE}{g:CA}{P Q:Nat->Prop}{ve:Value}{w w':World}
theorem cV.carry (h:cV t vn b L g P ve w)(hk:aB (fun k=>P k∨g.M ve k) w w')(hPQ:∀ k,k<w.heap.size->P k->Q k)(hQ:∀ k,Q k->k ≠ g.c∧some k ≠ ve.ownBlock):cV t vn b L g Q ve w':=by
 obtain ⟨xs,h1,h2⟩:=h.own;have hkP:aB P w w':=fun k hk' hp=>hk k hk' (.inl hp)
 refine ⟨(hk _ h.box.lt (.inr (.inl rfl))).trans h.box,h.walk.carry hkP hPQ,⟨xs,⟨h1.1,?_⟩,h2.move eN hkP hPQ⟩,hQ,h.ne,h.inc,h.bI,h.few,h.short,h.good⟩;rcases h1.2 with h3 | ⟨g',cap,cur,h4,h5,h6,h7⟩
 ·exact .inl h3
 ·exact .inr ⟨g',cap,cur,h4,h5,(hk g' (Blk.lt (t:=102) h6) (.inr (.inr (by rw [h4];rfl)))).trans h6,h7⟩
theorem cV.ext (h:cV t vn b L g P ve w)(hx:Ext w w'):cV t vn b L g P ve w':=h.carry (aB.of_ext hx) (fun _ _ h=>h) h.excl
theorem cV.ens (h:cV t vn b L g P ve w):Ens w (fun k=>P k∨some k=ve.ownBlock) ve L:=by
 obtain ⟨xs,h1,h2⟩:=h.own;exact Lst.of_own h1 (h2.move eN (fun _ _ _=>rfl) (fun _ _ h=>.inl h)) (by have:=h.few;omega) (fun k hk=>.inr hk.symm)
theorem cV.cell3 (h:cV t vn b L g P ve w):qc w g.c 3 ve:=h.box.cell' 3 rfl
end
def aWl (L:List GE)(W:World)(n i:Value)(wr:World):Prop:=∃ (k:Nat)(s:Int),k<=L∧i=↑k∧n=↑s∧Ext W wr∧0<=s∧s<=1000000002*k∧s+bC (L.drop k)=bC L
theorem tH (t vn b L g P ve w)(h:cV t vn b L g P ve w):qg 15 #[qp g.c] w (dI (.int .i64 (bC L)) w):=by
 have HE:=a4b h.ens;have c3:=h.cell3;have HSH:=a4b h.short;have hfw:=h.few;obtain ⟨Al,cl,el,h1,h2⟩:=Lst.form h.ens;subst el;clear h;go_enter Tryz.func15,Tryz.ntmps15;go_wp2_with fail;go_loopw [3,11] (fun n i wr=>aWl L w n i wr) (fun _ i _=>L.length - (intOf i).toNat)
 case atStart=>exact ⟨0,0,af _,rfl,rfl,aq _,Int.le_refl _,I,O⟩
 case round =>
  obtain ⟨k,s,hk,rfl,rfl,hx,s0,s1,hs⟩:=hrel;have HX:=a4b hx;have HS:=a4b hs;clear hx hs;by_cases hlt:k<L
  ·obtain ⟨b1,o1,A1,d1,rfl,-,hv1,hgc⟩:=(HE.out.ext HX.out).get hlt
   have hpl:=HSH.out _ (aD (d:=default) hlt);have HD:=a4b (show s+(wE (L.getD k default)+bC (L.drop (k+1)))=bC L by rw [<- HS.out,aH default hlt];rfl);generalize L.getD k default=y at *;have g10:=hgc 0 _ rfl;have g11:=hgc 1 _ rfl;have g12:=hgc 2 _ rfl;have g13:=hgc 3 _ rfl;have g14:=hgc 4 _ rfl;have g15:=hgc 5 _ rfl;rw [Nat.add_zero] at g10;have hle:=hv1.path.le;clear hgc hv1;go_wp2_with fail;refine (aEv y A1 d1 _ I hle.2.2 hle.1).mono ?_;rintro e w2 ⟨rfl,hx2⟩;have HX2:=a4b (HX.out.trans' (((aq _).alloc' _).trans' hx2));have hw1:wE y=2+(y.path:Int):=rfl;have hw2:0<=wE y:=by omega
   have hw3:wE y<=1000000002:=I;clear hx2 hw1;generalize wE y=wy at *;go_wp2_with fail;go_roundw
   case rel=>exact ⟨k+1,s+wy,I,by go_num,rfl,HX2.out,I,I,by have:=HD.out;omega⟩
   case measure=>simp [intOf];omega
  ·have HF:=a4b (show bC L=s by have:=HS.out;rw [drop_nil I] at this;simp [bC] at this;omega)
   go_wp2_with fail;go_ret;exact ⟨aI HF.out.symm,HX.out⟩
theorem aHz (t vn b L g P Pp ve vp path w)(h:cV t vn b L g P ve w)(hp:Ints w Pp vp path):qg 19 #[qp g.c,vp] w (dI (gE path L) w):=by
 obtain ⟨Ap,cp,ep,hp1,hp2⟩:=hp.form;subst ep;have c3:=h.cell3;have hfw:=h.few;have hz:I64 0:=by unfold I64;omega
 have HC:=a4b (aAa L ⟨path,0,0,0,false,0⟩ Ap cp _ Pp ve w h.ens ⟨hp,hz,hz,hz,hz⟩ h.inc I);obtain ⟨Al,cl,el,h1,h2⟩:=Lst.form h.ens;subst el;clear h hp;simp only at HC;generalize aZ path L=fi at *;generalize gE path L=hb at *;go_enter Tryz.func19,Tryz.ntmps19;go_wp2_with fail;refine HC.out.mono ?_;rintro e w1 ⟨rfl,hx1⟩;have HX1:=a4b hx1;clear hx1;go_wp2_with fail;go_ret;exact ⟨rfl,HX1.out⟩
theorem Tryz.info102:(Tryz.prog.info? 102).map (fun i=>(i.zero,i.size,i.bytes))=some (some (.agg #[qn,qz,qz,qz,false,qz]),6,64):=U
def zE:List Value:=[qn,qz,qz,qz,false,qz]
section
variable {P:Program}
theorem yX (w:World){o:Oper}{a:Act}{K:Act->World->Prop}{Q:Exit->Act->World->Prop}(s:Operand)(t:TypeId)
  (ho:o.op=.call { callee:=.builtin .clear,args:=#[s],argTypes:=#[t] })(v:Value)(hd:a.eval s=v){v':Value}{w':World}
  (hr:(Builtin.clear_ #[t] o.type #[v]).run P w=.ok v' w')(h:K (a.put o.dst v') w'):o.wp P a w K Q:=by
 unfold Oper.wp execOp;simp only [ho,resolve,invoke,builtin,Sem.run_bind,Sem.run_pure,Result.andThen_ok,List.map_toArray,List.map_cons,List.map_nil,hd,hr];exact h
theorem jG (w:World){ops:Array Oper}{rest:List Oper}{o:Oper}{a:Act}{Q:Exit->Act->World->Prop}(hgd:o.guard=none)(s:Operand)(t:TypeId)
  (ho:o.op=.call { callee:=.builtin .clear,args:=#[s],argTypes:=#[t] })(v:Value)(hd:a.eval s=v){v':Value}{w':World}
  (hr:(Builtin.clear_ #[t] o.type #[v]).run P w=.ok v' w')(h:wpList P ops Q rest (a.put o.dst v') w'):wpList P ops Q (o :: rest) a w :=
 wpList_plain hgd fun _ hK=>yX w s t ho v hd hr (hK _ _ h)
end
theorem uL (w ty)(g o c:Nat)(cs:List Value)(hB:Blk w g 102 cs.toArray)(ho:o+6<=cs) :
  (Builtin.clear_ #[93] ty #[.slice (qt g o) 1 c]).run Tryz.prog w=.ok (.tuple #[]) (w.setCells g o zE):=by
 obtain ⟨i0,hi,hz0,hz1,hz2⟩:=info_parts Tryz.info102;have hst:=run_storeCells_cells (P:=Tryz.prog) g o zE 0 w (fun j hj=>by simp only [zE,ai,List.length_nil] at hj;rw [Nat.add_zero,hB.cell];simp;omega) (fun j hj=>by rw [Nat.add_zero];exact hB.frozen _) (by intro v hv;simp only [zE,ao,List.not_mem_nil,or_false] at hv;rcases hv with rfl | rfl | rfl | rfl | rfl | rfl <;> rfl);rw [Nat.add_zero] at hst;have hv:∀ w,(zeroValue 102).run Tryz.prog w=.ok (.agg #[qn,qz,qz,qz,false,qz]) w:=fun w=>by simp [zeroValue,typeInfo,hi,hz0]
 have hc:(Builtin.zeroCells (Value.agg #[qn,qz,qz,qz,false,qz]).cells 1).toList=zE:=U;simp [Builtin.clear_,run_underlying Tryz.underlying93,hv,hc,hst]
def aV5 (g n cap i:Nat)(cur:List Value)(w:World)(e:Ending)(w':World):Prop:=e=.returned (.slice (qp g) (n - 1) cap) ∧
 ∃ cur':List Value,Blk w' g 102 cur'.toArray∧cur'.length=cap*6∧cur'.take ((n - 1)*6)=cur.take (i*6) ++ (cur.take (n*6)).drop ((i+1)*6)∧Fr (fun k=>k=g) w w'
theorem aFs (g n cap i:Nat)(cur:List Value)(w)(hB:Blk w g 102 cur.toArray)(hcl:cur=cap*6)(hn:n<=cap)(hi:i<n)(hnn:n<=100000)(hcap:cap<=9223372036854775807)(h1:∀ u ∈ cur.take (n*6),u.oneCell'=true) :
  qg 104 #[.slice (qp g) n cap,↑i,.int .i64 ((i:Int)+1)] w (aV5 g n cap i cur w):=by
 obtain ⟨m,rfl⟩:∃ m,n=i+1+m:=⟨n - (i+1),I⟩;have HB:=a4b hB;have HCL:=a4b hcl;obtain ⟨i0,hi0,hz0,hz1,hz2⟩:=info_parts Tryz.info102;have HI:=a4b hi0;obtain ⟨news,hnews⟩:∃ news,news=(cur.take ((i+1+m)*6)).drop ((i+1)*6):=⟨_,rfl⟩;have HNE:=a4b hnews;have hnl:news.length=m*6:=by rw [hnews];simp only [am,ak];omega
 have HNL:=a4b hnl;have HN1:=a4b (show ∀ u ∈ news,u.oneCell'=true from fun u hu=>h1 u (by rw [hnews] at hu;exact List.mem_of_mem_drop hu))
 have HNC:=a4b (show ∀ j u,news[j]?=some u->w.cell? (qt g ((i+1)*6+j))=some u from fun j u hu=>by
  rw [hnews,List.getElem?_drop,List.getElem?_take] at hu;split at hu
  ·rw [hB.cell];simpa using hu
  ·cases hu)
 clear hB hcl hi0 hnews hnl h1;have t1:((i:Int) == (i:Int)+1)=false:=a4c I;have hi1:(0:Int)<=(i:Int):=by omega
 have hi2:(i:Int)+1<=((i+1+m:Nat):Int):=I;have hi3:((i:Int)+1).toNat=i+1:=I;have hi4:(i:Int)<=(i:Int)+1:=I;have hi5:(0:Int)<=(i:Int)+1:=I;have hic:i<=cap:=I;have hi6:(i:Int)+1<=(i:Int)+1+(m:Int):=I;have hsub:i+1+m - (i+1)=m:=I
 have hcells:∀ (A:Addr),(A=↑(qt g ((i+1)*6))∨m=0)->∀ j u,news[j]?=some u->w.drew.cell? (A.add j)=some u:=fun A hA j u hu=>by
  rcases hA with rfl | hA
  ·rw [dH];exact HNC.out j u hu
  ·have h0:=HNL.out
   rw [hA] at h0;have:news=[]:=List.eq_nil_of_length_eq_zero I;rw [this] at hu;simp at hu
 have hspare:∀ j,j<news.length->(w.drew.cell? (qt g (0+i*6+j))).isSome=true∧w.drew.frozen? (qt g (0+i*6+j))=false:=fun j hj=>by
  have h1:=HNL.out;have h2:=HCL.out;obtain ⟨y,hy⟩:=HB.out.some_ (i:=0+i*6+j) I;exact ⟨by rw [fI,hy];rfl,HB.out.frozen _⟩
 have HCE:=a4b hcells;have HSP:=a4b hspare;have hB1:=aG news (w:=w.drew) (i*6) HB.out.drew (by have:=HNL.out;have:=HCL.out;omega);have HB1:=a4b hB1;have HL1:=a4b (show (cur.take (i*6) ++ news ++ cur.drop (i*6+news.length)).length=cap*6 by have h1:=HNL.out;have h2:=HCL.out;simp only [aa,ak,am];omega);clear hcells hspare hB1;by_cases hc:cap=i+1
 ·obtain rfl:m=0:=by omega
  subst hc;have HCE0:=a4b (HCE.out (qp g) (.inr rfl));have HNLZ:=a4b (show news.length=0*6 from HNL.out);have HLZ:=a4b HL1.out;clear HCE HNL HL1 hsub;go_enter Tryz.func104,Tryz.ntmps104;go_wp2_with fail;go_region_law (refine step_append_room rfl (.tmp 22) (.tmp 25) 93 rfl 102 i0 6 Tryz.underlying93 HI.out hz1 g 0 i (i+1) (by simp [Act.eval,Act.put]) (qp g) 0 0 news (by simp [Act.eval,Act.put]) (by have:=HNLZ.out;omega) HCE0.out HN1.out (by omega) HSP.out ?_)
  (try rw [Nat.zero_add])
  have HFR:=a4b (show Fr (fun k=>k=g) w (w.drew.setCells g (i*6) news) from ((au _ w).drew).setCells news _ (.inl rfl));generalize w.drew.setCells g (i*6) news=W1 at *;have HCLR:=a4b (fun ty c=>uL W1 ty g (i*6) c _ HB1.out (by rw [HLZ.out];omega));have h7:¬ i+1=i:=by omega
  have h9:(i:Int)+1<=((i+1:Nat):Int):=I;have h10:i+1 - i=1:=I;go_wp2_with (with_reducible refine jG _ rfl (.tmp 31) 93 rfl (.slice (qt g (i*6)) 1 1) rfl (HCLR.out _ _) ?_);go_ret;have hB2:=aG zE (w:=W1) (i*6) HB1.out (by rw [HLZ.out];show i*6+6<=(i+1)*6;omega);refine ⟨by rw [show i+1+0 - 1=i by omega];rfl,_,hB2,?_,?_,HFR.out.setCells zE _ (.inl rfl)⟩
  ·have h1:=HLZ.out
   generalize cur.take (i*6) ++ news ++ cur.drop (i*6+news.length)=c1 at *;simp only [aa,ak,am,zE,ai,List.length_nil];omega
  ·have h2:=HNLZ.out
   have h3:=HCL.out;have h4:news=[]:=List.eq_nil_of_length_eq_zero I;have h5:=HNE.out;rw [<- h5,h4];simp only [List.append_nil,List.length_nil,Nat.add_zero,List.take_append_drop];rw [show i+1 - 1=i by omega,ah,List.take_left' em]
 ·have hc':¬ (cap=i):=by omega
  go_enter Tryz.func104,Tryz.ntmps104;go_wp2_with fail;go_region_law (refine step_append_room rfl (.tmp 22) (.tmp 25) 93 rfl 102 i0 6 Tryz.underlying93 HI.out hz1 g 0 i cap (by simp [Act.eval,Act.put]) (qt g ((i+1)*6)) m (cap - (i+1)) news (by simp [Act.eval,Act.put]) HNL.out (HCE.out _ (.inl rfl)) HN1.out (by omega) HSP.out ?_)
  (try rw [Nat.zero_add])
  have HFR:=a4b (show Fr (fun k=>k=g) w (w.drew.setCells g (i*6) news) from ((au _ w).drew).setCells news _ (.inl rfl));generalize w.drew.setCells g (i*6) news=W1 at *;have HCLR:=a4b (fun ty c=>uL W1 ty g ((i+m)*6) c _ HB1.out (by have h1:=HL1.out;omega));have h7:¬ cap=i+m:=by omega
  have h8:(i:Int)+(m:Int)<=(i:Int)+1+(m:Int):=I;have h9:(i:Int)+1+(m:Int)<=(cap:Int):=I;have h10:i+1+m - (i+m)=1:=I;have h11:(0:Int)<=(i:Int)+(m:Int):=I;have h12:((i:Int)+1+(m:Int)).toNat=i+1+m:=I;have h13:((i:Int)+(m:Int)).toNat=i+m:=I;go_wp2_with (with_reducible refine jG _ rfl (.tmp 31) 93 rfl (.slice (qt g ((i+m)*6)) 1 (cap - (i+m))) rfl (HCLR.out _ _) ?_);go_ret;have hB2:=aG zE (w:=W1) ((i+m)*6) HB1.out (by rw [HL1.out];show (i+m)*6+6<=cap*6;omega);refine ⟨by rw [show i+1+m - 1=i+m by omega];rfl,_,hB2,?_,?_,HFR.out.setCells zE _ (.inl rfl)⟩
  ·have h1:=HL1.out
   generalize cur.take (i*6) ++ news ++ cur.drop (i*6+news.length)=c1 at *;simp only [aa,ak,am,zE,ai,List.length_nil];omega
  ·have h1:=HL1.out
   have h2:=HNL.out;have h3:=HCL.out;rw [show i+1+m - 1=i+m by omega,ah,List.take_left' em];rw [List.take_append_of_le_length (by rw [aa,ak];omega),an (by rw [aa,ak];omega),HNE.out]
section
variable {P:Program}
theorem pE (w:World){o:Oper}{a:Act}{K:Act->World->Prop}{Q:Exit->Act->World->Prop}(d s:Operand)(t t':TypeId)
  (ho:o.op=.call { callee:=.builtin .copy,args:=#[d,s],argTypes:=#[t,t'] })(v u:Value)(hd:a.eval d=v)(hs:a.eval s=u){v':Value}{w':World}
  (hr:(Builtin.copy_ #[t,t'] o.type #[v,u]).run P w=.ok v' w')(h:K (a.put o.dst v') w'):o.wp P a w K Q:=by
 unfold Oper.wp execOp;simp only [ho,resolve,invoke,builtin,Sem.run_bind,Sem.run_pure,Result.andThen_ok,List.map_toArray,List.map_cons,List.map_nil,hd,hs,hr];exact h
theorem jF (w:World){ops:Array Oper}{rest:List Oper}{o:Oper}{a:Act}{Q:Exit->Act->World->Prop}(hgd:o.guard=none)(d s:Operand)(t t':TypeId)
  (ho:o.op=.call { callee:=.builtin .copy,args:=#[d,s],argTypes:=#[t,t'] })(v u:Value)(hd:a.eval d=v)(hs:a.eval s=u){v':Value}{w':World}
  (hr:(Builtin.copy_ #[t,t'] o.type #[v,u]).run P w=.ok v' w')(h:wpList P ops Q rest (a.put o.dst v') w'):wpList P ops Q (o :: rest) a w :=
 wpList_plain hgd fun _ hK=>pE w d s t t' ho v u hd hs hr (hK _ _ h)
theorem lD {ops:Array Oper}{o:Oper}{a:Act}{w:World}{K:Act->World->Prop}{Q:Exit->Act->World->Prop}{E:Prop}
  (hg:o.guard=none)(d x:Operand)(dT sT:TypeId)(hop:o.op=Op.call { callee:=Callee.builtin Builtin.copy,args:=#[d,x],argTypes:=#[dT,sT] })
  (v u:Value)(hd:a.eval d=v)(hx:a.eval x=u){v':Value}{w':World}(hr:(Builtin.copy_ #[dT,sT] o.type #[v,u]).run P w=.ok v' w')(hK:K (a.put o.dst v') w') :
  if Region.wanted o (yielded ops a.tmps)=true then Oper.wp P o a w K Q else E:=by
 have hw:Region.wanted o (yielded ops a.tmps)=true:=dr;rw [if_pos hw];exact pE w d x dT sT hop v u hd hx hr hK
end
theorem mN (w ty b o dLen dCap a sLen sCap k)(cs cur:List Value)(hB:Blk w b 102 cur.toArray)(hn:k=Nat.min sLen dLen)(hl:cs=k*6)
  (hsrc:∀ j v,cs[j]?=some v->w.cell? (a.add j)=some v)(ho:o+k*6<=cur)(h1:∀ v ∈ cs,v.oneCell'=true) :
  (Builtin.copy_ #[93,93] ty #[.slice (qt b o) dLen dCap,.slice (some a) sLen sCap]).run Tryz.prog w=.ok (goInt k) (w.setCells b o cs):=by
 obtain ⟨i0,hi,hz0,hz1,hz2⟩:=info_parts Tryz.info102;have hf:=run_firstCells_some (P:=Tryz.prog) w 6 k a sLen sCap cs hl hsrc;have hst:=run_storeCells_cells (P:=Tryz.prog) b o cs 0 w (fun j hj=>by rw [Nat.add_zero,hB.cell];simp;omega) (fun j hj=>by rw [Nat.add_zero];exact hB.frozen _) h1;rw [Nat.add_zero] at hst;simp [Builtin.copy_,run_underlying Tryz.underlying93,Builtin.lenOf,sizeOf,typeInfo,hi,hz1,<- hn,hf,hst]
def aV4 (g n cap i:Nat)(cur us:List Value)(w:World)(e:Ending)(w':World):Prop:=e=.returned (.slice (qp g) (n+1) cap) ∧
 ∃ cur':List Value,Blk w' g 102 cur'.toArray∧cur'.length=cap*6∧cur'.take ((n+1)*6)=cur.take (i*6) ++ us ++ (cur.take (n*6)).drop (i*6)∧Fr (fun k=>k=g) w w'
theorem aE0 {cur us:List Value}{i n cap:Nat}(hu:us.length=6)(hi:i<n)(hn:n<cap)(hcl:cur=cap*6)(c1 c2)
  (h1:c1=cur.take ((i+1)*6) ++ (cur.take (n*6)).drop (i*6) ++ cur.drop ((i+1)*6+(n - i)*6))
  (h2:c2=c1.take (i*6) ++ us ++ c1.drop (i*6+6)) :
  c2.length=cap*6∧c2.take ((n+1)*6)=cur.take (i*6) ++ us ++ (cur.take (n*6)).drop (i*6):=by
 have hs:((cur.take (n*6)).drop (i*6))=(n - i)*6:=by simp only [am,ak];omega
 have hL:c1=cap*6:=by rw [h1];simp only [aa,hs,ak,am];omega
 have ht:c1.take (i*6)=cur.take (i*6):=by
  rw [h1,ah,List.take_append_of_le_length em,List.take_take,Nat.min_eq_left I]
 have hd:c1.drop (i*6+6)=(cur.take (n*6)).drop (i*6) ++ cur.drop ((i+1)*6+(n - i)*6):=by
  rw [h1,ah,List.drop_left' em]
 refine ⟨by rw [h2];simp only [aa,ak,am,hu];omega,?_⟩;rw [h2,ht,hd,<- ah,List.take_left' (by simp only [aa,hs,ak,hu];omega)]
theorem aCf (g n cap i vb vc:Nat)(tv)(cur us:List Value)(w)(hB:Blk w g 102 cur.toArray)(hV:Blk w vb tv us.toArray)(hne:vb ≠ g)(hu:us.length=6)(hcl:cur=cap*6)(hn:n<cap)(hi:i<n)(hnn:n<=100000)(hcap:cap<=9223372036854775807)
  (h1:∀ u ∈ cur.take (n*6),u.oneCell'=true)(h1u:∀ u ∈ us,u.oneCell'=true) :
  qg 102 #[.slice (qp g) n cap,↑i,.slice (qp vb) 1 vc] w (aV4 g n cap i cur us w):=by
 obtain ⟨i0,hi0,hz0,hz1,hz2⟩:=info_parts Tryz.info102;have hz:∀ w,(Go.sizeOf 102).run Tryz.prog w=.ok 6 w:=fun w=>by simp [Go.sizeOf,typeInfo,hi0,hz1]
 have hov:∀ lb cb,(callFunc 148 #[.slice (qp vb) 1 vc,.slice (qt g ((i+1)*6)) lb cb]).run Tryz.prog w=.ok (.value false) w:=fun lb cb=>by
  rw [run_callFunc_extern Tryz.func148 U U U (e:=Extern.SlicesOverlaps.overlaps #[93,93] #[4]) U,
   Lib.run_overlaps_apart w 93 4 102 Tryz.underlying93 6 hz (qp vb) (qt g ((i+1)*6)) 1 vc lb cb hne tv 102 us.toArray.size cur.toArray.size (by unfold Blk at hV;simp [World.shape?,hV]) (by unfold Blk at hB;simp [World.shape?,hB]) (by simp only [List.size_toArray];omega) (hV.frozen _) (hV.frozen _)]
  rfl
 obtain ⟨cs,hcs⟩:∃ cs,cs=(cur.take (n*6)).drop (i*6):=⟨_,rfl⟩;have hsl:cs.length=(n - i)*6:=by rw [hcs];simp only [am,ak];omega
 have hcp1:∀ ty dc sc,(Builtin.copy_ #[93,93] ty #[.slice (qt g ((i+1)*6)) (n+1 - (i+1)) dc,.slice (qt g (i*6)) (n+1 - i) sc]).run Tryz.prog w.drew=.ok (goInt ((n - i:Nat):Int)) (w.drew.setCells g ((i+1)*6) cs):=fun ty dc sc =>
  mN w.drew ty g ((i+1)*6) _ dc (qt g (i*6)) _ sc (n - i) cs cur hB.drew fe hsl (fun j v hj=>by
   rw [dH,fI,hB.cell];rw [hcs,List.getElem?_drop,List.getElem?_take] at hj;split at hj
   ·simpa using hj
   ·cases hj) I (fun v hv=>h1 v (by rw [hcs] at hv;exact List.mem_of_mem_drop hv))
 have hB1:=aG cs (w:=w.drew) ((i+1)*6) hB.drew I;have hV1:Blk (w.drew.setCells g ((i+1)*6) cs) vb tv us.toArray:=Blk.farCells hne cs _ hV.drew;have hF1:Fr (fun k=>k=g) w (w.drew.setCells g ((i+1)*6) cs):=((au _ w).drew).setCells cs _ (.inl rfl);rw [hsl] at hB1;obtain ⟨c1,hc1⟩:∃ c1,c1=cur.take ((i+1)*6) ++ cs ++ cur.drop ((i+1)*6+(n - i)*6):=⟨_,rfl⟩;rw [<- hc1] at hB1;have hl1:c1.length=cap*6:=by rw [hc1];simp only [aa,ak,am];omega
 have hcp2:∀ ty dc,(Builtin.copy_ #[93,93] ty #[.slice (qt g (i*6)) (n+1 - i) dc,.slice (qp vb) 1 vc]).run Tryz.prog (w.drew.setCells g ((i+1)*6) cs)=.ok (goInt ((1:Nat):Int)) ((w.drew.setCells g ((i+1)*6) cs).setCells g (i*6) us):=fun ty dc =>
  mN _ ty g (i*6) _ dc (qp vb) _ vc 1 us c1 hB1 fe I (fun j v hj=>by
   rw [dH,Nat.zero_add];exact hV1.cell' j jo) I h1u
 have hB2:=aG us (w:=w.drew.setCells g ((i+1)*6) cs) (i*6) hB1 I;have hF2:=hF1.setCells us (i*6) (.inl rfl);have hfin:=aE0 hu hi hn hcl c1 _ (by rw [hc1,hcs]) rfl;have HB2:=a4b hB2;have HF2:=a4b hF2;have HFIN:=a4b hfin;have HC1:=a4b hcp1;have HC2:=a4b hcp2;have HOV:=a4b hov;have HU:=a4b hu;clear hB hV hne hcl h1 h1u hi0 hz0 hz1 hz2 hz hov hcs hsl hcp1 hcp2 hB1 hV1 hF1 hc1 hl1 hB2 hF2 hfin hu;have hi1:(0:Int)<=(i:Int):=by omega
 have hi2:(i:Int)<=(n:Int):=I;have hi3:((i:Int)+1).toNat=i+1:=I;have hi4:((n:Int)+1).toNat=n+1:=I;have hi6:(i:Int)<=(n:Int)+1:=I;have hi7:¬ (cap=i):=I;have hi8:¬ (cap=i+1):=I;have hi9:(0:Int)<=(i:Int)+1:=I;have hi10:(i:Int)+1<=(n:Int)+1:=I;go_enter Tryz.func102,Tryz.ntmps102;go_wp2_with (simp only [HOV.out]);have hw1:IntKind.i64.wrap ((i:Int)+1)=(i:Int)+1:=by rw [IntKind.wrap_i64];omega
 go_region_law (refine lD rfl (.tmp 73) (.tmp 76) 93 93 rfl (.slice (qt g ((i+1)*6)) (n+1 - (i+1)) (cap - (i+1))) (.slice (qt g (i*6)) (n+1 - i) (cap - i)) (by simp [Act.eval,Act.put]) (by simp [Act.eval,Act.put]) (HC1.out _ _ _) ?_);clear hw1;generalize w.drew.setCells g ((i+1)*6) cs=W1 at *;go_wp2_with (with_reducible refine jF _ rfl (.tmp 80) (.tmp 81) 93 93 rfl (.slice (qt g (i*6)) (n+1 - i) (cap - i)) (.slice (qp vb) 1 vc) rfl rfl (HC2.out _ _) ?_);go_ret;have h:=HB2.out;rw [HU.out] at h;exact ⟨rfl,_,h,HFIN.out.1,HFIN.out.2,HF2.out⟩
def aJf (n i:Nat)(cur us:List Value)(w:World)(e:Ending)(w':World):Prop:=∃ cap,e=.returned (.slice (qp w) (n+1) cap)∧n+1<=cap∧cap<=maxLen ∧
 ∃ cur':List Value,Blk w' w 102 cur'.toArray∧cur'.length=cap*6∧cur'.take ((n+1)*6)=cur.take (i*6) ++ us ++ (cur.take (n*6)).drop (i*6)∧Ext w w'
theorem aBw {row us cs pre:List Value}{i n cap:Nat}(hu:us.length=6)(hi:i<n)(hn:n<cap)(hrl:row=cap*6)(hp:row.take (i*6)=pre)(hpl:pre=i*6)(hs:cs=(n - i)*6)(c1 c2)
  (h1:c1=row.take (i*6) ++ us ++ row.drop (i*6+6))
  (h2:c2=c1.take ((i+1)*6) ++ cs ++ c1.drop ((i+1)*6+(n - i)*6)) :
  c1.length=cap*6∧c2=cap*6∧c2.take ((n+1)*6)=pre ++ us ++ cs:=by
 have hL:c1=cap*6:=by rw [h1];simp only [aa,hu,ak,am];omega
 have ht:c1.take ((i+1)*6)=pre ++ us:=by
  rw [h1,hp,List.take_left' ij]
 refine ⟨hL,by rw [h2];simp only [aa,ak,am,hs];omega,?_⟩;rw [h2,ht,List.take_left' (by simp only [aa,hs,hu];omega)]
theorem aCg (g n cap i vb vc:Nat)(tv)(cur us:List Value)(w)(hB:Blk w g 102 cur.toArray)(hV:Blk w vb tv us.toArray)(hu:us.length=6)(hcl:cur=cap*6)(hn:n=cap)(hi:i<n)(hnn:n<=100000)
  (h1:∀ u ∈ cur.take (n*6),u.oneCell'=true)(h1u:∀ u ∈ us,u.oneCell'=true) :
  qg 102 #[.slice (qp g) n cap,↑i,.slice (qp vb) 1 vc] w (aJf n i cur us w):=by
 subst hn;obtain ⟨i0,hi0,hz0,hz1,hz2⟩:=info_parts Tryz.info102
 have hold:(Builtin.firstCells i0.size i (.slice (qp g) i n)).run Tryz.prog w.drew=.ok (cur.take (i*6)).toArray w.drew:=by
  rw [hz1]
  exact run_firstCells_some w.drew 6 i (qp g) i n (cur.take (i*6)) em (fun j v hj=>by
   rw [dH,Nat.zero_add,fI,hB.cell];rw [List.getElem?_take] at hj;split at hj
   ·simpa using hj
   ·cases hj)
 have hkk:(n:Int)+1 - (i:Int)=((n+1 - i:Nat):Int):=I;have hik:i+(n+1 - i)=n+1:=I;have hrz:=fun ty=>Lib.run_append_grow_zeros w 93 3 ty 102 i0 _ .i64 .i64 Tryz.underlying93 Tryz.underlying3 hi0 hz0 (qp g) i n (cur.take (i*6)) hold (n+1 - i) I I I I fo (by rw [hz2,hik];exact growslice_fits I I)
 simp only [hik] at hrz;simp only [<- hkk] at hrz;have hGn:n+1<=grownCap w (n+1) n 102:=grownCap_ge w _ _ _;have hGm:grownCap w (n+1) n 102<=maxLen:=grownCap_le_maxLen w (n+1) n 102 di;generalize grownCap w (n+1) n 102=G at *;obtain ⟨row,hrow⟩:∃ row:List Value,row=((cur.take (i*6)).toArray ++ Builtin.zeroCells (Value.agg #[qn,qz,qz,qz,false,qz]).cells (n+1 - i) ++ Builtin.zeroCells (Value.agg #[qn,qz,qz,qz,false,qz]).cells (G - (n+1))).toList:=⟨_,rfl⟩;have hrow':((cur.take (i*6)).toArray ++ Builtin.zeroCells (Value.agg #[qn,qz,qz,qz,false,qz]).cells (n+1 - i) ++ Builtin.zeroCells (Value.agg #[qn,qz,qz,qz,false,qz]).cells (G - (n+1)))=row.toArray:=by rw [hrow]
 have hzl:∀ k,(Builtin.zeroCells (Value.agg #[qn,qz,qz,qz,false,qz]).cells k).size=k*6:=fun k=>by
  have h6:(Value.agg #[qn,qz,qz,qz,false,qz]).cells.size=6:=U;simp [Builtin.zeroCells,h6]
 have hrl:row=G*6:=by
  rw [hrow];simp only [Array.length_toList,Array.size_append,hzl,List.size_toArray,ak];omega
 have hrp:row.take (i*6)=cur.take (i*6):=by
  rw [hrow,Array.toList_append,Array.toList_append,ah,List.take_left' (by simp only [ak];omega)]
 rw [hrow'] at hrz;obtain ⟨W1,hW1⟩:∃ W1,W1=w.drew.alloc (qk row.toArray 102):=⟨_,rfl⟩;rw [<- hW1] at hrz;have hN:Blk W1 w 102 row.toArray:=by rw [hW1];exact aw w.drew 102 row.toArray
 have hE:Ext w W1:=by rw [hW1];exact ((aq w).drew').alloc' _
 clear hrow hrow' hW1 hzl hold hkk hik hi0 hz0 hz1 hz2;obtain ⟨cs,hcs⟩:∃ cs,cs=(cur.take (n*6)).drop (i*6):=⟨_,rfl⟩;have hsl:cs.length=(n - i)*6:=by rw [hcs];simp only [am,ak];omega
 have hgl:=hB.lt;have hvl:=hV.lt;have hBW:=hB.ext hE;have hVW:=hV.ext hE;obtain ⟨N,hNe⟩:∃ N,N=w.heap.size:=⟨_,rfl⟩;rw [<- hNe] at hN hrz hgl hvl
 have hcp1:∀ ty dc,(Builtin.copy_ #[93,93] ty #[.slice (qt N (i*6)) (n+1 - i) dc,.slice (qp vb) 1 vc]).run Tryz.prog W1=.ok (goInt ((1:Nat):Int)) (W1.setCells N (i*6) us):=fun ty dc =>
  mN W1 ty N (i*6) _ dc (qp vb) _ vc 1 us row hN fe I (fun j v hj=>by
   rw [dH,Nat.zero_add];exact hVW.cell' j jo) I h1u
 have hB1:=aG us (w:=W1) (i*6) hN I;rw [hu] at hB1;have hG1:Blk (W1.setCells N (i*6) us) g 102 cur.toArray:=Blk.farCells I us _ hBW;have hfin:=aBw hu hi I hrl hrp em hsl _ _ rfl rfl;obtain ⟨c1,hc1⟩:∃ c1,c1=row.take (i*6) ++ us ++ row.drop (i*6+6):=⟨_,rfl⟩;rw [<- hc1] at hB1 hfin;obtain ⟨W2,hW2⟩:∃ W2,W2=W1.setCells N (i*6) us:=⟨_,rfl⟩;have hF2:Fr (fun k=>k=N) w W2:=by rw [hW2];exact (ar hE).setCells us _ (.inl rfl)
 rw [<- hW2] at hcp1 hB1 hG1
 have hcp2:∀ ty dc sc,(Builtin.copy_ #[93,93] ty #[.slice (qt N ((i+1)*6)) (n+1 - (i+1)) dc,.slice (qt g (i*6)) (n - i) sc]).run Tryz.prog W2.drew=.ok (goInt ((n - i:Nat):Int)) (W2.drew.setCells N ((i+1)*6) cs):=fun ty dc sc =>
  mN W2.drew ty N ((i+1)*6) _ dc (qt g (i*6)) _ sc (n - i) cs c1 hB1.drew fe hsl (fun j v hj=>by
   rw [dH,fI,hG1.cell];rw [hcs,List.getElem?_drop,List.getElem?_take] at hj;split at hj
   ·simpa using hj
   ·cases hj) (by rw [hfin.1];omega) (fun v hv=>h1 v (by rw [hcs] at hv;exact List.mem_of_mem_drop hv))
 have hB2:=aG cs (w:=W2.drew) ((i+1)*6) hB1.drew (by rw [hfin.1];omega);rw [hsl] at hB2;have hF3:=(hF2.drew).setCells cs ((i+1)*6) (.inl rfl)
 have HRES:=a4b (show aJf n i cur us w (.returned (.slice (qp N) (n+1) G)) (W2.drew.setCells N ((i+1)*6) cs) from
  ⟨G,by rw [hNe],hGn,hGm,_,by rw [<- hNe];exact hB2,hfin.2.1,by rw [hfin.2.2,hcs],hF3.new_ext (fun k hk=>by omega)⟩)
 have HC1:=a4b hcp1;have HC2:=a4b hcp2;have HRZ:=a4b hrz;clear hB hV hu hcl h1 h1u hGm hrl hrp hrz hN hE hcs hsl hBW hVW hcp1 hcp2 hB1 hG1 hfin hc1 hW2 hF2 hB2 hF3 hNe;have hi1:(0:Int)<=(i:Int):=by omega
 have hi2:(i:Int)<=(n:Int):=I;have hi3:((i:Int)+1).toNat=i+1:=I;have hi5:(n:Int)<(n:Int)+1:=I;have hi6:(i:Int)<=(n:Int)+1:=I;have hi7:¬ (n=i):=I;have hi8:¬ (G=i+1):=I;have hi11:¬ (G=i):=I;have hi9:(0:Int)<=(i:Int)+1:=I;have hi10:(i:Int)+1<=(n:Int)+1:=I;go_enter Tryz.func102,Tryz.ntmps102;go_wp2_with (first | (at_builtin;refine Lib.wpList_append_run _ rfl _ _ _ _ rfl _ _ rfl rfl _ _ (HRZ.out _) ?_) | (with_reducible refine jF _ rfl (.tmp 43) (.tmp 44) 93 93 rfl (.slice (qt N (i*6)) (n+1 - i) (G - i)) (.slice (qp vb) 1 vc) rfl rfl (HC1.out _ _) ?_));have hw1:IntKind.i64.wrap ((i:Int)+1)=(i:Int)+1:=by rw [IntKind.wrap_i64];omega
 go_region_law (refine lD rfl (.tmp 50) (.tmp 53) 93 93 rfl (.slice (qt N ((i+1)*6)) (n+1 - (i+1)) (G - (i+1))) (.slice (qt g (i*6)) (n - i) (n - i)) (by simp [Act.eval,Act.put]) (by simp [Act.eval,Act.put]) (HC2.out _ _ _) ?_);clear hw1;go_wp2_with fail;go_ret;exact HRES.out
def aZi (ve:Value)(n i:Nat)(xs us:List Value)(w:World)(e:Ending)(w':World):Prop:=∃ v',e=.returned v'∧w'.ownsRow 0 102 6 v' (n+1) (xs.take (i*6) ++ us ++ xs.drop (i*6)) ∧
 Fr (fun k=>some k=ve.ownBlock) w w'∧(v'.ownBlock=ve.ownBlock∨v'.ownBlock=some w.heap.size)
theorem aFj (ve)(n vb vc:Nat)(tv xs us w)(hO:w.ownsRow 0 102 6 ve n xs)(hV:Blk w vb tv us.toArray)(hu:us.length=6)(hnn:n<=100000)(h1u:∀ u ∈ us,u.oneCell'=true) :
  qg 102 #[ve,↑n,.slice (qp vb) 1 vc] w (aZi ve n n xs us w):=by
 obtain ⟨i0,hi0,hz0,hz1,hz2⟩:=info_parts Tryz.info102;have hS:Sl w (fun k=>k=vb) 6 (qp vb) 1 us:=⟨I,fun _=>⟨vb,0,rfl,rfl,fun j u hj=>by rw [Nat.zero_add];exact hV.cell' j jo⟩⟩;have hxl:=hO.1;have hxt:xs.take (n*6)=xs:=an I;have hxd:xs.drop (n*6)=[]:=List.drop_eq_nil_of_le I;have HO:=a4b hO;have HS:=a4b hS;have HI:=a4b hi0;have H1:=a4b h1u;have HXT:=a4b hxt;have HXD:=a4b hxd;have hfin:∀ v' w',w'.ownsRow 0 102 6 v' (n+1) (xs ++ us)->Fr (fun k=>some k=ve.ownBlock) w w'->(v'.ownBlock=ve.ownBlock∨v'.ownBlock=some w.heap.size)->aZi ve n n xs us w (.returned v') w':=fun v' w' a b c=>⟨v',rfl,by rw [hxt,hxd,List.append_nil];exact a,b,c⟩
 have HF:=a4b hfin
 obtain ⟨A,c,rfl,hA,hnc,hc63⟩:∃ A c,ve=.slice A n c∧(A=none->n=0∧c=0)∧n<=c∧c<=9223372036854775807:=by
  rcases hO.2 with ⟨h1,h2⟩ | ⟨g,cap,cur,h1,-,-,h4,h5,-⟩
  ·subst h2;exact ⟨none,0,h1,fun _=>⟨rfl,rfl⟩,ab _,I⟩
  ·exact ⟨_,cap,h1,fun h=>by simp at h,h4,gu⟩
 clear hO hV hu h1u hi0 hS hxl hxt hxd hfin;have t1:(0:Int)<=(n:Int):=by omega
 cases A with
 | none =>
  obtain ⟨rfl,rfl⟩:=hA rfl;go_enter Tryz.func102,Tryz.ntmps102;go_wp2_with (at_builtin;go_must (refine aN _ rfl (.tmp 23) (.tmp 24) 93 ba 0 102 i0 _ 6 64 Tryz.underlying93 HI.out hz0 hz1 hz2 U I qn 0 xs rfl HO.out (fun k=>k=vb) (qp vb) 1 vc us rfl HS.out H1.out I I I ?_);intro v1 w1 ho1 hb1 hc1;have HR:=a4b (HF.out v1 w1 ho1 hb1 hc1);clear ho1 hb1 hc1);go_ret;exact HR.out
 | some A =>
  by_cases hc:c=n
  ·subst hc
   go_enter Tryz.func102,Tryz.ntmps102;go_wp2_with (at_builtin;go_must (refine aN _ rfl (.tmp 23) (.tmp 24) 93 ba 0 102 i0 _ 6 64 Tryz.underlying93 HI.out hz0 hz1 hz2 U I (.slice (some A) c c) c xs rfl HO.out (fun k=>k=vb) (qp vb) 1 vc us rfl HS.out H1.out I I I ?_);intro v1 w1 ho1 hb1 hc1;have HR:=a4b (HF.out v1 w1 ho1 hb1 hc1);clear ho1 hb1 hc1);go_ret;exact HR.out
  ·go_enter Tryz.func102,Tryz.ntmps102
   go_wp2_with (at_builtin;go_must (refine aN _ rfl (.tmp 23) (.tmp 24) 93 ba 0 102 i0 _ 6 64 Tryz.underlying93 HI.out hz0 hz1 hz2 U I (.slice (some A) n c) n xs rfl HO.out (fun k=>k=vb) (qp vb) 1 vc us rfl HS.out H1.out I I I ?_);intro v1 w1 ho1 hb1 hc1;have HR:=a4b (HF.out v1 w1 ho1 hb1 hc1);clear ho1 hb1 hc1);go_ret;exact HR.out
theorem aFk (ve)(n i vb vc:Nat)(tv xs us w)(hO:w.ownsRow 0 102 6 ve n xs)(hV:Blk w vb tv us.toArray)(hne:some vb ≠ ve.ownBlock)(hu:us.length=6)(hi:i<=n)(hnn:n<=100000)
  (h1:∀ u ∈ xs,u.oneCell'=true)(h1u:∀ u ∈ us,u.oneCell'=true) :
  qg 102 #[ve,↑i,.slice (qp vb) 1 vc] w (aZi ve n i xs us w):=by
 by_cases hin:i=n
 ·subst hin;exact aFj ve i vb vc tv xs us w hO hV hu hnn h1u
 rcases hO with ⟨hxl,⟨h2,h3⟩ | ⟨g,cap,cur,rfl,-,h3,h4,h5,h6,h7⟩⟩
 ·omega
 have hB:Blk w g 102 cur.toList.toArray:=by unfold Blk;simpa using h3
 have hcl:cur.toList=cap*6:=jp;have hgv:vb ≠ g:=fun h=>hne (by simp [Value.ownBlock,h])
 have h63:cap<=9223372036854775807:=gu;have h1':∀ u ∈ cur.toList.take (n*6),u.oneCell'=true:=by rw [h7];exact h1
 have ht:cur.toList.take (i*6)=xs.take (i*6):=by rw [<- h7,List.take_take,Nat.min_eq_left I]
 have hlen:(xs.take (i*6) ++ us ++ xs.drop (i*6)).length=(n+1)*6:=by simp only [aa,ak,am];omega
 rcases Nat.lt_or_ge n cap with hc | hc
 ·refine (aCf g n cap i vb vc tv cur.toList us w hB hV hgv hu hcl hc I hnn h63 h1' h1u).mono ?_
  rintro e w' ⟨rfl,cur',hB',hl',ht',hF⟩;refine ⟨_,rfl,⟨hlen,.inr ⟨g,cap,cur'.toArray,rfl,af _,hB',I,h5,by simpa using hl',?_⟩⟩,?_,.inl rfl⟩
  ·show cur'.take ((n+1)*6)=_
   rw [ht',ht,h7]
  ·exact ⟨hF.os,hF.tape,hF.output,hF.size,fun k hk hm=>hF.block k hk (fun e=>hm (by simp [Value.ownBlock,e]))⟩
 ·refine (aCg g n cap i vb vc tv cur.toList us w hB hV hu hcl I I hnn h1' h1u).mono ?_
  rintro e w' ⟨cap',rfl,hc1,hc2,cur',hB',hl',ht',hE⟩;refine ⟨_,rfl,⟨hlen,.inr ⟨_,cap',cur'.toArray,rfl,af _,hB',hc1,hc2,by simpa using hl',?_⟩⟩,ar hE,.inr rfl⟩;show cur'.take ((n+1)*6)=_;rw [ht',ht,h7]
