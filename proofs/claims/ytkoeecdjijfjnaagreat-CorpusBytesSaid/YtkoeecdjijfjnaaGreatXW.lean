/- CorpusBytes: for every input the law returns true, and each argument reads behind the call as it read before. Conditions: none besides the statement's own. -/
import Derived.ProofKit
import Derived.OpenShut
import Derived.SizedLaws
import Derived.Test.YtkoeecdjijfjnaaGreatRows
import Derived.Test.YtkoeecdjijfjnaaGreatXT
import Derived.Test.YtkoeecdjijfjnaaGreatMB
set_option linter.all false
set_option maxRecDepth 100000
set_option maxHeartbeats 8000000
namespace Go.Proofs.YtkoeecdjijfjnaaGreat
open Go.RowKit
noncomputable def aXt:=RG Tryz.f29 0
noncomputable def aXs:=RG Tryz.f29 1
noncomputable def aXr:=RG Tryz.f29 2
noncomputable def aXq:=RG Tryz.f29 3
noncomputable def aXp:=RG Tryz.f29 4
noncomputable def aXo:=RG Tryz.f29 5
noncomputable def aXn:=RG Tryz.f29 6
noncomputable def aXm:=RG Tryz.f29 7
noncomputable def aXl:=RG Tryz.f29 8
noncomputable def aXk:=RG Tryz.f29 9
noncomputable def aSk:=RG Tryz.f29 10
noncomputable def aSj:=RG Tryz.f29 11
noncomputable def aSi:=RG Tryz.f29 12
noncomputable def aSh:=RG Tryz.f29 13
noncomputable def aSg:=RG Tryz.f29 14
noncomputable def aSf:=RG Tryz.f29 15
section
variable {Q:Exit->Act->World->Prop}{a:Act}{w:World}{mx my n c d k m:Nat}{A:Option Addr}{b:Bool}{z:Int}{v:Value}{Z:Nat->Prop}
end
noncomputable abbrev aZa:Code:=.seq (.seq aXq (.cond (.tmp 16) .skip (.exit 0))) (.seq (.block 1 (.seq aXo (.seq aXn (.cond (.tmp 28) aXm .skip)))) aXp)
noncomputable abbrev aY9:Code:=.seq (.seq aSj (.cond (.tmp 45) .skip (.exit 2))) (.seq (.block 3 (.seq aSh (.cond (.tmp 54) aSg .skip))) aSi)
noncomputable abbrev a0p:Code:=.seq aXt (.seq aXs (.seq (.seq aXr (.block 0 (.loop aZa))) (.seq aXl (.seq aXk (.seq (.seq aSk (.block 2 (.loop aY9))) (.seq aSf .ret))))))
section
variable {t t':List GN}{vn vo:Value}{b b':Int}{L M:List GE}{mx my:Nat}{P:Nat->Prop}{v v':Value}{w w':World}{a:Act}{R:Exit->Act->World->Prop}{d:Nat}{A:Option Addr}
def I29 (t t':List GN)(vn vo:Value)(b b':Int)(L M:List GE)(mx my:Nat)(P:Nat->Prop)(v v':Value)(w:World)(k:Nat)(a0 a:Act)(wr:World):Prop :=
 ∃ v1 vr,a.tmps.size=a0.tmps.size∧a.defers=a0.defers∧k<=M∧qq a 0 (qp mx)∧qq a 1 (qp my)∧qq a 5 vr∧qq a 6 (k:Int) ∧
  MAt t vn b (mg L (M.take k)).1 mx P v1 wr∧Fr (mM mx v) w wr∧(∀ q,mM mx v1 q->mM mx v q∨w<=q)∧MAt t' vo b' M my P v' wr∧Pth wr w P vr (mg L (M.take k)).2∧(∀ q,vr.ownBlock=some q∨mM my v' q->¬ mM mx v1 q)
def a08 (t:List GN)(vn:Value)(b:Int)(L':List GE)(m:Nat)(P:Nat->Prop)(v:Value)(w w':World):Prop :=
 ∃ v',MAt t vn b L' m P v' w'∧Fr (mM m v) w w'∧∀ q,mM m v' q->mM m v q∨w<=q
def a39 (L':List GE)(ps:List (List Int))(A:Option Addr)(d:Nat)(mx:Nat)(k:Nat)(a0 a:Act)(ws w:World):Prop :=
 a.tmps.size=a0.tmps.size∧a.defers=a0.defers∧k<=ps∧qq a 0 (qp mx)∧qq a 5 (.slice A ps d)∧qq a 8 (.int .i64 ((aY6 L' (ps.take k):Nat):Int))∧qq a 9 (k:Int)∧Ext ws w
end
end Go.Proofs.YtkoeecdjijfjnaaGreat
namespace Go.Proofs.YtkoeecdjijfjnaaGreat
open Go.RowKit
noncomputable def aX6:=RG Tryz.f27 0
noncomputable def aSy:=RG Tryz.f27 1
noncomputable def aSx:=RG Tryz.f27 2
noncomputable def aX5:=RG Tryz.f27 3
noncomputable def aSw:=RG Tryz.f27 4
noncomputable def aPr:=RG Tryz.f27 5
noncomputable def aPq:=RG Tryz.f27 6
noncomputable def aX4:=RG Tryz.f27 7
section
variable {Q:Exit->Act->World->Prop}{a:Act}{w:World}{gt m n c i most:Nat}{b:Int}{A:Option Addr}{vn vl:Value}{t:List GN}{l:List Int}{R:World->Prop}
theorem aO3 (hsz:a.tmps.size=44)(e4:qq a 4 (qp gt))(e1:qq a 1 b)(c4:qc w gt 0 (.slice A n c))
  (h:∀ a',Ag [2,3,4] a a'->qq a' 9 (qp w)->Q .normal a' (w.alloc (qk #[.slice A n c,↑b,qn] 35))):qw aSy Q a w:=by
 refine rW ?_;iterate 5 refine lV ?_
 exact bS (h _ Y av)
theorem aO2 (hsz:a.tmps.size=44)(e4:qq a 4 (qp gt))(e2:qq a 2 vl)(e3:qq a 3 (most:Int))(c4:qc w gt 0 vn){S}(hc:qg 11 #[.agg #[vn],vl,↑(most:Int)] w (qT t l S most w))
  (h:∀ a' A c gs w',Ag [9] a a'->Gvs w' (fun b=>b<w'.heap.size∧S b) (.slice A gs.length c) gs->gs<=most->Ext w w'->lK t l most gs->qq a' 10 (.slice A gs c)->Q .normal a' w'):qw aSx Q a w:=by
 refine rW ?_;iterate 3 refine lV ?_
 refine l_c rfl rfl rfl Tryz.func11 ba ba hc av ?_;rintro e w' ⟨A,c,gs,rfl,h1,h2,h3,h4⟩;refine ⟨_,rfl,?_⟩;iterate 1 refine l_v rfl rfl (by simp [execOp,go_sem,hsz];exact ⟨rfl,rfl⟩) ?_
 exact bS (h _ A c gs w' Y h1 h2 h3 h4 dg)
theorem aO1 (hsz:a.tmps.size=44)(e10:qq a 10 (.slice A n c))(e11:qq a 11 (i:Int))(h:∀ a',Ag [9,10,11] a a'->qq a' 23 (decide (i<n))->Q .normal a' w):qw aSw Q a w:=by
 refine rW ?_;iterate 4 refine lV ?_
 exact bS (h _ Y av)
theorem aO0 (hsz:a.tmps.size=44)(e11:qq a 11 (i:Int))(hw:IntKind.i64.wrap ((i:Int)+1)=(i:Int)+1)(h:∀ a',Ag [9,10] a a'->qq a' 11 (.int .i64 ((i+1:Nat):Int))->Q .normal a' w):qw aPr Q a w:=by
 refine rW ?_;iterate 3 refine lV ?_
 exact bS (h _ Y av)
theorem aOz {bg og d x A'}{r1:Bool}{r2:Int}(hsz:a.tmps.size=44)(e9:qq a 9 (qp m))(e10:qq a 10 (.slice (qt bg og) n c))(e11:qq a 11 (i:Int))(hi:(i:Int)<(n:Int))(hG:∀ w',Ext w w'->GS bg (og+i*5) x A' d w')
  (hc2:∀ w1,Ext w w1->Calls Tryz.prog 14 #[qp m,.slice A' x.path d,.agg #[x.kind,x.at_,x.code],x.fresh] w1 fun e w'=>e=.returned (.tuple #[r1,↑r2])∧R w'∧GS bg (og+i*5) x A' d w')
  (h:∀ a' w',Ag [9,10,11] a a'->R w'->Q .normal a' w'):qw aPq Q a w:=by
 conv=>arg 2;whnf
 have hx0:Ext w w.drew:=(aq w).drew';have hS:=hG _ hx0;refine dF (GS bg (og+i*5) x A' d) (fun _=>true) 17 U U ?_;generalize w.drew=W at *;refine d_t 1 [0,1,2,3,4,5,6,7,8,9,10,11,12,13,14,15] rfl U hS ?_;iterate 16 refine t_v rfl rfl rfl (fun w hw=>by simp [execOp,go_sem,hw.1,hw.2.1,hw.2.2.1,hw.2.2.2.1,hw.2.2.2.2,hsz,e9,e10,e11,hi];rfl) ?_
 refine t_e ?_;refine d_c 16 U rfl rfl rfl rfl Tryz.func14 ba ba (hc2 W hx0) dg ?_;rintro e w2 ⟨rfl,hR,hS⟩;refine ⟨_,rfl,fun _=>hS,?_⟩;exact jN U (h _ _ Y hR)
end
noncomputable abbrev a25:Code:=.seq (.seq aSw (.cond (.tmp 23) .skip (.exit 0))) (.seq (.block 1 aPq) aPr)
noncomputable abbrev aNg:Code:=.seq aX6 (.seq aSy (.seq aSx (.seq (.seq aX5 (.block 0 (.loop a25))) (.seq aX4 .ret))))
theorem aVo:Tryz.f27.body=some aNg:=U
def aMr (t:List GN)(vn:Value)(b:Int)(l:List Int)(most:Nat)(P:Nat->Prop)(w:World)(e:Ending)(w':World):Prop :=
 ∃ gs m ve P',lK t l most gs∧e=.returned (qp m)∧MAt t vn b (fP t b gs) m P' ve w'∧(∀ q,mM m ve q->w<=q)∧(∀ q,P' q->P q∨w<=q)∧Ext w w'
section
variable {t:List GN}{vn vl:Value}{b:Int}{L:List GE}{m:Nat}{P Z:Nat->Prop}{w w1 ws:World}{a a0:Act}{gs:List GG}{Av:Option Addr}{cg most:Nat}{l:List Int}{R:Exit->Act->World->Prop}
def I27 (t:List GN)(vn:Value)(b:Int)(m:Nat)(Z:Nat->Prop)(gs:List GG)(Av:Option Addr)(cg:Nat)(a0:Act)(w:World)(k:Nat)(a:Act)(wr:World):Prop :=
 Ag [9,10] a0 a∧k<=gs∧qq a 11 (k:Int)∧∃ v,MAt t vn b (fP t b (gs.take k)) m Z v wr∧Ext w wr∧Gvs wr Z (.slice Av gs cg) gs∧∀ q,mM m v q->w<=q
theorem xT {k}(hd:∀ p:List Int,p.length<=1000000000->RdT t p)(hvl:∀ x ∈ t,x.values.length<=1000000000)(hsz:a0.tmps.size=44)(e9:qq a0 9 (qp m))(e10:qq a0 10 (.slice Av gs cg))(hlen:gs.length<=1000)(hI:I27 t vn b m Z gs Av cg a0 w k a w1)(hk:k<gs)
  (hR:∀ a' w',I27 t vn b m Z gs Av cg a0 w (k+1) a' w'->R .normal a' w'):qw (.seq (.block 1 aPq) aPr) R a w1:=by
 obtain ⟨hG,-,e11,v,hC,hE,hgv,hM⟩:=hI;have z1:=hG.sz.trans hsz;have hfl:=qM (t:=t) (b:=b) (gs:=gs) k I;have hsn:=mY (t:=t) (b:=b) hk;obtain ⟨bg,og,A1,d1,rfl,hSb,ga,gc⟩:=hgv.get hk;have hgs:=GS.of gc;have hsh:=ga.short;generalize gs.getD k default=x at *;generalize fP t b (gs.take k)=L at *
 have hsep:∀ q,Z q->¬ mM m v q:=fun q hq hm=>by
  have:=hC.excl q hq;exact hm.elim this.1 this.2
 refine wp_seq (wp_block (aOz (R:=fun w'=>cZ t vn b (lB (aL t) b L (mkE x.path x.kind x.at_ x.code x.fresh)) m Z v w1 w') (r1:=tO (aL t) b L (mkE x.path x.kind x.at_ x.code x.fresh)) (r2:=yU (aL t) (mkE x.path x.kind x.at_ x.code x.fresh)) z1 (hG.get 9 e9) (hG.get 10 e10) e11 I (fun w' h=>hgs.ext h)
  (fun w2 hx=>(aDl (f:=x.fresh) (hC.ext hx) (hd _ I) hvl (ga.path.ext hx) ga.kind ga.at_ ga.code I I).mono ?_) ?_))
 ·rintro e w' ⟨rfl,v',q1,q2,q3⟩
  have:=hx.size;have hF:Fr (mM m v) w1 w':=(ar hx).trans q2;exact ⟨rfl,⟨v',q1,hF,fun q hq=>(q3 q hq).imp id (fun h=>by omega)⟩,hgs.keep (aB.of_fr hF hsep) hSb⟩
 rintro a2 w2 g2 ⟨v2,hC2,hF2,hb2⟩;have z2:=g2.sz.trans z1;have hsE:=hE.size;refine aO0 (i:=k) z2 (g2.get 11 e11) (IntWalk.i64_in _ I) ?_;intro a3 g3 e11';refine hR _ _ ⟨hG.trans ((g2.mono rfl).trans g3),hk,e11',v2,by rw [hsn];exact hC2,((ar hE).trans hF2).new_ext hM,hgv.carry (aB.of_fr hF2 hsep) (fun _ _ h=>h),fun q hq=>?_⟩;rcases hq with hq | hq
 ·exact hM q (.inl hq)
 ·rcases hb2 q hq.symm with h | h
  ·exact hM q (.inr h.symm)
  ·omega
theorem aFr {Q:Nat->Prop}{A n c}(hd:∀ p:List Int,p.length<=1000000000->RdT t p)(hvl:∀ x ∈ t,x.values.length<=1000000000)(hv:aY t=0)(hfw:∀ x ∈ t,x.kind=3->x.kids.length<=5)(hlen:t.length<=14)(hmost:most<=1000)(hb:0<=b∧b<=1099511627776)(hP:∀ q,P q->q<w)(hQ:∀ q,Q q->q<w)(ht:Nds w P (.slice A n c) t)(hl:Ints w Q vl l)
  (hsz:a.tmps.size=44)(e0:qq a 0 (.agg #[.slice A n c]))(e1:qq a 1 b)(e2:qq a 2 vl)(e3:qq a 3 (most:Int))
  (hR:∀ a' w' gs m ve P',a'.defers=a.defers->qq a' 8 (qp m)->lK t l most gs->MAt t (.slice A n c) b (fP t b gs) m P' ve w'->(∀ q,mM m ve q->w<=q)->(∀ q,P' q->P q∨w<=q)->Ext w w'->R .ret a' w'):qw aNg R a w:=by
 refine wp_seq ?_;refine rW ?_;iterate 2 refine lV ?_
 have hx0:Ext w (w.alloc (qk #[.slice A n c] 25)):=(aq w).alloc' _;have hB0:=(aw w 25 #[.slice A n c]).cell' (u:=.slice A n c) 0 rfl;refine bS ?_;generalize ha1:Pt (Pt a 4 (qp w)) 8 (.pointer none)=a1;have z1:a1.tmps.size=44:=by subst ha1;simp [hsz]
 have d1:a1.defers=a.defers:=by subst ha1;rfl
 have f4:qq a1 4 (qp w):=by subst ha1;simp [hsz]
 have f1:qq a1 1 b:=by subst ha1;simp [e1]
 have f2:qq a1 2 vl:=by subst ha1;simp [e2]
 have f3:qq a1 3 (most:Int):=by subst ha1;simp [e3]
 clear ha1;generalize w.alloc (qk #[.slice A n c] 25)=W at *;have hs0:=hx0.size;refine wp_seq (aO3 z1 f4 f1 hB0 ?_);intro a2 g2 e9;have z2:=g2.sz.trans z1;have hx2:Ext W (W.alloc (qk #[.slice A n c,↑b,qn] 35)):=(aq W).alloc' _;have hs2:(W.alloc (qk #[.slice A n c,↑b,qn] 35)).heap.size=W.heap.size+1:=by simp
 have hBm:=aw W 35 #[.slice A n c,↑b,qn];generalize W.alloc (qk #[.slice A n c,↑b,qn] 35)=w2 at *;have hxa:=hx0.trans' hx2;refine wp_seq (aO2 (S:=fun q=>P q∨w2<=q) (t:=t) (l:=l) z2 (g2.get 4 f4) (g2.get 2 f2) (g2.get 3 f3) (aA hx2 hB0) (rF t l most P Q _ vl w2 hv hfw hlen hmost (fun q hq=>by have:=hP q hq;omega) (fun q hq=>by have:=hQ q hq;omega) (ht.ext hxa) (hl.ext hxa)) ?_);intro a4 Av cg gs w4 g4 hgv hgl hx4 hsome e10;have z4:=g4.sz.trans z2;refine wp_seq (wp_seq ?_);refine rW ?_;iterate 1 refine l_v rfl rfl (by simp [execOp,go_sem,z4];exact ⟨rfl,rfl⟩) ?_
 refine bS ?_;generalize ha5:Pt a4 11 qz=a5;have z5:a5.tmps.size=44:=by subst ha5;simp [z4]
 have d5:a5.defers=a.defers:=by subst ha5;exact ((g4.df.trans g2.df).trans d1)
 have h9:qq a5 9 (qp W):=by subst ha5;simp [g4.get 9 e9]
 have h10:qq a5 10 (.slice Av gs cg):=by subst ha5;simp [e10]
 have h11:qq a5 11 qz:=by subst ha5;simp [z4]
 clear ha5
 have hmx:∀ q,(q<w4.heap.size∧(P q∨w2<=q))->q ≠ W:=by
  intro q hq e;rcases hq.2 with h | h
  ·have:=hP q h
   omega
  ·omega
 have hM0:MAt t (.slice A n c) b [] W (fun q=>q<w4.heap.size∧(P q∨w2<=q)) qn w4 :=
  ⟨hBm.ext hx4,(ht.ext (hxa.trans' hx4)).carry (fun _ _ _=>rfl) (fun q hq h=>⟨hq,.inl h⟩),⟨[],aP _ _ _ _,fy⟩,fun q hq=>⟨hmx q hq,fc⟩,fc,by simp [mB],hb,O,O,fun q hq=>hq.1⟩
 refine wp_block (wp_loop (fun a' w'=>∃ k,I27 t (.slice A n c) b W (fun q=>q<w4.heap.size∧(P q∨w2<=q)) gs Av cg a5 w k a' w') (fun a' _=>gs.length - (intOf (Ev a' (.tmp 11))).toNat)
  ⟨0,Ag.rf,af _,h11,_,hM0,hxa.trans' hx4,hgv,fun q hm=>?_⟩ ?_)
 ·rcases hm with hm | hm
  ·omega
  ·simp [Value.ownBlock] at hm
 rintro a6 w6 ⟨k,hI⟩;obtain ⟨hG,hk,e11,v6,hC6,hE6,hgv6,hM6⟩:=id hI;have z6:=hG.sz.trans z5;refine wp_seq (wp_seq (aO1 z6 (hG.get 10 h10) e11 ?_));intro a7 g7 e23;have z7:=g7.sz.trans z6;have hG7:Ag [9,10] a5 a7:=hG.trans (g7.mono rfl);by_cases hl:k<gs
 ·refine wp_cond_true (e23.trans iy) (wp_skip ?_)
  refine xT hd hvl z5 h9 h10 I ⟨hG7,hk,g7.get 11 e11,v6,hC6,hE6,hgv6,hM6⟩ hl ?_;intro a' W' h;refine ⟨⟨k+1,h⟩,?_⟩;rw [h.2.2.1,e11];simp [intOf];omega
 ·refine wp_cond_false (e23.trans iy) (wp_exit ?_)
  obtain rfl:k=gs:=I;rw [List.take_length] at hC6;have h79:=hG7.get 9 h9;refine wp_seq ?_;refine rW ?_;iterate 2 refine l_v rfl rfl (by simp [execOp,go_sem,z7,h79];exact ⟨rfl,rfl⟩) ?_
  exact bS (wp_ret (hR _ w6 gs W v6 _ (hG7.df.trans d5) (by simp [z7]) hsome hC6 hM6 (fun q hq=>hq.2.imp id (fun h=>by omega)) hE6))
theorem aCn {Q:Nat->Prop}(hd:∀ p:List Int,p.length<=1000000000->RdT t p)(hvl:∀ x ∈ t,x.values.length<=1000000000)(hv:aY t=0)(hfw:∀ x ∈ t,x.kind=3->x.kids.length<=5)(hlen:t.length<=14)(hmost:most<=1000)(hb:0<=b∧b<=1099511627776)(hP:∀ q,P q->q<w)(hQ:∀ q,Q q->q<w)(ht:Nds w P vn t)(hl:Ints w Q vl l) :
  qg 27 #[.agg #[vn],↑b,vl,↑(most:Int)] w (aMr t vn b l most P w):=by
 obtain ⟨A,c,rfl,-,-⟩:=ht.form;refine calls_of_wp Tryz.func27 aVo (aFr hd hvl hv hfw hlen hmost hb hP hQ ht hl (by simp [Tryz.ntmps27]) ey ey ey ey ?_);intro a' w' gs m ve P' h1 h2 h3 h4 h6 h7 h8;refine bodyPost_ret (v:=qp m) ?_ h1 ⟨gs,m,ve,P',h3,rfl,h4,h6,h7,h8⟩;have h5:a'.tmps[8]?.getD undef=↑(qp m):=by rw [<- h2];simp [Ev,Act.eval]
 simp [results,Tryz.results27,go_sem,h5]
end
end Go.Proofs.YtkoeecdjijfjnaaGreat
namespace Go.Proofs.YtkoeecdjijfjnaaGreat
open Go.RowKit
section
variable {Q:Exit->Act->World->Prop}{a:Act}{w:World}{gt gs m gc:Nat}{b bu z z2:Int}{A:Option Addr}{c n i:Nat}{vn vm:Value}{R:World->Prop}{V:Value->Prop}
end
end Go.Proofs.YtkoeecdjijfjnaaGreat
namespace Go.Proofs.YtkoeecdjijfjnaaGreat
open Go.RowKit
noncomputable abbrev aZ5:Code:=.seq (.block 1 (.seq (R7 15) (.seq (R7 16) (.seq (R7 17) (.cond (.tmp 139) (.seq (R7 18) .ret) .skip))))) (R7 14)
noncomputable abbrev a24:Code:=.seq (.seq (R7 13) (.cond (.tmp 78) .skip (.exit 0))) aZ5
section
variable {t:List GN}{n1 vn:Value}{b:Int}{L:List GE}{g:CA}{m:Nat}{S:Nat->Prop}{B:Nat}{w ws:World}{a a0:Act}{gs:List GG}{Av:Option Addr}{cg:Nat}{R:Exit->Act->World->Prop}
theorem lZ.trans {w w1 w2}(h:lZ S B w w1)(h':lZ S B w1 w2):lZ S B w w2:=⟨h.fr.trans h'.fr,fun k hk hp=>(h'.keep k (ac hk h.fr.size) hp).trans (h.keep k hk hp)⟩
theorem lZ.of_ext {w w1}(h:Ext w w1):lZ S B w w1:=⟨ar h,aB.of_ext h⟩
def I7 (t:List GN)(n1 vn:Value)(b:Int)(g:CA)(m:Nat)(S:Nat->Prop)(B:Nat)(gs:List GG)(a0:Act)(ws:World)(k:Nat)(a:Act)(w:World):Prop :=
 Ag [4,5,6,18,19,20,22] a0 a∧k<=gs∧qq a 23 (k:Int)∧lZ S B ws w∧∃ L,aF8 t n1 vn b L L g m S B w∧L.length<=10+k
theorem aA5 {k}(hd:∀ p:List Int,p.length<=1000000000->RdT t p)(hvl:∀ x ∈ t,x.values.length<=1000000000)(hsz:a0.tmps.size=208)(e18:qq a0 18 (qp m))(e20:qq a0 20 (qp g.c))(e22:qq a0 22 (.slice Av gs cg))(hlen:gs.length<=20)(hgv:Gvs ws S (.slice Av gs cg) gs)
  (hI:I7 t n1 vn b g m S B gs a0 ws k a w)(hk:k<gs)(hR:∀ a' w',I7 t n1 vn b g m S B gs a0 ws (k+1) a' w'->R .normal a' w'):qw aZ5 R a w:=by
 obtain ⟨hG,-,e23,hW,L,hT,hL⟩:=hI;have z1:=hG.sz.trans hsz;have f18:=hG.get 18 e18;have f20:=hG.get 20 e20;have f22:=hG.get 22 e22;have hgw:Gvs w S (.slice Av gs cg) gs:=hgv.carry hW.keep (fun _ _ h=>h);obtain ⟨bg,og,A1,d1,rfl,hSb,ga,gc⟩:=hgw.get hk;have hgs:=GS.of gc;generalize gs.getD k default=x at *;have hsh:=ga.short;have hl1:=aEi (aL t) b L (mkE x.path x.kind x.at_ x.code x.fresh);refine wp_seq (wp_block (wp_seq (aOj (R:=fun w'=>aF8 t n1 vn b (lB (aL t) b L (mkE x.path x.kind x.at_ x.code x.fresh)) L g m S B w'∧lZ S B w w'∧GS bg (og+k*5) x A1 d1 w') (r1:=tO (aL t) b L (mkE x.path x.kind x.at_ x.code x.fresh)) (r2:=yU (aL t) (mkE x.path x.kind x.at_ x.code x.fresh)) z1 f20 f22 e23 I (fun w' h=>hgs.ext h) (fun w1 _=>uM x.kind x.at_ x.code w1 ga.kind ga.at_ ga.code) (fun w1 hx=>((hT.ext hx).addC (ga.path.ext hx) x.kind x.at_ x.code x.fresh ga.kind ga.at_ ga.code I I).mono ?_) ?_)))
 ·rintro e w' ⟨rfl,q1,q2⟩
  have q3:=(hgs.ext hx).keep q2.keep hSb;exact ⟨rfl,⟨q1,(lZ.of_ext hx).trans q2,q3⟩,q3⟩
 intro a2 w2 g2 e24 e25 ⟨hT2,hW2,hgs2⟩;have z2:=g2.sz.trans z1;have hp2:=ga.path.carry hW2.keep (fun _ _ h=>h);refine wp_seq (aOi (R:=fun w'=>aF8 t n1 vn b (lB (aL t) b L (mkE x.path x.kind x.at_ x.code x.fresh)) (lB (aL t) b L (mkE x.path x.kind x.at_ x.code x.fresh)) g m S B w'∧lZ S B w2 w'∧GS bg (og+k*5) x A1 d1 w') (r1:=tO (aL t) b L (mkE x.path x.kind x.at_ x.code x.fresh)) (r2:=yU (aL t) (mkE x.path x.kind x.at_ x.code x.fresh)) z2 (g2.get 18 f18) (g2.get 22 f22) (g2.get 23 e23) I (fun w' h=>hgs2.ext h) (fun w1 hx=>((hT2.ext hx).addM hd hvl (hp2.ext hx) x.kind x.at_ x.code x.fresh ga.kind ga.at_ ga.code I I).mono ?_) ?_)
 ·rintro e w' ⟨rfl,q1,q2⟩
  have q3:=(hgs2.ext hx).keep q2.keep hSb;exact ⟨rfl,⟨q1,(lZ.of_ext hx).trans q2,q3⟩,q3⟩
 intro a3 w3 g3 e26 e27 ⟨hT3,hW3,hgs3⟩;have z3:=g3.sz.trans z2;have hT3':=hT3;obtain ⟨P1,v1,vm,m1,m2,m3,m4,m5⟩:=hT3';refine wp_seq (aOh (L:=lB (aL t) b L (mkE x.path x.kind x.at_ x.code x.fresh)) z3 (g3.get 18 (g2.get 18 f18)) (g3.get 20 (g2.get 20 f20)) (g3.get 24 e24) (g3.get 25 e25) e26 e27 (fun w' h=>aA h m2.cell2) (fun w1 h=>aCo t n1 b _ g P1 v1 w1 (m1.ext h).cor) (fun w1 P v h hE=>aJ8 I hE (m2.ext h).ens) ?_);intro a4 w4 hx4 g4 e139;have z4:=g4.sz.trans z3;have f23:=g4.get 23 (g3.get 23 (g2.get 23 e23));refine wp_cond_false e139 (wp_skip (rW ?_));iterate 3 refine lv ?_
 refine lF a4 [4,5,6,18,19,20,22] 23 (v:=.int .i64 ((k:Int)+1)) ?_;intro a5 g5 e23';exact hR _ _ ⟨((hG.trans (g2.mono rfl)).trans (g3.mono rfl)).trans ((g4.mono rfl).trans g5),hk,e23',(hW.trans hW2).trans (hW3.trans (lZ.of_ext hx4)),_,hT3.ext hx4,I⟩
theorem aCx (hd:∀ p:List Int,p.length<=1000000000->RdT t p)(hvl:∀ x ∈ t,x.values.length<=1000000000)(hsz:a0.tmps.size=208)(e18:qq a0 18 (qp m))(e20:qq a0 20 (qp g.c))(e22:qq a0 22 (.slice Av gs cg))(hlen:gs.length<=20)(hgv:Gvs ws S (.slice Av gs cg) gs)
  (hI:I7 t n1 vn b g m S B gs a0 ws 0 a w)(hR:∀ a' w',I7 t n1 vn b g m S B gs a0 ws gs a' w'->R .normal a' w'):qw (.block 0 (.loop a24)) R a w:=by
 refine wp_block (wp_loop (fun a' w'=>∃ k,I7 t n1 vn b g m S B gs a0 ws k a' w') (fun a' _=>gs.length - (intOf (Ev a' (.tmp 23))).toNat) ⟨0,hI⟩ ?_);clear hI;rintro a w ⟨k,hI⟩;have hG:=hI.1;have e23:=hI.2.2.1;have sz:=hG.sz.trans hsz;have f22:=hG.get 22 e22;refine wp_seq (rS ?_);iterate 4 refine lv ?_
 refine lF a [4,5,6,18,19,20,22,23] 78 (v:=(decide (k<gs))) ?_;intro a1 g1 e78;have hI':I7 t n1 vn b g m S B gs a0 ws k a1 w:=⟨hG.trans (g1.mono rfl),hI.2.1,g1.get 23 e23,hI.2.2.2⟩;by_cases hlt:k<gs
 ·refine wp_cond_true (e78.trans dm) (wp_skip ?_)
  refine aA5 hd hvl hsz e18 e20 e22 hlen hgv hI' hlt ?_;intro a' w' h;refine ⟨⟨k+1,h⟩,?_⟩;rw [h.2.2.1,e23];simp [intOf];omega
 ·obtain rfl:k=gs:=by have:=hI.2.1;omega
  exact wp_cond_false (e78.trans O) (wp_exit (hR _ _ hI'))
end
end Go.Proofs.YtkoeecdjijfjnaaGreat
namespace Go.Proofs.YtkoeecdjijfjnaaGreat
open Go.RowKit
theorem MAt.weak {t vn ve b L m}{P P':Nat->Prop}{w}(h:MAt t vn b L m P ve w)(hP:∀ q,P q->P' q)(hx:∀ q,P' q->¬ mM m ve q)(hl:∀ q,P' q->q<w):MAt t vn b L m P' ve w:=by
 obtain ⟨xs,h1,h2⟩:=h.own;exact ⟨h.box,h.tree.carry (fun _ _ _=>rfl) (fun q _ hq=>hP q hq),⟨xs,h1,h2.move eN (fun _ _ _=>rfl) (fun q _ hq=>hP q hq)⟩,fun q hq=>⟨fun e=>hx q hq (.inl e),fun e=>hx q hq (.inr e)⟩,h.ne,h.inc,h.bI,h.few,h.short,hl⟩
section
variable {w:World}{a:Act}{l k n raw:List Int}{Ql Qk Qn T:Nat->Prop}{vl vk vn:Value}{bu at_ y:Int}{A0:Option Addr}{c0:Nat}{Q:Exit->Act->World->Prop}
theorem aI1 (hl:Ints w Ql vl l)(hk:Ints w Qk vk k)(hn:Ints w Qn vn n)(hQk:∀ b,Qk b->b<w)(hQn:∀ b,Qn b->b<w)(hbu:I64 bu)(hr:raw.length<=1000000000000000∧raw<=c0∧c0<=9223372036854775807)(hs:Sl w T 1 A0 raw (raw.map (Value.int .u8)))(hT:∀ b,T b->b<w)(hbr:Byt raw)(hat:I64 at_)(hy:0<=y∧y<256)
  (sz:a.tmps.size=208)(e0:qq a 0 vl)(e1:qq a 1 vk)(e2:qq a 2 vn)(e3:qq a 3 bu)(e4:qq a 4 (.slice A0 raw c0))(e5:qq a 5 at_)(e6:qq a 6 (.int .u8 y))
  (hQ:∀ a' w',a'.defers=a.defers->qq a' 14 true->Ext w w'->Q .ret a' w'):qw c7 Q a w:=by
 refine rS ?_;refine lv ?_;refine lN a [0,1,2,3,4,5,6] ?_;intro a0 u0;have df:=u0.df;refine u0.b7 sz e0 e1 e2 e3 e4 e5 e6 fun sz e0 e1 e2 e3 e4 e5 e6=>?_
 refine rS ?_;refine lv ?_;refine lc Tryz.func8 (aJ4 l Ql vl w hl) ?_;rintro e w1 ⟨A,c,t,rfl,hnd,hgen,hlen,hx1⟩;refine ⟨_,rfl,?_⟩;have hB:=aw w1 25 #[qn];have hX:Ext w1 (w1.alloc (qk #[qn] 25)):=(aq w1).alloc' _;refine lv (w1:=w1.alloc (qk #[qn] 25)) (v:=qp w1) ?_ (hrun:=by simp [execOp,go_sem, *];try rfl);generalize w1.alloc (qk #[qn] 25)=W0 at *;refine ls (w1:=W0.setCell (qp w1) (.slice A t c)) ?_ (hrun:=by simp [execOp,go_sem,hB.cell,hB.frozen,sz];try rfl);have hB2:Blk (W0.setCell (qp w1) (.slice A t c)) w1 25 #[.slice A t c]:=hB.set_ 0 _;have hxW:Ext w1 (W0.setCell (qp w1) (.slice A t c)):=hX.setCell' (p:=qp w1) (ab _) _;clear hB hX;generalize W0.setCell (qp w1) (.slice A t c)=W at *;refine lF a0 [1,2,3,4,5,6] 15 (v:=qp w1) ?_;intro a1 u1 e15;refine u1.c6 sz df e1 e2 e3 e4 e5 e6 fun sz df e1 e2 e3 e4 e5 e6=>?_
 have hs1:=hx1.size;have lgt:=hB2.lt;have hx0W:=hx1.trans' hxW;have hndW:=hnd.ext hxW;have hfw:∀ x ∈ t,x.kind=3->x.kids.length<=5:=fun x hx h3=>Nat.le_succ_of_le (hgen.few x hx h3)
 have hRd:∀ p:List Int,p.length<=1000000000->RdT t p:=fun p hp=>⟨eE.1 hgen.good,I,hfw,I⟩
 have hvl:∀ x ∈ t,x.values.length<=1000000000:=fun x hx=>(hgen.small x hx).2.2.1
 have hb:=kY (n:=bu) (m:=80) I;refine rS ?_;refine lv ?_;refine lc Tryz.func9 (kZ bu 80 W hbu I I) ?_;rintro e w' ⟨rfl,rfl⟩;refine ⟨_,rfl,?_⟩;generalize iC bu 80=b at *;refine lv ?_;refine lF a1 [1,2,4,5,6,15] 16 (v:=↑b) ?_;intro a2 u2 e16;refine u2.c6 sz df e1 e2 e4 e5 e6 e15 fun sz df e1 e2 e4 e5 e6 e15=>?_
 have c15:=hB2.cell' (u:=.slice A t c) 0 rfl;refine rS ?_;iterate 3 refine lv ?_
 refine lc Tryz.func26 (aFq (b:=b) (P:=fun b=>w.heap.size<=b∧b<w1.heap.size) (vn:=.slice A t c) (most:=10) hgen.good hfw hgen.small hlen I I (fun q hq=>by omega) (fun q hq=>ac (hQk q hq) hx0W.size) hndW (hk.ext hx0W)) ?_;rintro e w4 ⟨gs,n1,gc,P1,v1,hsm,rfl,hC,hx4⟩;refine ⟨_,rfl,?_⟩;refine lv ?_;refine lF a2 [1,2,4,5,6,15,16] 17 (v:=qp gc.c) ?_;intro a3 u3 e17;refine u3.c7 sz df e1 e2 e4 e5 e6 e15 e16 fun sz df e1 e2 e4 e5 e6 e15 e16=>?_
 have hs4:=hx4.size;have hx04:=hx0W.trans' hx4;have c15b:=aA hx4 c15;refine rS ?_;iterate 3 refine lv ?_
 refine lc Tryz.func27 (aCn (b:=b) (P:=fun b=>w.heap.size<=b∧b<w1.heap.size) (vn:=.slice A t c) (most:=10) hRd hvl hgen.good hfw hlen I I (fun q hq=>by omega) (fun q hq=>ac (hQk q hq) hx04.size) (hndW.ext hx4) (hk.ext hx04)) ?_;rintro e w5 ⟨gs',m,um,Px,hsm',rfl,hM,hm1,hPx,hx5⟩;refine ⟨_,rfl,?_⟩;obtain rfl:=hsm'.uniq hsm;refine lv ?_;refine lF a3 [2,4,5,6,15,17] 18 (v:=qp m) ?_;intro a4 u4 e18;refine u4.c6 sz df e2 e4 e5 e6 e15 e17 fun sz df e2 e4 e5 e6 e15 e17=>?_
 have hs5:=hx5.size;have hx05:=hx04.trans' hx5;refine wp_seq (rS ?_);iterate 2 refine lv ?_
 refine lF a4 [2,4,5,6,15,17,18] 46 (v:=false) ?_;intro a5 u5 e46;refine u5.c7 sz df e2 e4 e5 e6 e15 e17 e18 fun sz df e2 e4 e5 e6 e15 e17 e18=>?_
 refine wp_cond_false e46 (wp_skip ?_);have hC5:=hC.ext hx5;obtain ⟨hdec,henc,hLl⟩:=aQe hgen hlen (hndW.ext (hx4.trans' hx5)) hC5.cor.ens hC5.cor.short hC5.cor.inc (b:=b) I hsm'.1;generalize hLe:fP t b gs'=L at *;refine rS ?_;refine lv ?_;refine lc Tryz.func33 (aD1 w5 hC5.cor (fun q hq=>(hC5.lo q (.inl hq)).2) I) ?_;rintro e w6 ⟨vx,rfl,hO⟩;refine ⟨_,rfl,?_⟩;refine lv ?_;refine lF a5 [2,4,5,6,15,18] 19 (v:=vx) ?_;intro a6 u6 e19;refine u6.c6 sz df e2 e4 e5 e6 e15 e18 fun sz df e2 e4 e5 e6 e15 e18=>?_
 have hx6:=hO.ex;have hs6:=hx6.size;have hOl:=fun q (h:some q=vx.ownBlock)=>World.ownsRow.block_lt hO.row h.symm
 obtain ⟨Ax,cx,rfl,hx61,hx62,hsl0⟩:=hO.sl;have hslx:Sl w6 (fun q=>w5.heap.size<=q∧q<w6.heap.size) 1 Ax (qP t b L) ((qP t b L).map (Value.int .u8)):=hsl0.keep (fun _ _ _=>rfl) (fun q hq=>⟨hq.1,hOl q hq.2⟩);clear hsl0 hOl;have hbx:=aL1 t b L
 have hpos:0<(qP t b L).length:=by
  unfold qP lJ;have:=nC (oR t);rw [aa,aa];omega
 generalize hxe:qP t b L=lx at *;refine rS ?_;refine lv ?_;refine lc Tryz.func34 (aD7 (c0:=cx) I hbx hslx) ?_;rintro e w7 ⟨hx7,hd⟩;rw [hdec] at hd;obtain ⟨gd,P2,v2,n2,rfl,hD⟩:=hd;refine ⟨_,rfl,?_⟩;iterate 5 refine lv ?_
 refine lF2 a6 [2,4,5,6,15,18,19] 20 21 (v:=qp gd.c) (v':=qz) ?_;intro a7 u7 e20 e21;refine u7.c7 sz df e2 e4 e5 e6 e15 e18 e19 fun sz df e2 e4 e5 e6 e15 e18 e19=>?_
 have hs7:=hx7.size;have hM7:=hM.ext (hx6.trans' hx7);refine wp_seq (rS ?_);iterate 3 refine lv ?_
 iterate 2 refine ly ?_
 iterate 2 refine lv ?_
 iterate 2 refine ly ?_
 have hne:lx ≠ []:=List.ne_nil_of_length_pos hpos;refine ly (v:=false) (w1:=w7) ?_ (hrun:=by simp [execOp,go_sem, *]);iterate 2 refine lv (v:=false) ?_ (hrun:=by simp [execOp,go_sem, *];try rfl)
 iterate 2 refine ly ?_
 refine lcg Tryz.func36 (aLz w7 hM7 (by rw [hxe];omega)) ?_;rintro e w8 ⟨vy,rfl,hOy⟩;refine ⟨_,rfl,?_⟩;have hx8:=hOy.ex;rw [hxe] at hOy;obtain ⟨Ay,cy,rfl,hy1,hy2,hsly⟩:=hOy.sl;have h35:=aMy (c:=cx) (c':=cy) lx lx w8 I I (hslx.keep (aB.of_ext (hx7.trans' hx8)) (fun _ h=>h)) hsly;rw [a4e rfl] at h35;refine lcg Tryz.func35 h35 ?_;rintro e w9 ⟨rfl,hx9⟩;refine ⟨_,rfl,?_⟩;refine ly ?_;refine lv ?_;refine lF a7 [2,4,5,6,15,18,19,20] 71 (v:=false) ?_;intro a8 u8 e71;refine u8.c8 sz df e2 e4 e5 e6 e15 e18 e19 e20 fun sz df e2 e4 e5 e6 e15 e18 e19 e20=>?_
 refine wp_cond_false e71 (wp_skip ?_);have hx79:=hx8.trans' hx9;have hx09:Ext w w9:=hx05.trans' (hx6.trans' (hx7.trans' hx79));have hx49:Ext w4 w9:=hx5.trans' (hx6.trans' (hx7.trans' hx79));have hs9:=hx79.size;have c15c:=aA hx49 c15b;refine rS ?_;iterate 2 refine lv ?_
 refine lc Tryz.func11 (rF t n 6 (fun b=>w.heap.size<=b∧b<w1.heap.size) Qn _ vn w9 hgen.good hfw hlen I (fun q hq=>by omega) (fun q hq=>ac (hQn q hq) hx09.size) ((hndW.ext hx4).ext hx49) (hn.ext hx09)) ?_;rintro e wa ⟨Ag_,cg,gs2,rfl,hgv,hgl,hxa,-⟩;refine ⟨_,rfl,?_⟩;refine lv ?_;refine lF a8 [4,5,6,18,19,20] 22 (v:=.slice Ag_ gs2 cg) ?_;intro a9 u9 e22;refine u9.c6 sz df e4 e5 e6 e18 e19 e20 fun sz df e4 e5 e6 e18 e19 e20=>?_
 refine wp_seq (rS ?_);refine lv ?_;refine lF a9 [4,5,6,18,19,20,22] 23 (v:=.int .i64 ((0:Nat):Int)) ?_;intro a10 u10 e23;refine u10.c7 sz df e4 e5 e6 e18 e19 e20 e22 fun sz df e4 e5 e6 e18 e19 e20 e22=>?_
 have hx0a:=hx09.trans' hxa;have hDa:=hD.ext (hx79.trans' hxa);have hMa:=hM7.ext (hx79.trans' hxa)
 have hT2:aF8 t n2 (.slice A t c) b L L gd m (fun q=>q<wa.heap.size∧¬ gd.M v2 q∧¬ mM m um q) W wa:=by
  have hml:∀ q,mM m um q->q<w5:=fun q hq=>hM.mlt hq
  refine ⟨P2,v2,um,⟨hDa.cor,fun q hq=>⟨by have:=(hDa.lo q hq).1;omega,(hDa.lo q hq).2⟩⟩,hMa.weak (fun q hq=>⟨hMa.lt q hq,fun hm=>?_,fun hm=>?_⟩) (fun q hq=>hq.2.2) (fun q hq=>hq.1),fun q hq=>by have:=hm1 q hq;omega,?_,?_⟩
  ·have:=(hDa.lo q (.inr hm)).1
   have:=hM.lt q hq;omega
  ·have:=hM.excl q hq
   exact hm.elim this.1 this.2
  ·rintro q (hq | hq) hm
   ·exact hq.2.1 hm
   ·have:=(hDa.lo q (.inr hm)).1
    have:=hml q hq;omega
  ·intro q hq hm
   have:=(hDa.lo q hq).1;have:=hml q hm;omega
 refine aCx (a0:=a10) (ws:=wa) (S:=fun q=>q<wa.heap.size∧¬ gd.M v2 q∧¬ mM m um q) hRd hvl sz e18 e20 e22 I (hgv.carry (fun _ _ _=>rfl) (fun q _ hq=>⟨hq.1,fun hm=>?_,fun hm=>?_⟩)) ⟨.rf,af _,e23,lZ.of_ext (aq wa),L,hT2,I⟩ ?_
 ·have:=(hDa.lo q (.inr hm)).1
  have:=(hD.lo q (.inr hm)).2;rcases hq.2 with h | h <;> omega
 ·have:=hm1 q hm
  have:=hM.mlt hm;rcases hq.2 with h | h <;> omega
 rintro a11 wb ⟨u11,-,-,hWb,-⟩;refine u11.c4 sz df e4 e5 e6 e19 fun sz df e4 e5 e6 e19=>?_
 have hxb:Ext w wb:=((ar hx0a).trans (hWb.fr.mono (N:=fun q=>w.heap.size<=q) (fun q hq=>by omega))).new_ext (fun _ h=>h)
 have hslb:Sl wb (fun _=>True) 1 Ax lx (lx.map (Value.int .u8)):=by
  have h1:=hslx.keep (aB.of_ext (hx7.trans' (hx79.trans' hxa))) (fun _ h=>h);exact h1.keep (fun q hq hp=>hWb.keep q hq ⟨hq,fun hm=>by have:=(hDa.lo q (.inr hm)).1;omega,fun hm=>by have:=hM.mlt hm;omega⟩) (fun _ _=>trivial)
 refine aMi sz e4 e5 e6 e19 hr (hs.keep (aB.of_ext hxb) (fun _ h=>h)) hbr ⟨hpos,I,hx61,hx62⟩ hslb hbx hy hat (fun a' w' q1 q2 q3=>hQ a' w' (q1.trans df) q2 (hxb.trans' q3))
theorem sZ (hl:Ints w Ql vl l)(hk:Ints w Qk vk k)(hn:Ints w Qn vn n)(hQk:∀ b,Qk b->b<w)(hQn:∀ b,Qn b->b<w)(hbu:I64 bu)(hr:raw.length<=1000000000000000∧raw<=c0∧c0<=9223372036854775807)(hs:Sl w T 1 A0 raw (raw.map (Value.int .u8)))(hT:∀ b,T b->b<w)(hbr:Byt raw)(hat:I64 at_)(hy:0<=y∧y<256) :
  qg 7 #[vl,vk,vn,↑bu,.slice A0 raw c0,↑at_,.int .u8 y] w (dI true w):=by
 refine bW Tryz.func7 b7 rfl O (fun a Q sz df ea hQ=>?_);refine aI1 hl hk hn hQk hQn hbu hr hs hT hbr hat hy sz (ea 0 _ rfl) (ea 1 _ rfl) (ea 2 _ rfl) (ea 3 _ rfl) (ea 4 _ rfl) (ea 5 _ rfl) (ea 6 _ rfl) (fun a' w' q1 q2 q3=>?_);exact hQ a' w' true (q1.trans df) (by simp [results,Tryz.results7,go_sem,evT q2]) ⟨rfl,q3⟩
end
end Go.Proofs.YtkoeecdjijfjnaaGreat
namespace Go.Proofs.YtkoeecdjijfjnaaGreat
open Go.ChangeShapes Go.WideShapes Go.ChangeAt Go.RowKit
theorem Tryz.own:ownKnob Tryz.prog.godebug=none:=U
theorem Tryz.laidOut:laidOutB Tryz.prog=true:=U
theorem Tryz.cells3:Tryz.prog.cellsOf 3=1:=U
theorem Tryz.bytes3:Tryz.prog.bytesOf 3=8:=U
theorem tM {n}(h:(Lit.int .i64 n).wf=true):I64 n:=by
 have h1:IntKind.i64.min=-9223372036854775808:=rfl;have h2:IntKind.i64.max=9223372036854775807:=rfl;simp only [Lit.wf,Bool.and_eq_true,decide_eq_true_eq] at h;unfold I64;omega
theorem yJ {H}{enc:TypeId × Value->H}{W base v d p}(hok:Value.okWide Tryz.prog W .any base 22 v)(h:DataW.Trod enc Tryz.prog W 0 (fun _=>true) true 22 v d p)(hlt:∀ x ∈ p,x.block<W.heap.size)
  (hw:∀ elems spare,d=.slice elems spare->(elems.length+spare)*8<=reachBytes):∃ l,Ints W (fun b=>b<W.heap.size) v l:=by
 obtain ⟨a0,len,cap,rfl⟩:=okWide_slice Tryz.underlying22 hok;obtain ⟨fuel,hf⟩:=h;rcases open_ints Tryz.underlying22 Tryz.underlying3 Tryz.cells3 hf with ⟨hcs,hx⟩ | ⟨a,len',cap',zs,hcs,_,hl,hm,hz,hx,hcell,hwz⟩
 ·simp [Value.cells] at hcs
  obtain ⟨rfl,rfl,rfl⟩:=hcs;exact ⟨[],Ints.nil⟩
 ·simp [Value.cells] at hcs
  obtain ⟨rfl,rfl,rfl⟩:=hcs;simp only [Prod.mk.injEq] at hx;obtain ⟨rfl,rfl⟩:=hx;simp only [if_true] at hz
  have hreach:cap*8<=140737488351232:=by
   have:=hw _ _ rfl;simp only [lits,List.length_map,ak,am,reachBytes] at this;omega
  have hlen:(zs.take len)=len:=em;refine ⟨zs.take len,some a,cap,by rw [hlen],by rw [hlen];exact hl,⟨by rw [hlen];omega,I⟩,fun x hx=>tM (hwz x (List.mem_of_mem_take hx)),O,?_⟩;intro hpos;rw [hlen] at hpos;obtain ⟨b,off,spot⟩:=a;have hspot:spot=none:=by simpa [Addr.add] using World.cell?_spot (hcell 0 I)
  subst hspot;refine ⟨b,off,rfl,hlt (.cell b off) (MemPlace.mem_row.2 ⟨0,I,O⟩),?_⟩;intro j u hu
  have hj:j<len:=by
   have:=(List.getElem?_eq_some_iff.1 hu).1;rw [List.length_map,hlen] at this;exact this
  have hc:=hcell j I;rw [add_plain] at hc;rw [hc];rw [List.getElem?_map,List.getElem?_take_of_lt hj] at hu;have hjz:j<zs:=by omega
  simp only [List.getElem?_eq_getElem hjz,Option.map_some,Option.some.injEq] at hu;rw [<- hu];simp [List.getD,hjz]
theorem aWy:Tryz.prog.underlying 5=some (.int .u8):=U
theorem aVc:Tryz.prog.cellsOf 5=1:=U
theorem aVi:Tryz.prog.bytesOf 5=1:=U
theorem aEl {n}(h:(Lit.int .u8 n).wf=true):0<=n∧n<256:=by
 have h1:IntKind.u8.min=0:=rfl;have h2:IntKind.u8.max=255:=rfl;simp only [Lit.wf,Bool.and_eq_true,decide_eq_true_eq] at h;omega
theorem aI4 {H}{enc:TypeId × Value->H}{W base v d p}(hok:Value.okWide Tryz.prog W .any base 74 v)(h:DataW.Trod enc Tryz.prog W 0 (fun _=>true) true 74 v d p)(hlt:∀ x ∈ p,x.block<W.heap.size)
  (hw:∀ elems spare,d=.slice elems spare->elems.length+spare<=reachBytes):∃ l A c,v=.slice A l.length c∧(l.length<=1000000000000000∧l.length<=c∧c<=9223372036854775807)∧Byt l∧Sl W (fun b=>b<W.heap.size) 1 A l (l.map (Value.int .u8)):=by
 obtain ⟨a0,len,cap,rfl⟩:=okWide_slice oH hok;obtain ⟨fuel,hf⟩:=h;rcases open_ints oH aWy aVc hf with ⟨hcs,hx⟩ | ⟨a,len',cap',zs,hcs,_,hl,hm,hz,hx,hcell,hwz⟩
 ·simp [Value.cells] at hcs
  obtain ⟨rfl,rfl,rfl⟩:=hcs;exact ⟨[],none,0,rfl,⟨O,O,O⟩,fun _ h=>(List.not_mem_nil h).elim,rfl,fun h=>absurd h O⟩
 ·simp [Value.cells] at hcs
  obtain ⟨rfl,rfl,rfl⟩:=hcs;simp only [Prod.mk.injEq] at hx;obtain ⟨rfl,rfl⟩:=hx;simp only [if_true] at hz
  have hreach:cap<=140737488351232:=by
   have:=hw _ _ rfl;simp only [lits,List.length_map,ak,am,reachBytes] at this;omega
  have hlen:(zs.take len)=len:=em;refine ⟨zs.take len,some a,cap,by rw [hlen],by rw [hlen];exact ⟨I,hl,I⟩,fun x hx=>aEl (hwz x (List.mem_of_mem_take hx)),O,?_⟩;intro hpos;rw [hlen] at hpos;obtain ⟨b,off,spot⟩:=a;have hspot:spot=none:=by simpa [Addr.add] using World.cell?_spot (hcell 0 I)
  subst hspot;refine ⟨b,off,rfl,hlt (.cell b off) (MemPlace.mem_row.2 ⟨0,I,O⟩),?_⟩;intro j u hu
  have hj:j<len:=by
   have:=(List.getElem?_eq_some_iff.1 hu).1;rw [List.length_map,hlen] at this;exact this
  have hc:=hcell j I;rw [add_plain] at hc;rw [hc];rw [List.getElem?_map,List.getElem?_take_of_lt hj] at hu;have hjz:j<zs:=by omega
  simp only [List.getElem?_eq_getElem hjz,Option.map_some,Option.some.injEq] at hu;rw [<- hu];simp [List.getD,hjz]
theorem nK (os:Os)(started:os.Started)(H)(enc:TypeId × Value->H) :
  ReturnsInHanded {} Tryz.checked os 7 .any (Rows.corpusBytesSpec.pre6 enc Tryz.prog Tryz.f7 Rows.corpusBytesRow.domain false) (Rows.corpusBytesSpec.post enc Tryz.prog Tryz.f7 false true false false):=by
 refine returnsInHanded_of_change_sized (C:=Tryz.checked) Tryz.own started U Tryz.func7
  (ChangeSpec.witness6 (enc:=enc) (C:=Tryz.checked) false ⟨#[],#[↑qn,↑qn,↑qn,↑qz,↑qn,↑qz,.int .u8 0],[]⟩ 8 U U U U) ?_
 intro W base args ds gs before hval0 hW _ hsz0 _;have hsz:(DataW.weightsEach Tryz.prog (Tryz.f7.params.toList ++ Rows.corpusBytesSpec.plain.varTypes Tryz.prog) (ds ++ gs)).all (·<=reachBytes)=true:=hsz0;clear hsz0;have hval:∀ (j:Nat) t v,Tryz.f7.params[j]?=some t->args[j]?=some v->Value.okWide Tryz.prog W .any base t v:=hval0;have hW':=hW;obtain ⟨p,q,hA0,hV,rfl,_,_⟩:=hW;have hA:DataW.TrodAll enc Tryz.prog W 0 (fun _=>true) true Tryz.f7.params.toList args.toList ds p:=hA0;rw [Tryz.params7] at hA hval hsz;obtain ⟨v0,vs0,d0,ds0,p0,q0,hargs0,rfl,rfl,h0,r0⟩:=trodAll_cons hA;obtain ⟨v1,vs1,d1,ds1,p1,q1,rfl,rfl,rfl,h1,r1⟩:=trodAll_cons r0;obtain ⟨v2,vs2,d2,ds2,p2,q2,rfl,rfl,rfl,h2,r2⟩:=trodAll_cons r1;obtain ⟨v3,vs3,d3,ds3,p3,q3,rfl,rfl,rfl,h3,r3⟩:=trodAll_cons r2;obtain ⟨v4,vs4,d4,ds4,p4,q4,rfl,rfl,rfl,h4,r4⟩:=trodAll_cons r3;obtain ⟨v5,vs5,d5,ds5,p5,q5,rfl,rfl,rfl,h5,r5⟩:=trodAll_cons r4;obtain ⟨v6,vs6,d6,ds6,p6,q6,rfl,rfl,rfl,h6,r6⟩:=trodAll_cons r5;obtain ⟨rfl,rfl,rfl⟩:=trodAll_nil r6;obtain rfl:args=#[v0,v1,v2,v3,v4,v5,v6]:=by cases args;simp_all
 obtain ⟨rfl,rfl⟩:=trodVars_none hV;obtain ⟨a3,rfl,rfl,rfl,w3⟩:=open_int Tryz.underlying3 (hval 3 3 v3 rfl rfl) h3;obtain ⟨a5,rfl,rfl,rfl,w5⟩:=open_int Tryz.underlying3 (hval 5 3 v5 rfl rfl) h5;obtain ⟨a6,rfl,rfl,rfl,w6⟩:=open_int aWy (hval 6 5 v6 rfl rfl) h6;have hlt:∀ x ∈ p0 ++ (p1 ++ (p2 ++ ([] ++ (p4 ++ ([] ++ ([] ++ [])))))) ++ [],x.block<W.heap.size:=fun x hx=>by simpa using hW'.lt x hx
 have hlt0:∀ x ∈ p0,x.block<W.heap.size:=fun x hx=>hlt x (by simp [hx])
 have hlt1:∀ x ∈ p1,x.block<W.heap.size:=fun x hx=>hlt x (by simp [hx])
 have hlt2:∀ x ∈ p2,x.block<W.heap.size:=fun x hx=>hlt x (by simp [hx])
 have hlt4:∀ x ∈ p4,x.block<W.heap.size:=fun x hx=>hlt x (by simp [hx])
 obtain ⟨l,hl⟩:=yJ (hval 0 22 v0 rfl rfl) h0 hlt0 (fun elems spare he=>by
  have:=sized_slice hsz (j:=0) (t:=22) (e:=3) (elems:=elems) (spare:=spare) rfl iz Tryz.underlying22;rw [Tryz.bytes3] at this;exact this)
 obtain ⟨k,hk⟩:=yJ (hval 1 22 v1 rfl rfl) h1 hlt1 (fun elems spare he=>by
  have:=sized_slice hsz (j:=1) (t:=22) (e:=3) (elems:=elems) (spare:=spare) rfl iz Tryz.underlying22;rw [Tryz.bytes3] at this;exact this)
 obtain ⟨n,hn⟩:=yJ (hval 2 22 v2 rfl rfl) h2 hlt2 (fun elems spare he=>by
  have:=sized_slice hsz (j:=2) (t:=22) (e:=3) (elems:=elems) (spare:=spare) rfl iz Tryz.underlying22;rw [Tryz.bytes3] at this;exact this)
 obtain ⟨raw,A0,c0,rfl,hr,hbr,hs⟩:=aI4 (hval 4 74 v4 rfl rfl) h4 hlt4 (fun elems spare he=>by
  have:=sized_slice hsz (j:=4) (t:=74) (e:=5) (elems:=elems) (spare:=spare) rfl iz oH;rw [aVi] at this;omega)
 refine (sZ hl hk hn (fun _ h=>h) (fun _ h=>h) (tM w3) hr hs (fun _ h=>h) hbr (tM w5) (aEl w6)).mono ?_;rintro e W' ⟨rfl,hx⟩;have k0:=Below.trod Tryz.laidOut U (of_decide_eq_true U) h0 hx hlt0;have k1:=Below.trod Tryz.laidOut U (of_decide_eq_true U) h1 hx hlt1;have k2:=Below.trod Tryz.laidOut U (of_decide_eq_true U) h2 hx hlt2;have k4:=Below.trod Tryz.laidOut U (of_decide_eq_true U) h4 hx hlt4;exact ⟨_,rfl,_,_,_,[],_,[],hW',trodAll_cons_mk (shut_bool Tryz.underlying4 _) trodAll_mk0,trodAll_cons_mk k0 (trodAll_cons_mk k1 (trodAll_cons_mk k2 (trodAll_cons_mk (shut_int Tryz.underlying3 w3) (trodAll_cons_mk k4 (trodAll_cons_mk (shut_int Tryz.underlying3 w5) (trodAll_cons_mk (shut_int aWy w6) trodAll_mk0)))))),rfl,hx.frame _,fun h=>by cases h⟩
theorem corpusBytes_holds:Rows.CorpusBytesSaid :=
 OpenClaim.holds_of_wide 7 Tryz.f7 rfl rfl rfl rfl rfl rfl rfl ⟨rfl,rfl,rfl,rfl,rfl⟩ rfl rfl rfl rfl rfl U Tryz.func7 U
  (of_decide_eq_true U) (by unfold Func.isWrapper;first | (rw [if_pos (by decide +kernel)];kernel_rfl) | (rw [if_neg (by decide +kernel)];exact ⟨rfl,rfl⟩))
  (fun os started H enc _=>nK os started H enc)
#print axioms corpusBytes_holds
end Go.Proofs.YtkoeecdjijfjnaaGreat
