/- Contracts of functions, plain laws. Conditions: none. -/
import Derived.Test.YtkoeecdjijfjnaaGreatSJ
import Derived.Test.YtkoeecdjijfjnaaGreatFC
import Derived.Test.YtkoeecdjijfjnaaGreatMB
set_option maxRecDepth 100000
set_option maxHeartbeats 8000000
namespace Go.Proofs.YtkoeecdjijfjnaaGreat
open Go.RowKit
noncomputable def aV6:=RG Tryz.f26 0
noncomputable def aRy:=RG Tryz.f26 1
noncomputable def aRx:=RG Tryz.f26 2
noncomputable def aV5:=RG Tryz.f26 3
noncomputable def aRw:=RG Tryz.f26 4
noncomputable def aV4:=RG Tryz.f26 5
noncomputable def aRv:=RG Tryz.f26 6
noncomputable def aOl:=RG Tryz.f26 7
noncomputable def aOk:=RG Tryz.f26 8
noncomputable def aV3:=RG Tryz.f26 9
def jP (t:List GN)(b:Int)(gs:List GG):List GE:=gs.foldl (fun L x=>pX (aQ t) b L (mkE x.path x.kind x.at_ x.code x.fresh)) []
section
variable {t:List GN}{b:Int}{gs:List GG}{k:Nat}
theorem pM (hk:k<gs.length):jP t b (gs.take (k+1))=pX (aQ t) b (jP t b (gs.take k)) (mkE (gs.getD k default).path (gs.getD k default).kind (gs.getD k default).at_ (gs.getD k default).code (gs.getD k default).fresh):=by
 unfold jP;rw [sB default hk,List.foldl_append]
 rfl
theorem nV:∀ k,k<=gs.length->(jP t b (gs.take k)).length<=k
 | 0,_=>by simp [jP]
 | k+1,h=>by
  have ih:=nV k D;rw [pM D];have:=aJf (aQ t) b (jP t b (gs.take k)) (mkE (gs.getD k default).path (gs.getD k default).kind (gs.getD k default).at_ (gs.getD k default).code (gs.getD k default).fresh);omega
end
section
variable {Q:Exit->Act->World->Prop}{a:Act}{w:World}{gt gc n c i most:Nat}{b z:Int}{A:Option Addr}{vn vl:Value}{t:List GN}{l:List Int}{R:World->Prop}
theorem aNi {R:Value->World->Prop}(hsz:a.tmps.size=54)(e4:Ev a (.tmp 4)=.pointer (some ⟨gt,0,none⟩))(e1:Ev a (.tmp 1)=↑b)(c4:w.cell? ⟨gt,0,none⟩=some vn)(hc:Calls Tryz.prog 10 #[.agg #[vn],↑b] w fun e w'=>∃ u,e=.returned (.tuple #[u,↑z])∧R u w')
  (h:∀ a' u w',Ag [2,3,4] a a'->Ev a' (.tmp 9)=u->Ev a' (.tmp 10)=↑z->R u w'->Q .normal a' w'):Code.wp Tryz.prog aRy Q a w:=by
 refine rW ?_
 iterate 2 refine lV ?_
 refine l_c rfl rfl rfl Tryz.func10 ac ac hc O ?_;rintro e w' ⟨u,rfl,hR⟩;refine ⟨_,rfl,?_⟩
 iterate 5 refine l_v rfl rfl (by simp [execOp,go_sem,hsz];exact ⟨rfl,rfl⟩) ?_
 exact aJ (h _ u _ I ah ah hR)
theorem aNh (hsz:a.tmps.size=54)(e9:Ev a (.tmp 9)=.pointer (some ⟨gc,0,none⟩))(e10:Ev a (.tmp 10)=.int .i64 0)
  (h:∀ a',Ag [2,3,4,9] a a'->Ev a' (.tmp 24)=.bool false->Q .normal a' w):Code.wp Tryz.prog aRx Q a w:=by
 refine rW ?_
 iterate 3 refine lV ?_
 iterate 2 refine l_y rfl rfl rfl O ab rfl (by simp [execOp,go_sem, *];exact ⟨rfl,rfl⟩) ?_
 iterate 1 refine lV ?_
 exact aJ (h _ I O)
theorem aNg (hsz:a.tmps.size=54)(e4:Ev a (.tmp 4)=.pointer (some ⟨gt,0,none⟩))(e2:Ev a (.tmp 2)=vl)(e3:Ev a (.tmp 3)=↑(most:Int))(c4:w.cell? ⟨gt,0,none⟩=some vn){S:Nat->Prop}(hc:Calls Tryz.prog 11 #[.agg #[vn],vl,↑(most:Int)] w (nX t l S most w))
  (h:∀ a' A c gs w',Ag [9] a a'->Gvs w' (fun b=>b<w'.heap.size∧S b) (.slice A gs.length c) gs->gs.length<=most->Ext w w'->kP t l most gs->Ev a' (.tmp 11)=.slice A gs.length c->Q .normal a' w'):Code.wp Tryz.prog aRw Q a w:=by
 refine rW ?_
 iterate 3 refine lV ?_
 refine l_c rfl rfl rfl Tryz.func11 ac ac hc O ?_;rintro e w' ⟨A,c,gs,rfl,h1,h2,h3,h4⟩;refine ⟨_,rfl,?_⟩
 iterate 1 refine l_v rfl rfl (by simp [execOp,go_sem,hsz];exact ⟨rfl,rfl⟩) ?_
 exact aJ (h _ A c gs w' I h1 h2 h3 h4 ah)
theorem aNf (hsz:a.tmps.size=54)(e11:Ev a (.tmp 11)=.slice A n c)(e12:Ev a (.tmp 12)=↑(i:Int))(h:∀ a',Ag [9,11,12] a a'->Ev a' (.tmp 32)=.bool (decide (i<n))->Q .normal a' w):Code.wp Tryz.prog aRv Q a w:=by
 refine rW ?_
 iterate 4 refine lV ?_
 exact aJ (h _ I O)
theorem aNe (hsz:a.tmps.size=54)(e12:Ev a (.tmp 12)=↑(i:Int))(hw:IntKind.i64.wrap ((i:Int)+1)=(i:Int)+1)(h:∀ a',Ag [9,11] a a'->Ev a' (.tmp 12)=.int .i64 ((i+1:Nat):Int)->Q .normal a' w):Code.wp Tryz.prog aOl Q a w:=by
 refine rW ?_
 iterate 3 refine lV ?_
 exact aJ (h _ I O)
theorem aNd {bg og d:Nat}{x:GG}{A':Option Addr}{r1:Bool}{r2:Int}(hsz:a.tmps.size=54)(e9:Ev a (.tmp 9)=.pointer (some ⟨gc,0,none⟩))(e11:Ev a (.tmp 11)=.slice (some ⟨bg,og,none⟩) n c)(e12:Ev a (.tmp 12)=↑(i:Int))(hi:(i:Int)<(n:Int))(hG:∀ w',Ext w w'->GS bg (og+i*5) x A' d w')
  (hc1:∀ w1,Ext w w1->Calls Tryz.prog 13 #[.agg #[↑x.kind,↑x.at_,↑x.code]] w1 (cT (zN x.kind x.at_ x.code) w1))
  (hc2:∀ w1,Ext w w1->Calls Tryz.prog 12 #[.pointer (some ⟨gc,0,none⟩),.slice A' x.path.length d,zN x.kind x.at_ x.code,.bool x.fresh] w1 fun e w'=>e=.returned (.tuple #[.bool r1,↑r2])∧R w'∧GS bg (og+i*5) x A' d w')
  (h:∀ a' w',Ag [9,11,12] a a'->R w'->Q .normal a' w'):Code.wp Tryz.prog aOk Q a w:=by
 conv=>arg 2;whnf
 have hx0:Ext w w.drew:=(Ext.refl w).drew';have hS:=hG _ hx0;refine dV (GS bg (og+i*5) x A' d) (fun _=>true) 18 Y Y ?_;generalize w.drew=W at *;refine d_t 2 [0,1,2,3,4,5,6,7,8,9,10,12,13,14,15,16] rfl Y hS ?_
 iterate 16 refine t_v rfl rfl rfl (fun w hw=>by simp [execOp,go_sem,hw.1,hw.2.1,hw.2.2.1,hw.2.2.2.1,hw.2.2.2.2,hsz,e9,e11,e12,hi];rfl) ?_
 refine t_e ?_;refine d_c 11 Y rfl rfl rfl rfl Tryz.func13 ac ac (hc1 W hx0) ah ?_;rintro e w1 ⟨rfl,hx1⟩;refine ⟨_,rfl,fun _=>hG _ (hx0.trans' hx1),?_⟩;refine d_c 17 Y rfl rfl rfl rfl Tryz.func12 ac ac (hc2 w1 (hx0.trans' hx1)) ah ?_;rintro e w2 ⟨rfl,hR,hS⟩;refine ⟨_,rfl,fun _=>hS,?_⟩;exact wO Y (h _ _ I hR)
end
noncomputable abbrev aZa:Code:=.seq (.seq aRv (.cond (.tmp 32) .skip (.exit 0))) (.seq (.block 1 aOk) aOl)
noncomputable abbrev aK5:Code:=.seq aV6 (.seq aRy (.seq (.seq aRx (.cond (.tmp 24) (.seq aV5 .ret) .skip)) (.seq aRw (.seq (.seq aV4 (.block 0 (.loop aZa))) (.seq aV3 .ret)))))
theorem aTw:Tryz.f26.body=some aK5:=Y
def uC (t:List GN)(b:Int)(l:List Int)(most:Nat)(w:World)(e:Ending)(w':World):Prop :=
 ∃ gs n1 g P v,kP t l most gs∧e=.returned (.pointer (some ⟨g.c,0,none⟩))∧nZ t n1 b (jP t b gs) g P v w.heap.size w'∧Ext w w'
section
variable {t:List GN}{n1 vn vl:Value}{b:Int}{L:List GE}{g:CA}{P Z:Nat->Prop}{B:Nat}{w w1 ws:World}{a a0:Act}{gs:List GG}{Av:Option Addr}{cg most:Nat}{l:List Int}{R:Exit->Act->World->Prop}
def I26 (t:List GN)(n1:Value)(b:Int)(g:CA)(B:Nat)(Z:Nat->Prop)(gs:List GG)(Av:Option Addr)(cg:Nat)(a0:Act)(w:World)(k:Nat)(a:Act)(wr:World):Prop :=
 Ag [9,11] a0 a∧k<=gs.length∧Ev a (.tmp 12)=↑(k:Int)∧∃ P v,nZ t n1 b (jP t b (gs.take k)) g P v B wr∧Ext w wr∧Gvs wr Z (.slice Av gs.length cg) gs∧(∀ q,Z q->¬ g.M v q)∧∀ q,Z q->q<wr.heap.size
theorem wL {k:Nat}(hsz:a0.tmps.size=54)(e9:Ev a0 (.tmp 9)=.pointer (some ⟨g.c,0,none⟩))(e11:Ev a0 (.tmp 11)=.slice Av gs.length cg)(hlen:gs.length<=1000)(hB:w.heap.size<=B)(hI:I26 t n1 b g B Z gs Av cg a0 w k a w1)(hk:k<gs.length)
  (hR:∀ a' w',I26 t n1 b g B Z gs Av cg a0 w (k+1) a' w'->R .normal a' w'):Code.wp Tryz.prog (.seq (.block 1 aOk) aOl) R a w1:=by
 obtain ⟨hG,-,e12,P,v,hC,hE,hgv,hsep,hZl⟩:=hI;have z1:=hG.sz.trans hsz;have hfl:=nV (t:=t) (b:=b) (gs:=gs) k D;have hsn:=pM (t:=t) (b:=b) hk;obtain ⟨bg,og,A1,d1,rfl,hSb,ga,gc⟩:=hgv.get hk;have hgs:=GS.of gc;have hsh:=ga.short;generalize gs.getD k default=x at *;generalize jP t b (gs.take k)=L at *
 refine wp_seq (wp_block (aNd (R:=fun w'=>hH t n1 b (pX (aQ t) b L (mkE x.path x.kind x.at_ x.code x.fresh)) g P v w1 w') (r1:=uF (aQ t) b L (mkE x.path x.kind x.at_ x.code x.fresh)) (r2:=aAt (aQ t) (mkE x.path x.kind x.at_ x.code x.fresh)) z1 (hG.get 9 e9) (hG.get 11 e11) e12 D (fun w' h=>hgs.ext h) (fun w1 _=>aBm x.kind x.at_ x.code w1 ga.kind ga.at_ ga.code)
  (fun w2 hx=>(aFu t n1 b L g P Z v _ x.path x.kind x.at_ x.code x.fresh w2 (hC.ext hx).cor (ga.path.ext hx) hsep ga.kind ga.at_ ga.code D D).mono ?_) ?_))
 ·rintro e w' ⟨rfl,hA⟩
  have hA':=hH.of_ext hx hA;obtain ⟨_,_,-,-,hF,-⟩:=id hA';exact ⟨rfl,hA',hgs.keep (aB.of_fr hF hsep) hSb⟩
 intro a2 w2 g2 hA;have z2:=g2.sz.trans z1;obtain ⟨P2,v2,hC2,hF2,hF3,hP2,hM2⟩:=hC.after hA;have hs2:=hF2.size;refine aNe (i:=k) z2 (g2.get 12 e12) (IntWalk.i64_in _ D) ?_;intro a3 g3 e12';refine hR _ _ ⟨hG.trans ((g2.mono rfl).trans g3),hk,e12',P2,v2,by rw [hsn];exact hC2,((Fr.of_ext hE).trans hF2).new_ext (fun q hq=>by omega),hgv.carry (aB.of_fr hF3 hsep) (fun _ _ h=>h),fun q hq hm=>?_,fun q hq=>Nat.lt_of_lt_of_le (hZl q hq) hs2⟩;rcases hM2 q hm with h | h
 ·exact hsep q hq h
 ·have:=hZl q hq;omega
theorem aE4 {Q:Nat->Prop}{A:Option Addr}{n c:Nat}(hv:bY t=0)(hfw:∀ x ∈ t,x.kind=3->x.kids.length<=5)(hsm:∀ x ∈ t,dG x)(hlen:t.length<=14)(hmost:most<=1000)(hb:0<=b∧b<=1099511627776)(hP:∀ q,P q->q<w.heap.size)(hQ:∀ q,Q q->q<w.heap.size)(ht:Nds w P (.slice A n c) t)(hl:bM w Q vl l)
  (hsz:a.tmps.size=54)(e0:Ev a (.tmp 0)=.agg #[.slice A n c])(e1:Ev a (.tmp 1)=↑b)(e2:Ev a (.tmp 2)=vl)(e3:Ev a (.tmp 3)=↑(most:Int))
  (hR:∀ a' w' gs n1 g P v,a'.defers=a.defers->Ev a' (.tmp 8)=.pointer (some ⟨g.c,0,none⟩)->kP t l most gs->nZ t n1 b (jP t b gs) g P v w.heap.size w'->Ext w w'->R .ret a' w'):Code.wp Tryz.prog aK5 R a w:=by
 refine wp_seq ?_;refine rW ?_
 iterate 2 refine lV ?_
 have hx0:Ext w (w.alloc (.cells #[.slice A n c] 25)):=(Ext.refl w).alloc' _;have hB0:=(Blk.new w 25 #[.slice A n c]).cell' (u:=.slice A n c) 0 rfl;refine aJ ?_;generalize ha1:Pt (Pt a 4 (.pointer (some ⟨w.heap.size,0,none⟩))) 8 (.pointer none)=a1;have z1:a1.tmps.size=54:=by subst ha1;simp [hsz]
 have d1:a1.defers=a.defers:=by subst ha1;rfl
 have f4:Ev a1 (.tmp 4)=.pointer (some ⟨w.heap.size,0,none⟩):=by subst ha1;simp [hsz]
 have f1:Ev a1 (.tmp 1)=↑b:=by subst ha1;simp [e1]
 have f2:Ev a1 (.tmp 2)=vl:=by subst ha1;simp [e2]
 have f3:Ev a1 (.tmp 3)=↑(most:Int):=by subst ha1;simp [e3]
 clear ha1;generalize w.alloc (.cells #[.slice A n c] 25)=W at *;have hs0:=hx0.size;refine wp_seq (aNi (z:=0) (R:=fun u w'=>∃ g P' vn',u=.pointer (some ⟨g.c,0,none⟩)∧nZ t vn' b [] g P' (.slice none 0 0) W.heap.size w'∧Ext W w') z1 f4 f1 hB0 ((oW t P _ b W (fun k hk=>by have:=hP k hk;omega) (ht.ext hx0) hsm hv hb).mono ?_) ?_)
 ·rintro e w' ⟨g,P',vn',rfl,h1,h2⟩
  exact ⟨_,rfl,g,P',vn',rfl,h1,h2⟩
 rintro a2 u w2 g2 e9 e10 ⟨g,P2,n1,rfl,hC2,hx2⟩;have z2:=g2.sz.trans z1;have hs2:=hx2.size;refine wp_seq (wp_seq (aNh z2 e9 e10 ?_));intro a3 g3 e24;have z3:=g3.sz.trans z2;refine wp_cond_false e24 (wp_skip ?_);have hxa:=hx0.trans' hx2;refine wp_seq (aNg (S:=fun q=>P q∨w2.heap.size<=q) (t:=t) (l:=l) z3 (g3.get 4 (g2.get 4 f4)) (g3.get 2 (g2.get 2 f2)) (g3.get 3 (g2.get 3 f3)) (aA hx2 hB0) (uV t l most P Q _ vl w2 hv hfw hlen hmost (fun q hq=>by have:=hP q hq;omega) (fun q hq=>by have:=hQ q hq;omega) (ht.ext hxa) (hl.ext hxa)) ?_);intro a4 Av cg gs w4 g4 hgv hgl hx4 hsome e11;have z4:=g4.sz.trans z3;have hs4:=hx4.size;refine wp_seq (wp_seq ?_);refine rW ?_
 iterate 1 refine l_v rfl rfl (by simp [execOp,go_sem,z4];exact ⟨rfl,rfl⟩) ?_
 refine aJ ?_;generalize ha5:Pt a4 12 (.int .i64 0)=a5;have z5:a5.tmps.size=54:=by subst ha5;simp [z4]
 have d5:a5.defers=a.defers:=by subst ha5;exact (((g4.df.trans g3.df).trans g2.df).trans d1)
 have h9:Ev a5 (.tmp 9)=.pointer (some ⟨g.c,0,none⟩):=by subst ha5;simp [g4.get 9 (g3.get 9 e9)]
 have h11:Ev a5 (.tmp 11)=.slice Av gs.length cg:=by subst ha5;simp [e11]
 have h12:Ev a5 (.tmp 12)=.int .i64 0:=by subst ha5;simp [z4]
 clear ha5
 refine wp_block (wp_loop (fun a' w'=>∃ k,I26 t n1 b g W.heap.size (fun q=>q<w4.heap.size∧(P q∨w2.heap.size<=q)) gs Av cg a5 w k a' w') (fun a' _=>gs.length - (intOf (Ev a' (.tmp 12))).toNat)
  ⟨0,Ag.rf,Nat.zero_le _,h12,P2,_,hC2.ext hx4,hxa.trans' hx4,hgv,fun q hq hm=>?_,fun q hq=>hq.1⟩ ?_)
 ·have:=hC2.lo q (.inr hm)
  rcases hq.2 with h | h
  ·have:=hP q h;omega
  ·omega
 rintro a6 w6 ⟨k,hI⟩;obtain ⟨hG,hk,e12,P6,v6,hC6,hE6,hgv6,hsep,hZl⟩:=id hI;have z6:=hG.sz.trans z5;refine wp_seq (wp_seq (aNf z6 (hG.get 11 h11) e12 ?_));intro a7 g7 e32;have z7:=g7.sz.trans z6;have hG7:Ag [9,11] a5 a7:=hG.trans (g7.mono rfl)
 by_cases hl:k<gs.length
 ·refine wp_cond_true (e32.trans fp) (wp_skip ?_)
  refine wL z5 h9 h11 D hs0 ⟨hG7,hk,g7.get 12 e12,P6,v6,hC6,hE6,hgv6,hsep,hZl⟩ hl ?_;intro a' W' h;refine ⟨⟨k+1,h⟩,?_⟩;rw [h.2.2.1,e12];simp [intOf];omega
 ·refine wp_cond_false (e32.trans fp) (wp_exit ?_)
  obtain rfl:k=gs.length:=D
  rw [List.take_length] at hC6;have h79:=hG7.get 9 h9;refine wp_seq ?_;refine rW ?_
  iterate 2 refine l_v rfl rfl (by simp [execOp,go_sem,z7,h79];exact ⟨rfl,rfl⟩) ?_
  exact aJ (wp_ret (hR _ w6 gs n1 g P6 v6 (hG7.df.trans d5) (by simp [z7]) hsome ⟨hC6.cor,fun q hq=>⟨by have:=(hC6.lo q hq).1;omega,(hC6.lo q hq).2⟩⟩ hE6))
theorem mO {Q:Nat->Prop}(hv:bY t=0)(hfw:∀ x ∈ t,x.kind=3->x.kids.length<=5)(hsm:∀ x ∈ t,dG x)(hlen:t.length<=14)(hmost:most<=1000)(hb:0<=b∧b<=1099511627776)(hP:∀ q,P q->q<w.heap.size)(hQ:∀ q,Q q->q<w.heap.size)(ht:Nds w P vn t)(hl:bM w Q vl l) :
  Calls Tryz.prog 26 #[.agg #[vn],↑b,vl,↑(most:Int)] w (uC t b l most w):=by
 obtain ⟨A,c,rfl,-,-⟩:=ht.form;refine calls_of_wp Tryz.func26 aTw (aE4 hv hfw hsm hlen hmost hb hP hQ ht hl (by simp [Tryz.ntmps26]) ai ai ai ai ?_);intro a' w' gs n1 g P v h1 h2 h3 h4 h6;refine bodyPost_ret (v:=.pointer (some ⟨g.c,0,none⟩)) ?_ h1 ⟨gs,n1,g,P,v,h3,rfl,h4,h6⟩;have h5:a'.tmps[8]?.getD undef=.pointer (some ⟨g.c,0,none⟩):=by rw [<- h2];simp [Ev,Act.eval]
 simp [results,Tryz.results26,go_sem,h5]
end
noncomputable def aVv:=RG Tryz.f29 0
noncomputable def aVu:=RG Tryz.f29 1
noncomputable def aVt:=RG Tryz.f29 2
noncomputable def aRk:=RG Tryz.f29 3
noncomputable def aOe:=RG Tryz.f29 4
noncomputable def aOd:=RG Tryz.f29 5
noncomputable def aOc:=RG Tryz.f29 6
noncomputable def aOb:=RG Tryz.f29 7
noncomputable def aRj:=RG Tryz.f29 8
noncomputable def aVs:=RG Tryz.f29 9
noncomputable def aRm:=RG Tryz.f29 10
noncomputable def aJu:=RG Tryz.f29 11
noncomputable def aDj:=RG Tryz.f29 12
noncomputable def aDi:=RG Tryz.f29 13
noncomputable def aDh:=RG Tryz.f29 14
noncomputable def aRl:=RG Tryz.f29 15
section
variable {Q:Exit->Act->World->Prop}{a:Act}{w:World}{mx my n c d k m:Nat}{A:Option Addr}{b:Bool}{z:Int}{v:Value}{Z:Nat->Prop}
theorem aM3 (hsz:a.tmps.size=58)(e1:Ev a (.tmp 1)=.pointer (some ⟨my,0,none⟩))(e6:Ev a (.tmp 6)=↑(k:Int))(c2:w.cell? ⟨my,2,none⟩=some (.slice A n c))(h:∀ a',Ag [0,1,5,6] a a'->Ev a' (.tmp 16)=.bool (decide (k<n))->Q .normal a' w):Code.wp Tryz.prog aRk Q a w:=by
 refine rW ?_
 iterate 7 refine lV ?_
 exact aJ (h _ I O)
theorem aM2 {bx ox:Nat}{x:GE}{R:World->Prop}(hsz:a.tmps.size=58)(e0:Ev a (.tmp 0)=.pointer (some ⟨mx,0,none⟩))(e1:Ev a (.tmp 1)=.pointer (some ⟨my,0,none⟩))(e6:Ev a (.tmp 6)=↑(k:Int))(c2:w.cell? ⟨my,2,none⟩=some (.slice (some ⟨bx,ox,none⟩) n d))(hk:(k:Int)<(n:Int))(hx:∀ j u,(bG x A c)[j]?=some u->w.cell? ⟨bx,ox+k*6+j,none⟩=some u)
  (hc:Calls Tryz.prog 51 #[.pointer (some ⟨mx,0,none⟩),aB6 x A c] w fun e w'=>e=.returned (.bool b)∧R w')
  (h:∀ a' w',R w'->Ag [0,1,5,6] a a'->Ev a' (.tmp 7)=.bool b->Q .normal a' w'):Code.wp Tryz.prog aOd Q a w:=by
 have q0:=hx 0 _ rfl;have q1:=hx 1 _ rfl;have q2:=hx 2 _ rfl;have q3:=hx 3 _ rfl;have q4:=hx 4 _ rfl;have q5:=hx 5 _ rfl;rw [Nat.add_zero] at q0;clear hx;refine rW ?_
 iterate 8 refine lV ?_
 refine l_c rfl rfl rfl Tryz.func51 ac ac hc O ?_;rintro e w' ⟨rfl,hR⟩;refine ⟨_,rfl,?_⟩
 iterate 1 refine l_v rfl rfl (by simp [execOp,go_sem,hsz];exact ⟨rfl,rfl⟩) ?_
 exact aJ (h _ _ hR I ah)
theorem aM1 (hsz:a.tmps.size=58)(e7:Ev a (.tmp 7)=.bool b)(h:∀ a',Ag [0,1,5,6] a a'->Ev a' (.tmp 28)=.bool b->Q .normal a' w):Code.wp Tryz.prog aOc Q a w:=by
 refine rW ?_
 iterate 1 refine lV ?_
 exact aJ (h _ I O)
theorem aM0 {B bx ox:Nat}{ps:List (List Int)}{p:List Int}(hsz:a.tmps.size=58)(e5:Ev a (.tmp 5)=v)(e1:Ev a (.tmp 1)=.pointer (some ⟨my,0,none⟩))(e6:Ev a (.tmp 6)=.int .i64 (k:Int))(c2:w.cell? ⟨my,2,none⟩=some (.slice (some ⟨bx,ox,none⟩) n d))(hk:(k:Int)<(n:Int))(q0:w.cell? ⟨bx,ox+k*6,none⟩=some (.slice A p.length c))(hp:Pth w B Z v ps)(hn:ps.length<=100000)(hB:B<=w.heap.size)(hi:bM w Z (.slice A p.length c) p)(hZ:∀ k,Z k->some k ≠ v.ownBlock)
  (h:∀ a' v' w',Ag [0,1,6] a a'->Ev a' (.tmp 5)=v'->Pth w' B Z v' (ps ++ [p])->Fr (fun k=>some k=v.ownBlock) w w'->(v'.ownBlock=v.ownBlock∨∃ k,v'.ownBlock=some k∧w.heap.size<=k)->Q .normal a' w'):Code.wp Tryz.prog aOb Q a w:=by
 obtain ⟨xs,h1,h2⟩:=hp;refine rW ?_
 iterate 10 refine lV ?_
 refine l_a rfl rfl rfl Tryz.underlying114 Tryz.info22p rfl D (h1.alloc _) (Sl.new w [.slice A p.length c] 22 1 1 rfl) O ab af D D aa ?_;intro v' w' ho hf hb;have hF:Fr (fun k=>some k=v.ownBlock) w w':=(Fr.of_ext ((Ext.refl w).alloc' _)).trans hf;have hk:aB Z w w':=aB.of_fr hF hZ
 iterate 1 refine l_v rfl rfl (by simp [execOp,go_sem,hsz];exact ⟨rfl,rfl⟩) ?_
 refine aJ (h _ v' _ I ah ⟨_,ho.len_cast U rfl,(h2.move RP.elem hk (fun _ _ h=>h)).append (RL.one ⟨_,rfl,hi.carry hk (fun _ _ h=>h)⟩)⟩ hF ?_);rcases hb with hb | hb
 ·exact .inl hb
 ·exact .inr ⟨_,hb,U⟩
theorem aC7 (hsz:a.tmps.size=58)(e6:Ev a (.tmp 6)=↑(k:Int))(hw:IntKind.i64.wrap ((k:Int)+1)=(k:Int)+1)(h:∀ a',Ag [0,1,5] a a'->Ev a' (.tmp 6)=.int .i64 ((k+1:Nat):Int)->Q .normal a' w):Code.wp Tryz.prog aOe Q a w:=by
 refine rW ?_
 iterate 3 refine lV ?_
 exact aJ (h _ I O)
theorem aMz {R:World->Prop}(hsz:a.tmps.size=58)(e0:Ev a (.tmp 0)=.pointer (some ⟨mx,0,none⟩))(hc:Calls Tryz.prog 52 #[.pointer (some ⟨mx,0,none⟩)] w fun e w'=>e=.returned (.tuple #[])∧R w')
  (h:∀ a' w',R w'->Ag [0,5] a a'->Q .normal a' w'):Code.wp Tryz.prog aRj Q a w:=by
 refine rW ?_
 iterate 1 refine lV ?_
 refine l_c rfl rfl rfl Tryz.func52 ac ac hc O ?_;rintro e w' ⟨rfl,hR⟩;exact ⟨_,rfl,aJ (h _ _ hR I)⟩
theorem aG4 (hsz:a.tmps.size=58)(e5:Ev a (.tmp 5)=.slice A n c)(e9:Ev a (.tmp 9)=↑(k:Int))(h:∀ a',Ag [0,5,8,9] a a'->Ev a' (.tmp 45)=.bool (decide (k<n))->Q .normal a' w):Code.wp Tryz.prog aJu Q a w:=by
 refine rW ?_
 iterate 4 refine lV ?_
 exact aJ (h _ I O)
theorem aG3 {bx ox:Nat}(hsz:a.tmps.size=58)(e0:Ev a (.tmp 0)=.pointer (some ⟨mx,0,none⟩))(e5:Ev a (.tmp 5)=.slice (some ⟨bx,ox,none⟩) n d)(e9:Ev a (.tmp 9)=↑(k:Int))(hk:(k:Int)<(n:Int))(hx:w.cell? ⟨bx,ox+k,none⟩=some (.slice A m c))(hc:Calls Tryz.prog 20 #[.pointer (some ⟨mx,0,none⟩),.slice A m c] w (cT (↑z) w))
  (h:∀ a' w',Ext w w'->Ag [0,5,8,9] a a'->Ev a' (.tmp 54)=.bool (decide (0<=z))->Q .normal a' w'):Code.wp Tryz.prog aDi Q a w:=by
 refine rW ?_
 iterate 5 refine lV ?_
 refine l_c rfl rfl rfl Tryz.func20 ac ac hc O ?_;rintro e w' ⟨rfl,hR⟩;refine ⟨_,rfl,?_⟩
 iterate 1 refine l_v rfl rfl (by simp [execOp,go_sem,hsz];exact ⟨rfl,rfl⟩) ?_
 exact aJ (h _ _ hR I ah)
theorem aG2 (hsz:a.tmps.size=58)(e8:Ev a (.tmp 8)=↑(m:Int))(hw:IntKind.i64.wrap ((m:Int)+1)=(m:Int)+1)(h:∀ a',Ag [0,5,9] a a'->Ev a' (.tmp 8)=.int .i64 ((m+1:Nat):Int)->Q .normal a' w):Code.wp Tryz.prog aDh Q a w:=by
 refine rW ?_
 iterate 3 refine lV ?_
 exact aJ (h _ I O)
theorem zI (hsz:a.tmps.size=58)(e9:Ev a (.tmp 9)=↑(k:Int))(hw:IntKind.i64.wrap ((k:Int)+1)=(k:Int)+1)(h:∀ a',Ag [0,5,8] a a'->Ev a' (.tmp 9)=.int .i64 ((k+1:Nat):Int)->Q .normal a' w):Code.wp Tryz.prog aDj Q a w:=by
 refine rW ?_
 iterate 3 refine lV ?_
 exact aJ (h _ I O)
end
noncomputable abbrev aW3:Code:=.seq (.seq aRk (.cond (.tmp 16) .skip (.exit 0))) (.seq (.block 1 (.seq aOd (.seq aOc (.cond (.tmp 28) aOb .skip)))) aOe)
noncomputable abbrev aW2:Code:=.seq (.seq aJu (.cond (.tmp 45) .skip (.exit 2))) (.seq (.block 3 (.seq aDi (.cond (.tmp 54) aDh .skip))) aDj)
noncomputable abbrev aK3:Code:=.seq aVv (.seq aVu (.seq (.seq aVt (.block 0 (.loop aW3))) (.seq aRj (.seq aVs (.seq (.seq aRm (.block 2 (.loop aW2))) (.seq aRl .ret))))))
theorem aTu:Tryz.f29.body=some aK3:=Y
theorem MAt.entry {t:List GN}{vn ve:Value}{b:Int}{L:List GE}{m k:Nat}{P:Nat->Prop}{w:World}(h:MAt t vn b L m P ve w)(hk:k<L.length) :
  ∃ G cap A c,ve=.slice (some ⟨G,0,none⟩) L.length cap∧EAt w P (L.getD k default) A c∧∀ j u,(bG (L.getD k default) A c)[j]?=some u->w.cell? ⟨G,k*6+j,none⟩=some u:=by
 obtain ⟨xs,h1,h2⟩:=h.own;rcases h1 with ⟨hxl,⟨rfl,h4⟩ | ⟨G,cap,cur,rfl,-,hB,h4,h5,h6,h7⟩⟩
 ·omega
 have hBb:Blk w G 60 cur:=hB;obtain ⟨A,c,hec,hE⟩:=RL.get (fB.len w P) h2 default hk;refine ⟨G,cap,A,c,rfl,hE,fun j u hu=>?_⟩;rw [<- hec,List.getElem?_take,List.getElem?_drop,<- h7,List.getElem?_take] at hu
 split at hu
 ·split at hu
  ·exact hBb.cell' _ fe
  ·cases hu
 ·cases hu
section
variable {t t':List GN}{vn vo:Value}{b b':Int}{L M:List GE}{mx my:Nat}{P:Nat->Prop}{v v':Value}{w w':World}{a:Act}{R:Exit->Act->World->Prop}{d:Nat}{A:Option Addr}
def I29 (t t':List GN)(vn vo:Value)(b b':Int)(L M:List GE)(mx my:Nat)(P:Nat->Prop)(v v':Value)(w:World)(k:Nat)(a0 a:Act)(wr:World):Prop :=
 ∃ v1 vr,a.tmps.size=a0.tmps.size∧a.defers=a0.defers∧k<=M.length∧Ev a (.tmp 0)=.pointer (some ⟨mx,0,none⟩)∧Ev a (.tmp 1)=.pointer (some ⟨my,0,none⟩)∧Ev a (.tmp 5)=vr∧Ev a (.tmp 6)=↑(k:Int) ∧
  MAt t vn b (mg L (M.take k)).1 mx P v1 wr∧Fr (mM mx v) w wr∧(∀ q,mM mx v1 q->mM mx v q∨w.heap.size<=q)∧MAt t' vo b' M my P v' wr∧Pth wr w.heap.size P vr (mg L (M.take k)).2∧(∀ q,vr.ownBlock=some q∨mM my v' q->¬ mM mx v1 q)
theorem vP {k:Nat}{a0:Act}(hI:I29 t t' vn vo b b' L M mx my P v v' w k a0 a w')(hlt:∀ q,P q∨mM my v' q->q<w.heap.size)(hsz:a0.tmps.size=58)(hk:k<M.length)(hfew:L.length+M.length<=100000)
  (hR:∀ a' W,I29 t t' vn vo b b' L M mx my P v v' w (k+1) a0 a' W->R .normal a' W):Code.wp Tryz.prog (.seq (.block 1 (.seq aOd (.seq aOc (.cond (.tmp 28) aOb .skip)))) aOe) R a w':=by
 obtain ⟨v1,vr,hs0,hdf,-,e0,e1,e5,e6,hC,hF,hM,hY,hPt,s1⟩:=hI;have z0:a.tmps.size=58:=by rw [hs0];exact hsz
 have hlen:=vR (L:=L) (M:=M) k D;have hsn:=yD (L:=L) hk;have hxm:(M.getD k default) ∈ M:=aD hk;have hxl:=hY.short _ hxm;have hcc:=hY.box.cell' (u:=v') 2 rfl;obtain ⟨G,c0,A1,d1,ev,hx,hcell⟩:=hY.entry hk;rw [ev] at hcc;generalize M.getD k default=x at *;generalize mg L (M.take k)=s at *;refine wp_seq (wp_block (wp_seq (aM2 (x:=x) (R:=cZ t vn b (dE s.1 x) mx P v1 w') z0 e0 e1 e6 hcc D (fun j u hu=>by rw [Nat.zero_add];exact hcell j u hu) (aD6 hC hx D hxl) ?_)));intro a2 W2 hA g2 e7;have z2:a2.tmps.size=58:=by rw [g2.sz];exact z0
 obtain ⟨v2,hC2,hF2,hb2⟩:=hA;have hs2:=hF2.size
 have hM2:∀ q,mM mx v2 q->mM mx v1 q∨w'.heap.size<=q:=fun q hq=>by
  rcases hq with hq | hq
  ·exact .inl (.inl hq)
  ·exact (hb2 q hq.symm).imp (fun h=>.inr h.symm) id
 have hsw:=hF.size;have hvr:=hPt.lt;have hF02:Fr (mM mx v) w W2:=hF.trans_new (hF2.mono hM)
 have hM02:∀ q,mM mx v2 q->mM mx v q∨w.heap.size<=q:=fun q hq=>by
  rcases hM2 q hq with h | h
  ·exact hM q h
  ·exact .inr D
 have hPx:∀ q,P q->¬ mM mx v1 q:=fun q hq hm=>by
  have:=hC.excl q hq;exact hm.elim this.1 this.2
 have hY2:MAt t' vo b' M my P v' W2:=hY.carry (aB.of_fr hF2 (fun q hq hm=>hq.elim (fun h=>hPx q h hm) (fun h=>s1 q (.inr h) hm))) hs2;have hPt2:Pth W2 w.heap.size P vr s.2:=hPt.carry (aB.of_fr hF2 (fun q hq hm=>hq.elim (fun h=>hPx q h hm) (fun h=>s1 q (.inl h.symm) hm))) (fun _ _ h=>h);have hx2:EAt W2 P x A1 d1:=hx.carry (aB.of_fr hF2 hPx) (fun _ _ h=>h)
 have s1':∀ q,vr.ownBlock=some q∨mM my v' q->¬ mM mx v2 q:=fun q hq hm=>by
  rcases hM2 q hm with h | h
  ·exact s1 q hq h
  ·rcases hq with hq | hq
   ·have:=(hvr q hq).2;omega
   ·have:=hlt q (.inr hq);omega
 refine wp_seq (aM1 z2 e7 ?_);intro a3 g3 e28;have z3:a3.tmps.size=58:=by rw [g3.sz];exact z2
 have G3:=g2.trans g3
 by_cases hh:fG x.path s.1=true
 ·refine wp_cond_false (e28.trans (by rw [hh];rfl)) (wp_skip ?_)
  refine aC7 (k:=k) z3 (G3.get 6 e6) (IntWalk.i64_in _ D) ?_;intro a4 g4 e6';refine hR _ _ ⟨v2,vr,ie,(g4.df.trans G3.df).trans hdf,hk,g4.get 0 (G3.get 0 e0),g4.get 1 (G3.get 1 e1),g4.get 5 (G3.get 5 e5),e6',?_,hF02,hM02,hY2,?_,s1'⟩
  ·rw [hsn];exact hC2
  ·rw [hsn];unfold mgS;simp only;rw [if_pos hh];exact hPt2
 ·refine wp_cond_true (e28.trans (by simp [hh])) ?_
  have hcc2:=hY2.box.cell' (u:=v') 2 rfl;rw [ev] at hcc2
  have q0:W2.cell? ⟨G,0+k*6,none⟩=some (.slice A1 x.path.length d1):=by
   have h9:=hcell 0 _ rfl;rw [Nat.add_zero] at h9;rw [Nat.zero_add];exact (World.cell?_of_block (w:=w') (hF2.block G (aN h9) (fun hm=>s1 G (.inr (.inr (by rw [ev];rfl))) hm))).trans h9
  refine aM0 (p:=x.path) z3 (G3.get 5 e5) (G3.get 1 e1) (G3.get 6 e6) hcc2 D q0 hPt2 D D hx2.path (fun q hz he=>by have:=(hvr q he.symm).1;have:=hlt q (.inl hz);omega) ?_;intro a4 v3 W3 g4 e5' hPt3 hF3 hb3;have z4:a4.tmps.size=58:=by rw [g4.sz];exact z3
  have hs3:=hF3.size
  have hge:∀ q,v3.ownBlock=some q->vr.ownBlock=some q∨W2.heap.size<=q:=fun q hq=>by
   rcases hb3 with h | ⟨k',h,h2⟩
   ·exact .inl (by rw [<- h];exact hq)
   ·rw [h] at hq;injection hq with hq;subst hq;exact .inr h2
  refine aC7 (k:=k) z4 (g4.get 6 (G3.get 6 e6)) (IntWalk.i64_in _ D) ?_;intro a5 g5 e6';refine hR _ _ ⟨v2,v3,by rw [g5.sz,z4,hsz],((g5.df.trans g4.df).trans G3.df).trans hdf,hk,g5.get 0 (g4.get 0 (G3.get 0 e0)),g5.get 1 (g4.get 1 (G3.get 1 e1)),g5.get 5 e5',e6',?_,?_,hM02,?_,?_,?_⟩
  ·rw [hsn]
   refine hC2.carry (aB.of_fr hF3 (fun q hq he=>?_)) hs3;rcases hq with hq | hq
   ·have:=(hvr q he.symm).1;have:=hlt q (.inl hq);omega
   ·exact s1' q (.inl he.symm) hq
  ·exact hF02.trans_new (hF3.mono (fun q hq=>.inr (by have:=(hvr q hq.symm).1;omega)))
  ·refine hY2.carry (aB.of_fr hF3 (fun q hq he=>?_)) hs3
   have:=(hvr q he.symm).1;have:=hlt q hq;omega
  ·rw [hsn];unfold mgS;simp only;rw [if_neg hh];exact hPt3
  ·intro q hq hm
   rcases hq with hq | hq
   ·rcases hge q hq with h | h
    ·exact s1' q (.inl h) hm
    ·have:=hC2.mlt hm;omega
   ·exact s1' q (.inr hq) hm
def xC (t:List GN)(vn:Value)(b:Int)(L':List GE)(m:Nat)(P:Nat->Prop)(v:Value)(w w':World):Prop :=
 ∃ v',MAt t vn b L' m P v' w'∧Fr (mM m v) w w'∧∀ q,mM m v' q->mM m v q∨w.heap.size<=q
def aXm (L':List GE)(ps:List (List Int))(A:Option Addr)(d:Nat)(mx:Nat)(k:Nat)(a0 a:Act)(ws w:World):Prop :=
 a.tmps.size=a0.tmps.size∧a.defers=a0.defers∧k<=ps.length∧Ev a (.tmp 0)=.pointer (some ⟨mx,0,none⟩)∧Ev a (.tmp 5)=.slice A ps.length d∧Ev a (.tmp 8)=.int .i64 ((aFb L' (ps.take k):Nat):Int)∧Ev a (.tmp 9)=↑(k:Int)∧Ext ws w
theorem aIv (p:List Int)(L:List GE):decide (0<=pK p L)=fG p L:=by
 unfold pK
 by_cases h:fG p L=true
 ·rw [if_pos h,h];exact aZy D
 ·rw [if_neg h,Bool.eq_false_iff.2 h];rfl
theorem vQ {k B:Nat}{Z:Nat->Prop}{ps:List (List Int)}{a0:Act}{w1:World}(hI:aXm L ps A d mx k a0 a w w1)(hsz:a0.tmps.size=58)(hk:k<ps.length)(hn:ps.length<=100000)(hC:MAt t vn b L mx P v w)(hP:Pth w B Z (.slice A ps.length d) ps)
  (hR:∀ a' W,aXm L ps A d mx (k+1) a0 a' w W->R .normal a' W):Code.wp Tryz.prog (.seq (.block 3 (.seq aDi (.cond (.tmp 54) aDh .skip))) aDj) R a w1:=by
 obtain ⟨hs0,hdf,-,e0,e5,e8,e9,hX⟩:=hI;have z0:a.tmps.size=58:=by rw [hs0];exact hsz
 obtain ⟨bx,ox,A1,d1,rfl,-,hi,hcell⟩:=hP.get hn hk;have hcn:=aAn (L:=L) hk;have hcl:=aLa (L:=L) (ps.take k);have htl:(ps.take k).length<=k:=by rw [List.length_take];omega
 generalize ps.getD k []=p at *;generalize aFb L (ps.take k)=m at *;refine wp_seq (wp_block (wp_seq (aG3 z0 e0 e5 e9 D (aA hX hcell) (tJ (hC.ext hX) (hi.ext hX)) ?_)));intro a2 w2 hx2 g2 e54;rw [aIv] at e54;have z2:a2.tmps.size=58:=by rw [g2.sz];exact z0
 by_cases hh:fG p L=true
 ·refine wp_cond_true (e54.trans (by rw [hh])) ?_
  refine aG2 (m:=m) z2 (g2.get 8 e8) (IntWalk.i64_in _ D) ?_;intro a3 g3 e8';have z3:a3.tmps.size=58:=by rw [g3.sz];exact z2
  have G3:=(g2.mono (l':=[0,5,9]) rfl).trans g3;refine zI (k:=k) z3 (G3.get 9 e9) (IntWalk.i64_in _ D) ?_;intro a4 g4 e9';refine hR _ _ ⟨ie,(g4.df.trans G3.df).trans hdf,hk,g4.get 0 (G3.get 0 e0),g4.get 5 (G3.get 5 e5),?_,e9',hX.trans' hx2⟩;rw [hcn,if_pos hh];exact g4.get 8 e8'
 ·refine wp_cond_false (e54.trans (by simp [hh])) (wp_skip ?_)
  refine zI (k:=k) z2 (g2.get 9 e9) (IntWalk.i64_in _ D) ?_;intro a4 g4 e9';refine hR _ _ ⟨by rw [g4.sz,z2,hsz],(g4.df.trans g2.df).trans hdf,hk,g4.get 0 (g2.get 0 e0),g4.get 5 (g2.get 5 e5),?_,e9',hX.trans' hx2⟩;rw [hcn,if_neg hh];exact g4.get 8 (g2.get 8 e8)
theorem aEa (hC:MAt t vn b L mx P v w)(hO:MAt t' vo b' M my P v' w)(hap:∀ q,mM my v' q->¬ mM mx v q)(hfew:L.length+M.length<=100000)(hsz:a.tmps.size=58)(e0:Ev a (.tmp 0)=.pointer (some ⟨mx,0,none⟩))(e1:Ev a (.tmp 1)=.pointer (some ⟨my,0,none⟩))
  (hR:∀ a' w',a'.defers=a.defers->Ev a' (.tmp 4)=.int .i64 (mgN b L M)->xC t vn b (mgE b L M) mx P v w w'->R .ret a' w'):Code.wp Tryz.prog aK3 R a w:=by
 refine wp_seq ?_;refine rW ?_
 iterate 1 refine lV ?_
 refine aJ (wp_seq ?_);refine rW ?_
 iterate 1 refine lV ?_
 refine aJ (wp_seq (wp_seq ?_));refine rW ?_
 iterate 1 refine lV ?_
 refine aJ ?_;have hlt:∀ q,P q∨mM my v' q->q<w.heap.size:=fun q hq=>hq.elim (hC.lt q) (fun h=>hO.mlt h)
 generalize ha3:Pt (Pt (Pt a 4 (.int .i64 0)) 5 (.slice none 0 0)) 6 (.int .i64 0)=a3;have z3:a3.tmps.size=58:=by subst ha3;simp [hsz]
 have d3:a3.defers=a.defers:=by subst ha3;rfl
 have h30:Ev a3 (.tmp 0)=.pointer (some ⟨mx,0,none⟩):=by subst ha3;simp [e0]
 have h31:Ev a3 (.tmp 1)=.pointer (some ⟨my,0,none⟩):=by subst ha3;simp [e1]
 have h35:Ev a3 (.tmp 5)=.slice none 0 0:=by subst ha3;simp [hsz]
 have h36:Ev a3 (.tmp 6)=.int .i64 0:=by subst ha3;simp [hsz]
 clear ha3
 refine wp_block (wp_loop (fun a' w'=>∃ k,I29 t t' vn vo b b' L M mx my P v v' w k a3 a' w') (fun a' _=>M.length - (intOf (Ev a' (.tmp 6))).toNat)
  ⟨0,v,.slice none 0 0,rfl,rfl,Nat.zero_le _,h30,h31,h35,h36,hC,Fr.refl _ _,fun q hq=>.inl hq,hO,Pth.nil _ _ _,fun q hq=>?_⟩ ?_)
 ·rcases hq with hq | hq
  ·simp [Value.ownBlock] at hq
  ·exact hap q hq
 rintro a4 w4 ⟨k,hI⟩;obtain ⟨v1,vr,hs0,hdf,hk,e0',e1',e5',e6',hC4,hF,hM,hY,hPt,s1⟩:=id hI;have z4:a4.tmps.size=58:=by rw [hs0];exact z3
 obtain ⟨A0,c0,ev,-,-⟩:=Lst.form hY.ens;have hcc:=hY.box.cell' (u:=v') 2 rfl;rw [ev] at hcc;refine wp_seq (wp_seq (aM3 z4 e1' e6' hcc ?_));intro a5 g5 e16;have z5:a5.tmps.size=58:=by rw [g5.sz];exact z4
 by_cases hltk:k<M.length
 ·refine wp_cond_true (e16.trans (by simp [hltk])) (wp_skip ?_)
  refine vP (a0:=a3) ⟨v1,vr,by rw [z5,z3],g5.df.trans hdf,hk,g5.get 0 e0',g5.get 1 e1',g5.get 5 e5',g5.get 6 e6',hC4,hF,hM,hY,hPt,s1⟩ hlt z3 hltk hfew ?_;intro a' W h;refine ⟨⟨k+1,h⟩,?_⟩;obtain ⟨_,_,-,-,-,-,-,-,h6,-⟩:=h;rw [h6,e6'];simp [intOf];omega
 ·refine wp_cond_false (e16.trans (by simp [hltk])) (wp_exit ?_)
  obtain rfl:k=M.length:=D
  rw [List.take_length] at hC4 hPt;have hml:=vR (L:=L) M.length (Nat.le_refl _);rw [List.take_length] at hml;refine wp_seq (aMz z5 (g5.get 0 e0') (zU hC4) ?_);rintro a6 w6 ⟨v2,hC6,hF6,hb6⟩ g6;have z6:a6.tmps.size=58:=by rw [g6.sz];exact z5
  have hs6:=hF6.size;have hsw:=hF.size
  have hM6:∀ q,mM mx v2 q->mM mx v q∨w.heap.size<=q:=fun q hq=>by
   rcases hq with hq | hq
   ·exact .inl (.inl hq)
   ·rcases hb6 q hq.symm with h | h
    ·exact hM q (.inr h.symm)
    ·exact .inr D
  have hAW:∀ w7,Ext w6 w7->xC t vn b (mgE b L M) mx P v w w7:=fun w7 hx7=>⟨v2,hC6.ext hx7,(hF.trans_new (hF6.mono hM)).trans (Fr.of_ext hx7),hM6⟩
  have hPx:∀ q,P q->¬ mM mx v1 q:=fun q hq hm=>by
   have:=hC4.excl q hq;exact hm.elim this.1 this.2
  have hPt6:Pth w6 w.heap.size P vr (mg L M).2:=hPt.carry (aB.of_fr hF6 (fun q hq hm=>hq.elim (fun h=>hPx q h hm) (fun h=>s1 q (.inl h.symm) hm))) (fun _ _ h=>h);have h65:=g6.get 5 (g5.get 5 e5');have h60:=g6.get 0 (g5.get 0 e0');have d6:a6.defers=a.defers:=(g6.df.trans (g5.df.trans hdf)).trans d3;obtain ⟨A6,c6,rfl⟩:=hPt6.form;have hN:mgN b L M=(aFb (mgE b L M) (mg L M).2:Nat):=rfl;have hC7:MAt t vn b (mgE b L M) mx P v2 w6:=hC6;clear hI hC4 hF hM hPt s1 hF6 hC6 hM6 hb6 hY e16 e0' e1' e5' e6' hdf hs0;generalize (mg L M).2=ps at *;generalize mgE b L M=L' at *;refine wp_seq ?_;refine rW ?_
  iterate 1 refine l_v rfl rfl (by simp [execOp,go_sem,z6];exact ⟨rfl,rfl⟩) ?_
  refine aJ (wp_seq (wp_seq ?_));refine rW ?_
  iterate 1 refine l_v rfl rfl (by simp [execOp,go_sem,z6];exact ⟨rfl,rfl⟩) ?_
  refine aJ ?_;generalize ha7:Pt (Pt a6 8 (.int .i64 0)) 9 (.int .i64 0)=a7;have z7:a7.tmps.size=58:=by subst ha7;simp [z6]
  have d7:a7.defers=a.defers:=by subst ha7;exact d6
  have h70:Ev a7 (.tmp 0)=.pointer (some ⟨mx,0,none⟩):=by subst ha7;simp [h60]
  have h75:Ev a7 (.tmp 5)=.slice A6 ps.length c6:=by subst ha7;simp [h65]
  have h78:Ev a7 (.tmp 8)=.int .i64 0:=by subst ha7;simp [z6]
  have h79:Ev a7 (.tmp 9)=.int .i64 0:=by subst ha7;simp [z6]
  clear ha7;refine wp_block (wp_loop (fun a' w'=>∃ k,aXm L' ps A6 c6 mx k a7 a' w6 w') (fun a' _=>ps.length - (intOf (Ev a' (.tmp 9))).toNat) ⟨0,rfl,rfl,Nat.zero_le _,h70,h75,h78,h79,Ext.refl _⟩ ?_);rintro a8 w8 ⟨k,hI⟩;obtain ⟨hs8,hd8,hk8,q0,q5,q8,q9,hX8⟩:=id hI;have z8:a8.tmps.size=58:=by rw [hs8];exact z7
  refine wp_seq (wp_seq (aG4 z8 q5 q9 ?_));intro a9 g9 e45;have z9:a9.tmps.size=58:=by rw [g9.sz];exact z8
  by_cases hl:k<ps.length
  ·refine wp_cond_true (e45.trans fp) (wp_skip ?_)
   refine vQ (a0:=a7) ⟨by rw [z9,z7],g9.df.trans hd8,hk8,g9.get 0 q0,g9.get 5 q5,g9.get 8 q8,g9.get 9 q9,hX8⟩ z7 hl D hC7 hPt6 ?_;intro a' W h;refine ⟨⟨k+1,h⟩,?_⟩;rw [h.2.2.2.2.2.2.1,q9];simp [intOf];omega
  ·refine wp_cond_false (e45.trans fp) (wp_exit ?_)
   obtain rfl:k=ps.length:=D
   rw [List.take_length] at q8;have q8':=g9.get 8 q8;refine wp_seq ?_;refine rW ?_
   iterate 2 refine l_v rfl rfl (by simp [execOp,go_sem,z9,q8'];exact ⟨rfl,rfl⟩) ?_
   exact aJ (wp_ret (hR _ _ ((g9.df.trans hd8).trans d7) (by simp [z9,hN]) (hAW _ hX8)))
theorem aBs (hC:MAt t vn b L mx P v w)(hO:MAt t' vo b' M my P v' w)(hap:∀ q,mM my v' q->¬ mM mx v q)(hfew:L.length+M.length<=100000) :
  Calls Tryz.prog 29 #[.pointer (some ⟨mx,0,none⟩),.pointer (some ⟨my,0,none⟩)] w fun e w'=>e=.returned (.int .i64 (mgN b L M))∧xC t vn b (mgE b L M) mx P v w w':=by
 refine calls_of_wp Tryz.func29 aTu (aEa hC hO hap hfew (by simp [Tryz.ntmps29]) ai ai ?_);intro a' w' h1 h2 h4;refine bodyPost_ret (v:=.int .i64 (mgN b L M)) ?_ h1 ⟨rfl,h4⟩;have h5:a'.tmps[4]?.getD undef=.int .i64 (mgN b L M):=by rw [<- h2];simp [Ev,Act.eval]
 simp [results,Tryz.results29,go_sem,h5]
end
noncomputable def aV2:=RG Tryz.f27 0
noncomputable def aRu:=RG Tryz.f27 1
noncomputable def aRt:=RG Tryz.f27 2
noncomputable def aV1:=RG Tryz.f27 3
noncomputable def aRs:=RG Tryz.f27 4
noncomputable def aOj:=RG Tryz.f27 5
noncomputable def aOi:=RG Tryz.f27 6
noncomputable def aV0:=RG Tryz.f27 7
section
variable {Q:Exit->Act->World->Prop}{a:Act}{w:World}{gt m n c i most:Nat}{b:Int}{A:Option Addr}{vn vl:Value}{t:List GN}{l:List Int}{R:World->Prop}
theorem aNc (hsz:a.tmps.size=44)(e4:Ev a (.tmp 4)=.pointer (some ⟨gt,0,none⟩))(e1:Ev a (.tmp 1)=↑b)(c4:w.cell? ⟨gt,0,none⟩=some (.slice A n c))
  (h:∀ a',Ag [2,3,4] a a'->Ev a' (.tmp 9)=.pointer (some ⟨w.heap.size,0,none⟩)->Q .normal a' (w.alloc (.cells #[.slice A n c,↑b,.slice none 0 0] 35))):Code.wp Tryz.prog aRu Q a w:=by
 refine rW ?_
 iterate 5 refine lV ?_
 exact aJ (h _ I O)
theorem aNb (hsz:a.tmps.size=44)(e4:Ev a (.tmp 4)=.pointer (some ⟨gt,0,none⟩))(e2:Ev a (.tmp 2)=vl)(e3:Ev a (.tmp 3)=↑(most:Int))(c4:w.cell? ⟨gt,0,none⟩=some vn){S:Nat->Prop}(hc:Calls Tryz.prog 11 #[.agg #[vn],vl,↑(most:Int)] w (nX t l S most w))
  (h:∀ a' A c gs w',Ag [9] a a'->Gvs w' (fun b=>b<w'.heap.size∧S b) (.slice A gs.length c) gs->gs.length<=most->Ext w w'->kP t l most gs->Ev a' (.tmp 10)=.slice A gs.length c->Q .normal a' w'):Code.wp Tryz.prog aRt Q a w:=by
 refine rW ?_
 iterate 3 refine lV ?_
 refine l_c rfl rfl rfl Tryz.func11 ac ac hc O ?_;rintro e w' ⟨A,c,gs,rfl,h1,h2,h3,h4⟩;refine ⟨_,rfl,?_⟩
 iterate 1 refine l_v rfl rfl (by simp [execOp,go_sem,hsz];exact ⟨rfl,rfl⟩) ?_
 exact aJ (h _ A c gs w' I h1 h2 h3 h4 ah)
theorem aNa (hsz:a.tmps.size=44)(e10:Ev a (.tmp 10)=.slice A n c)(e11:Ev a (.tmp 11)=↑(i:Int))(h:∀ a',Ag [9,10,11] a a'->Ev a' (.tmp 23)=.bool (decide (i<n))->Q .normal a' w):Code.wp Tryz.prog aRs Q a w:=by
 refine rW ?_
 iterate 4 refine lV ?_
 exact aJ (h _ I O)
theorem aM9 (hsz:a.tmps.size=44)(e11:Ev a (.tmp 11)=↑(i:Int))(hw:IntKind.i64.wrap ((i:Int)+1)=(i:Int)+1)(h:∀ a',Ag [9,10] a a'->Ev a' (.tmp 11)=.int .i64 ((i+1:Nat):Int)->Q .normal a' w):Code.wp Tryz.prog aOj Q a w:=by
 refine rW ?_
 iterate 3 refine lV ?_
 exact aJ (h _ I O)
theorem aM8 {bg og d:Nat}{x:GG}{A':Option Addr}{r1:Bool}{r2:Int}(hsz:a.tmps.size=44)(e9:Ev a (.tmp 9)=.pointer (some ⟨m,0,none⟩))(e10:Ev a (.tmp 10)=.slice (some ⟨bg,og,none⟩) n c)(e11:Ev a (.tmp 11)=↑(i:Int))(hi:(i:Int)<(n:Int))(hG:∀ w',Ext w w'->GS bg (og+i*5) x A' d w')
  (hc2:∀ w1,Ext w w1->Calls Tryz.prog 14 #[.pointer (some ⟨m,0,none⟩),.slice A' x.path.length d,.agg #[↑x.kind,↑x.at_,↑x.code],.bool x.fresh] w1 fun e w'=>e=.returned (.tuple #[.bool r1,↑r2])∧R w'∧GS bg (og+i*5) x A' d w')
  (h:∀ a' w',Ag [9,10,11] a a'->R w'->Q .normal a' w'):Code.wp Tryz.prog aOi Q a w:=by
 conv=>arg 2;whnf
 have hx0:Ext w w.drew:=(Ext.refl w).drew';have hS:=hG _ hx0;refine dV (GS bg (og+i*5) x A' d) (fun _=>true) 17 Y Y ?_;generalize w.drew=W at *;refine d_t 1 [0,1,2,3,4,5,6,7,8,9,10,11,12,13,14,15] rfl Y hS ?_
 iterate 16 refine t_v rfl rfl rfl (fun w hw=>by simp [execOp,go_sem,hw.1,hw.2.1,hw.2.2.1,hw.2.2.2.1,hw.2.2.2.2,hsz,e9,e10,e11,hi];rfl) ?_
 refine t_e ?_;refine d_c 16 Y rfl rfl rfl rfl Tryz.func14 ac ac (hc2 W hx0) ah ?_;rintro e w2 ⟨rfl,hR,hS⟩;refine ⟨_,rfl,fun _=>hS,?_⟩;exact wO Y (h _ _ I hR)
end
noncomputable abbrev aY9:Code:=.seq (.seq aRs (.cond (.tmp 23) .skip (.exit 0))) (.seq (.block 1 aOi) aOj)
noncomputable abbrev aK4:Code:=.seq aV2 (.seq aRu (.seq aRt (.seq (.seq aV1 (.block 0 (.loop aY9))) (.seq aV0 .ret))))
theorem aTv:Tryz.f27.body=some aK4:=Y
def uB (t:List GN)(vn:Value)(b:Int)(l:List Int)(most:Nat)(P:Nat->Prop)(w:World)(e:Ending)(w':World):Prop :=
 ∃ gs m ve P',kP t l most gs∧e=.returned (.pointer (some ⟨m,0,none⟩))∧MAt t vn b (jP t b gs) m P' ve w'∧(∀ q,mM m ve q->w.heap.size<=q)∧(∀ q,P' q->P q∨w.heap.size<=q)∧Ext w w'
section
variable {t:List GN}{vn vl:Value}{b:Int}{L:List GE}{m:Nat}{P Z:Nat->Prop}{w w1 ws:World}{a a0:Act}{gs:List GG}{Av:Option Addr}{cg most:Nat}{l:List Int}{R:Exit->Act->World->Prop}
def I27 (t:List GN)(vn:Value)(b:Int)(m:Nat)(Z:Nat->Prop)(gs:List GG)(Av:Option Addr)(cg:Nat)(a0:Act)(w:World)(k:Nat)(a:Act)(wr:World):Prop :=
 Ag [9,10] a0 a∧k<=gs.length∧Ev a (.tmp 11)=↑(k:Int)∧∃ v,MAt t vn b (jP t b (gs.take k)) m Z v wr∧Ext w wr∧Gvs wr Z (.slice Av gs.length cg) gs∧∀ q,mM m v q->w.heap.size<=q
theorem tK {k:Nat}(hd:∀ p:List Int,p.length<=1000->RdT t p)(hvl:∀ x ∈ t,x.values.length<=1000000)(hsz:a0.tmps.size=44)(e9:Ev a0 (.tmp 9)=.pointer (some ⟨m,0,none⟩))(e10:Ev a0 (.tmp 10)=.slice Av gs.length cg)(hlen:gs.length<=1000)(hI:I27 t vn b m Z gs Av cg a0 w k a w1)(hk:k<gs.length)
  (hR:∀ a' w',I27 t vn b m Z gs Av cg a0 w (k+1) a' w'->R .normal a' w'):Code.wp Tryz.prog (.seq (.block 1 aOi) aOj) R a w1:=by
 obtain ⟨hG,-,e11,v,hC,hE,hgv,hM⟩:=hI;have z1:=hG.sz.trans hsz;have hfl:=nV (t:=t) (b:=b) (gs:=gs) k D;have hsn:=pM (t:=t) (b:=b) hk;obtain ⟨bg,og,A1,d1,rfl,hSb,ga,gc⟩:=hgv.get hk;have hgs:=GS.of gc;have hsh:=ga.short;generalize gs.getD k default=x at *;generalize jP t b (gs.take k)=L at *
 have hsep:∀ q,Z q->¬ mM m v q:=fun q hq hm=>by
  have:=hC.excl q hq;exact hm.elim this.1 this.2
 refine wp_seq (wp_block (aM8 (R:=fun w'=>cZ t vn b (pX (aQ t) b L (mkE x.path x.kind x.at_ x.code x.fresh)) m Z v w1 w') (r1:=uF (aQ t) b L (mkE x.path x.kind x.at_ x.code x.fresh)) (r2:=aAt (aQ t) (mkE x.path x.kind x.at_ x.code x.fresh)) z1 (hG.get 9 e9) (hG.get 10 e10) e11 D (fun w' h=>hgs.ext h)
  (fun w2 hx=>(aId (f:=x.fresh) (hC.ext hx) (hd _ D) hvl (ga.path.ext hx) ga.kind ga.at_ ga.code D D).mono ?_) ?_))
 ·rintro e w' ⟨rfl,v',q1,q2,q3⟩
  have:=hx.size;have hF:Fr (mM m v) w1 w':=(Fr.of_ext hx).trans q2;exact ⟨rfl,⟨v',q1,hF,fun q hq=>(q3 q hq).imp id (fun h=>by omega)⟩,hgs.keep (aB.of_fr hF hsep) hSb⟩
 rintro a2 w2 g2 ⟨v2,hC2,hF2,hb2⟩;have z2:=g2.sz.trans z1;have hs2:=hF2.size;have hsE:=hE.size;refine aM9 (i:=k) z2 (g2.get 11 e11) (IntWalk.i64_in _ D) ?_;intro a3 g3 e11';refine hR _ _ ⟨hG.trans ((g2.mono rfl).trans g3),hk,e11',v2,by rw [hsn];exact hC2,((Fr.of_ext hE).trans hF2).new_ext hM,hgv.carry (aB.of_fr hF2 hsep) (fun _ _ h=>h),fun q hq=>?_⟩;rcases hq with hq | hq
 ·exact hM q (.inl hq)
 ·rcases hb2 q hq.symm with h | h
  ·exact hM q (.inr h.symm)
  ·omega
theorem aB5 {Q:Nat->Prop}{A:Option Addr}{n c:Nat}(hd:∀ p:List Int,p.length<=1000->RdT t p)(hvl:∀ x ∈ t,x.values.length<=1000000)(hv:bY t=0)(hfw:∀ x ∈ t,x.kind=3->x.kids.length<=5)(hlen:t.length<=14)(hmost:most<=1000)(hb:0<=b∧b<=1099511627776)(hP:∀ q,P q->q<w.heap.size)(hQ:∀ q,Q q->q<w.heap.size)(ht:Nds w P (.slice A n c) t)(hl:bM w Q vl l)
  (hsz:a.tmps.size=44)(e0:Ev a (.tmp 0)=.agg #[.slice A n c])(e1:Ev a (.tmp 1)=↑b)(e2:Ev a (.tmp 2)=vl)(e3:Ev a (.tmp 3)=↑(most:Int))
  (hR:∀ a' w' gs m ve P',a'.defers=a.defers->Ev a' (.tmp 8)=.pointer (some ⟨m,0,none⟩)->kP t l most gs->MAt t (.slice A n c) b (jP t b gs) m P' ve w'->(∀ q,mM m ve q->w.heap.size<=q)->(∀ q,P' q->P q∨w.heap.size<=q)->Ext w w'->R .ret a' w'):Code.wp Tryz.prog aK4 R a w:=by
 refine wp_seq ?_;refine rW ?_
 iterate 2 refine lV ?_
 have hx0:Ext w (w.alloc (.cells #[.slice A n c] 25)):=(Ext.refl w).alloc' _;have hB0:=(Blk.new w 25 #[.slice A n c]).cell' (u:=.slice A n c) 0 rfl;refine aJ ?_;generalize ha1:Pt (Pt a 4 (.pointer (some ⟨w.heap.size,0,none⟩))) 8 (.pointer none)=a1;have z1:a1.tmps.size=44:=by subst ha1;simp [hsz]
 have d1:a1.defers=a.defers:=by subst ha1;rfl
 have f4:Ev a1 (.tmp 4)=.pointer (some ⟨w.heap.size,0,none⟩):=by subst ha1;simp [hsz]
 have f1:Ev a1 (.tmp 1)=↑b:=by subst ha1;simp [e1]
 have f2:Ev a1 (.tmp 2)=vl:=by subst ha1;simp [e2]
 have f3:Ev a1 (.tmp 3)=↑(most:Int):=by subst ha1;simp [e3]
 clear ha1;generalize w.alloc (.cells #[.slice A n c] 25)=W at *;have hs0:=hx0.size;refine wp_seq (aNc z1 f4 f1 hB0 ?_);intro a2 g2 e9;have z2:=g2.sz.trans z1;have hx2:Ext W (W.alloc (.cells #[.slice A n c,↑b,.slice none 0 0] 35)):=(Ext.refl W).alloc' _;have hs2:(W.alloc (.cells #[.slice A n c,↑b,.slice none 0 0] 35)).heap.size=W.heap.size+1:=by simp
 have hBm:=Blk.new W 35 #[.slice A n c,↑b,.slice none 0 0];generalize W.alloc (.cells #[.slice A n c,↑b,.slice none 0 0] 35)=w2 at *;have hxa:=hx0.trans' hx2;refine wp_seq (aNb (S:=fun q=>P q∨w2.heap.size<=q) (t:=t) (l:=l) z2 (g2.get 4 f4) (g2.get 2 f2) (g2.get 3 f3) (aA hx2 hB0) (uV t l most P Q _ vl w2 hv hfw hlen hmost (fun q hq=>by have:=hP q hq;omega) (fun q hq=>by have:=hQ q hq;omega) (ht.ext hxa) (hl.ext hxa)) ?_);intro a4 Av cg gs w4 g4 hgv hgl hx4 hsome e10;have z4:=g4.sz.trans z2;have hs4:=hx4.size;refine wp_seq (wp_seq ?_);refine rW ?_
 iterate 1 refine l_v rfl rfl (by simp [execOp,go_sem,z4];exact ⟨rfl,rfl⟩) ?_
 refine aJ ?_;generalize ha5:Pt a4 11 (.int .i64 0)=a5;have z5:a5.tmps.size=44:=by subst ha5;simp [z4]
 have d5:a5.defers=a.defers:=by subst ha5;exact ((g4.df.trans g2.df).trans d1)
 have h9:Ev a5 (.tmp 9)=.pointer (some ⟨W.heap.size,0,none⟩):=by subst ha5;simp [g4.get 9 e9]
 have h10:Ev a5 (.tmp 10)=.slice Av gs.length cg:=by subst ha5;simp [e10]
 have h11:Ev a5 (.tmp 11)=.int .i64 0:=by subst ha5;simp [z4]
 clear ha5
 have hmx:∀ q,(q<w4.heap.size∧(P q∨w2.heap.size<=q))->q ≠ W.heap.size:=by
  intro q hq e;rcases hq.2 with h | h
  ·have:=hP q h
   omega
  ·omega
 have hM0:MAt t (.slice A n c) b [] W.heap.size (fun q=>q<w4.heap.size∧(P q∨w2.heap.size<=q)) (.slice none 0 0) w4 :=
  ⟨hBm.ext hx4,(ht.ext (hxa.trans' hx4)).carry (fun _ _ _=>rfl) (fun q hq h=>⟨hq,.inl h⟩),⟨[],aT _ _ _ _,fc⟩,fun q hq=>⟨hmx q hq,di⟩,di,by simp [xB],hb,U,U,fun q hq=>hq.1⟩
 refine wp_block (wp_loop (fun a' w'=>∃ k,I27 t (.slice A n c) b W.heap.size (fun q=>q<w4.heap.size∧(P q∨w2.heap.size<=q)) gs Av cg a5 w k a' w') (fun a' _=>gs.length - (intOf (Ev a' (.tmp 11))).toNat)
  ⟨0,Ag.rf,Nat.zero_le _,h11,_,hM0,hxa.trans' hx4,hgv,fun q hm=>?_⟩ ?_)
 ·rcases hm with hm | hm
  ·omega
  ·simp [Value.ownBlock] at hm
 rintro a6 w6 ⟨k,hI⟩;obtain ⟨hG,hk,e11,v6,hC6,hE6,hgv6,hM6⟩:=id hI;have z6:=hG.sz.trans z5;refine wp_seq (wp_seq (aNa z6 (hG.get 10 h10) e11 ?_));intro a7 g7 e23;have z7:=g7.sz.trans z6;have hG7:Ag [9,10] a5 a7:=hG.trans (g7.mono rfl)
 by_cases hl:k<gs.length
 ·refine wp_cond_true (e23.trans fp) (wp_skip ?_)
  refine tK hd hvl z5 h9 h10 D ⟨hG7,hk,g7.get 11 e11,v6,hC6,hE6,hgv6,hM6⟩ hl ?_;intro a' W' h;refine ⟨⟨k+1,h⟩,?_⟩;rw [h.2.2.1,e11];simp [intOf];omega
 ·refine wp_cond_false (e23.trans fp) (wp_exit ?_)
  obtain rfl:k=gs.length:=D
  rw [List.take_length] at hC6;have h79:=hG7.get 9 h9;refine wp_seq ?_;refine rW ?_
  iterate 2 refine l_v rfl rfl (by simp [execOp,go_sem,z7,h79];exact ⟨rfl,rfl⟩) ?_
  exact aJ (wp_ret (hR _ w6 gs W.heap.size v6 _ (hG7.df.trans d5) (by simp [z7]) hsome hC6 hM6 (fun q hq=>hq.2.imp id (fun h=>by omega)) hE6))
theorem pL {Q:Nat->Prop}(hd:∀ p:List Int,p.length<=1000->RdT t p)(hvl:∀ x ∈ t,x.values.length<=1000000)(hv:bY t=0)(hfw:∀ x ∈ t,x.kind=3->x.kids.length<=5)(hlen:t.length<=14)(hmost:most<=1000)(hb:0<=b∧b<=1099511627776)(hP:∀ q,P q->q<w.heap.size)(hQ:∀ q,Q q->q<w.heap.size)(ht:Nds w P vn t)(hl:bM w Q vl l) :
  Calls Tryz.prog 27 #[.agg #[vn],↑b,vl,↑(most:Int)] w (uB t vn b l most P w):=by
 obtain ⟨A,c,rfl,-,-⟩:=ht.form;refine calls_of_wp Tryz.func27 aTv (aB5 hd hvl hv hfw hlen hmost hb hP hQ ht hl (by simp [Tryz.ntmps27]) ai ai ai ai ?_);intro a' w' gs m ve P' h1 h2 h3 h4 h6 h7 h8;refine bodyPost_ret (v:=.pointer (some ⟨m,0,none⟩)) ?_ h1 ⟨gs,m,ve,P',h3,rfl,h4,h6,h7,h8⟩;have h5:a'.tmps[8]?.getD undef=.pointer (some ⟨m,0,none⟩):=by rw [<- h2];simp [Ev,Act.eval]
 simp [results,Tryz.results27,go_sem,h5]
end
end Go.Proofs.YtkoeecdjijfjnaaGreat
