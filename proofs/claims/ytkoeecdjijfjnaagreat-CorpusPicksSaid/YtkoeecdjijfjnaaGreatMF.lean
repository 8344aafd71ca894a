/- Contracts of functions. Conditions: none. -/
import Derived.Test.YtkoeecdjijfjnaaGreatSJ
import Derived.Test.YtkoeecdjijfjnaaGreatFC
import Derived.Test.YtkoeecdjijfjnaaGreatMB
set_option maxRecDepth 100000
set_option maxHeartbeats 8000000
namespace Go.Proofs.YtkoeecdjijfjnaaGreat
open Go.RowKit
noncomputable def aSk:=RG Tryz.f26 0
noncomputable def aNz:=RG Tryz.f26 1
noncomputable def aNy:=RG Tryz.f26 2
noncomputable def aSj:=RG Tryz.f26 3
noncomputable def aNx:=RG Tryz.f26 4
noncomputable def aSi:=RG Tryz.f26 5
noncomputable def aNw:=RG Tryz.f26 6
noncomputable def aKv:=RG Tryz.f26 7
noncomputable def aKu:=RG Tryz.f26 8
noncomputable def aSh:=RG Tryz.f26 9
def kZ (t:List GN)(b:Int)(gs:List GG):List GE:=gs.foldl (fun L x=>qE (aO t) b L (mkE x.path x.kind x.at_ x.code x.fresh)) []
section
variable {t:List GN}{b:Int}{gs:List GG}{k:Nat}
theorem pU (hk:k<gs.length):kZ t b (gs.take (k+1))=qE (aO t) b (kZ t b (gs.take k)) (mkE (gs.getD k default).path (gs.getD k default).kind (gs.getD k default).at_ (gs.getD k default).code (gs.getD k default).fresh):=by
 unfold kZ;rw [zZ default hk,List.foldl_append]
 rfl
theorem oH:∀ k,k<=gs.length->(kZ t b (gs.take k)).length<=k
 | 0,_=>by simp [kZ]
 | k+1,h=>by
  have ih:=oH k U;rw [pU U];have:=aH6 (aO t) b (kZ t b (gs.take k)) (mkE (gs.getD k default).path (gs.getD k default).kind (gs.getD k default).at_ (gs.getD k default).code (gs.getD k default).fresh);omega
end
section
variable {Q:Exit->Act->World->Prop}{a:Act}{w:World}{gt gc n c i most:Nat}{b z:Int}{A:Option Addr}{vn vl:Value}{t:List GN}{l:List Int}{R:World->Prop}
theorem aKf {R:Value->World->Prop}(hsz:a.tmps.size=54)(e4:Ev a (.tmp 4)=.pointer (some ⟨gt,0,none⟩))(e1:Ev a (.tmp 1)=↑b)(c4:w.cell? ⟨gt,0,none⟩=some vn)(hc:Calls Tryz.prog 10 #[.agg #[vn],↑b] w fun e w'=>∃ u,e=.returned (.tuple #[u,↑z])∧R u w')
  (h:∀ a' u w',Ag [2,3,4] a a'->Ev a' (.tmp 9)=u->Ev a' (.tmp 10)=↑z->R u w'->Q .normal a' w'):Code.wp Tryz.prog aNz Q a w:=by
 refine rW ?_
 iterate 2 refine lV ?_
 refine l_c rfl rfl rfl Tryz.func10 al al hc ah ?_;rintro e w' ⟨u,rfl,hR⟩;refine ⟨_,rfl,?_⟩
 iterate 5 refine l_v rfl rfl (by simp [execOp,go_sem,hsz];exact ⟨rfl,rfl⟩) ?_
 exact cJ (h _ u _ ac eq eq hR)
theorem aKe (hsz:a.tmps.size=54)(e9:Ev a (.tmp 9)=.pointer (some ⟨gc,0,none⟩))(e10:Ev a (.tmp 10)=.int .i64 0)
  (h:∀ a',Ag [2,3,4,9] a a'->Ev a' (.tmp 24)=.bool false->Q .normal a' w):Code.wp Tryz.prog aNy Q a w:=by
 refine rW ?_
 iterate 3 refine lV ?_
 iterate 2 refine l_y rfl rfl rfl ah aw rfl (by simp [execOp,go_sem, *];exact ⟨rfl,rfl⟩) ?_
 iterate 1 refine lV ?_
 exact cJ (h _ ac ah)
theorem aKd (hsz:a.tmps.size=54)(e4:Ev a (.tmp 4)=.pointer (some ⟨gt,0,none⟩))(e2:Ev a (.tmp 2)=vl)(e3:Ev a (.tmp 3)=↑(most:Int))(c4:w.cell? ⟨gt,0,none⟩=some vn){S:Nat->Prop}(hc:Calls Tryz.prog 11 #[.agg #[vn],vl,↑(most:Int)] w (oJ t l S most w))
  (h:∀ a' A c gs w',Ag [9] a a'->Gvs w' (fun b=>b<w'.heap.size∧S b) (.slice A gs.length c) gs->gs.length<=most->Ext w w'->kT t l most gs->Ev a' (.tmp 11)=.slice A gs.length c->Q .normal a' w'):Code.wp Tryz.prog aNx Q a w:=by
 refine rW ?_
 iterate 3 refine lV ?_
 refine l_c rfl rfl rfl Tryz.func11 al al hc ah ?_;rintro e w' ⟨A,c,gs,rfl,h1,h2,h3,h4⟩;refine ⟨_,rfl,?_⟩
 iterate 1 refine l_v rfl rfl (by simp [execOp,go_sem,hsz];exact ⟨rfl,rfl⟩) ?_
 exact cJ (h _ A c gs w' ac h1 h2 h3 h4 eq)
theorem aKc (hsz:a.tmps.size=54)(e11:Ev a (.tmp 11)=.slice A n c)(e12:Ev a (.tmp 12)=↑(i:Int))(h:∀ a',Ag [9,11,12] a a'->Ev a' (.tmp 32)=.bool (decide (i<n))->Q .normal a' w):Code.wp Tryz.prog aNw Q a w:=by
 refine rW ?_
 iterate 4 refine lV ?_
 exact cJ (h _ ac ah)
theorem aKb (hsz:a.tmps.size=54)(e12:Ev a (.tmp 12)=↑(i:Int))(hw:IntKind.i64.wrap ((i:Int)+1)=(i:Int)+1)(h:∀ a',Ag [9,11] a a'->Ev a' (.tmp 12)=.int .i64 ((i+1:Nat):Int)->Q .normal a' w):Code.wp Tryz.prog aKv Q a w:=by
 refine rW ?_
 iterate 3 refine lV ?_
 exact cJ (h _ ac ah)
theorem aKa {bg og d:Nat}{x:GG}{A':Option Addr}{r1:Bool}{r2:Int}(hsz:a.tmps.size=54)(e9:Ev a (.tmp 9)=.pointer (some ⟨gc,0,none⟩))(e11:Ev a (.tmp 11)=.slice (some ⟨bg,og,none⟩) n c)(e12:Ev a (.tmp 12)=↑(i:Int))(hi:(i:Int)<(n:Int))(hG:∀ w',Ext w w'->GS bg (og+i*5) x A' d w')
  (hc1:∀ w1,Ext w w1->Calls Tryz.prog 13 #[.agg #[↑x.kind,↑x.at_,↑x.code]] w1 (dV (aAg x.kind x.at_ x.code) w1))
  (hc2:∀ w1,Ext w w1->Calls Tryz.prog 12 #[.pointer (some ⟨gc,0,none⟩),.slice A' x.path.length d,aAg x.kind x.at_ x.code,.bool x.fresh] w1 fun e w'=>e=.returned (.tuple #[.bool r1,↑r2])∧R w'∧GS bg (og+i*5) x A' d w')
  (h:∀ a' w',Ag [9,11,12] a a'->R w'->Q .normal a' w'):Code.wp Tryz.prog aKu Q a w:=by
 conv=>arg 2;whnf
 have hx0:Ext w w.drew:=(Ext.refl w).drew';have hS:=hG _ hx0;refine fG (GS bg (og+i*5) x A' d) (fun _=>true) 18 aa aa ?_;generalize w.drew=W at *;refine d_t 2 [0,1,2,3,4,5,6,7,8,9,10,12,13,14,15,16] rfl aa hS ?_
 iterate 16 refine t_v rfl rfl rfl (fun w hw=>by simp [execOp,go_sem,hw.1,hw.2.1,hw.2.2.1,hw.2.2.2.1,hw.2.2.2.2,hsz,e9,e11,e12,hi];rfl) ?_
 refine t_e ?_;refine d_c 11 aa rfl rfl rfl rfl Tryz.func13 al al (hc1 W hx0) eq ?_;rintro e w1 ⟨rfl,hx1⟩;refine ⟨_,rfl,fun _=>hG _ (hx0.trans' hx1),?_⟩;refine d_c 17 aa rfl rfl rfl rfl Tryz.func12 al al (hc2 w1 (hx0.trans' hx1)) eq ?_;rintro e w2 ⟨rfl,hR,hS⟩;refine ⟨_,rfl,fun _=>hS,?_⟩;exact wZ aa (h _ _ ac hR)
end
noncomputable abbrev aW7:Code:=.seq (.seq aNw (.cond (.tmp 32) .skip (.exit 0))) (.seq (.block 1 aKu) aKv)
noncomputable abbrev aIy:Code:=.seq aSk (.seq aNz (.seq (.seq aNy (.cond (.tmp 24) (.seq aSj .ret) .skip)) (.seq aNx (.seq (.seq aSi (.block 0 (.loop aW7))) (.seq aSh .ret)))))
theorem aQa:Tryz.f26.body=some aIy:=aa
def aL9 (t:List GN)(b:Int)(l:List Int)(most:Nat)(w:World)(e:Ending)(w':World):Prop :=
 ∃ gs n1 g P v,kT t l most gs∧e=.returned (.pointer (some ⟨g.c,0,none⟩))∧oL t n1 b (kZ t b gs) g P v w.heap.size w'∧Ext w w'
section
variable {t:List GN}{n1 vn vl:Value}{b:Int}{L:List GE}{g:CA}{P Z:Nat->Prop}{B:Nat}{w w1 ws:World}{a a0:Act}{gs:List GG}{Av:Option Addr}{cg most:Nat}{l:List Int}{R:Exit->Act->World->Prop}
def I26 (t:List GN)(n1:Value)(b:Int)(g:CA)(B:Nat)(Z:Nat->Prop)(gs:List GG)(Av:Option Addr)(cg:Nat)(a0:Act)(w:World)(k:Nat)(a:Act)(wr:World):Prop :=
 Ag [9,11] a0 a∧k<=gs.length∧Ev a (.tmp 12)=↑(k:Int)∧∃ P v,oL t n1 b (kZ t b (gs.take k)) g P v B wr∧Ext w wr∧Gvs wr Z (.slice Av gs.length cg) gs∧(∀ q,Z q->¬ g.M v q)∧∀ q,Z q->q<wr.heap.size
theorem wX {k:Nat}(hsz:a0.tmps.size=54)(e9:Ev a0 (.tmp 9)=.pointer (some ⟨g.c,0,none⟩))(e11:Ev a0 (.tmp 11)=.slice Av gs.length cg)(hlen:gs.length<=1000)(hB:w.heap.size<=B)(hI:I26 t n1 b g B Z gs Av cg a0 w k a w1)(hk:k<gs.length)
  (hR:∀ a' w',I26 t n1 b g B Z gs Av cg a0 w (k+1) a' w'->R .normal a' w'):Code.wp Tryz.prog (.seq (.block 1 aKu) aKv) R a w1:=by
 obtain ⟨hG,-,e12,P,v,hC,hE,hgv,hsep,hZl⟩:=hI;have z1:=hG.sz.trans hsz;have hfl:=oH (t:=t) (b:=b) (gs:=gs) k U;have hsn:=pU (t:=t) (b:=b) hk;obtain ⟨bg,og,A1,d1,rfl,hSb,ga,gc⟩:=hgv.get hk;have hgs:=GS.of gc;have hsh:=ga.short;generalize gs.getD k default=x at *;generalize kZ t b (gs.take k)=L at *
 refine wp_seq (wp_block (aKa (R:=fun w'=>iL t n1 b (qE (aO t) b L (mkE x.path x.kind x.at_ x.code x.fresh)) g P v w1 w') (r1:=uV (aO t) b L (mkE x.path x.kind x.at_ x.code x.fresh)) (r2:=aBd (aO t) (mkE x.path x.kind x.at_ x.code x.fresh)) z1 (hG.get 9 e9) (hG.get 11 e11) e12 U (fun w' h=>hgs.ext h) (fun w1 _=>aB1 x.kind x.at_ x.code w1 ga.kind ga.at_ ga.code)
  (fun w2 hx=>(aFi t n1 b L g P Z v _ x.path x.kind x.at_ x.code x.fresh w2 (hC.ext hx).cor (ga.path.ext hx) hsep ga.kind ga.at_ ga.code U U).mono ?_) ?_))
 ·rintro e w' ⟨rfl,hA⟩
  have hA':=iL.of_ext hx hA;obtain ⟨_,_,-,-,hF,-⟩:=id hA';exact ⟨rfl,hA',hgs.keep (aB.of_fr hF hsep) hSb⟩
 intro a2 w2 g2 hA;have z2:=g2.sz.trans z1;obtain ⟨P2,v2,hC2,hF2,hF3,hP2,hM2⟩:=hC.after hA;have hs2:=hF2.size;refine aKb (i:=k) z2 (g2.get 12 e12) (IntWalk.i64_in _ U) ?_;intro a3 g3 e12';refine hR _ _ ⟨hG.trans ((g2.mono rfl).trans g3),hk,e12',P2,v2,by rw [hsn];exact hC2,((Fr.of_ext hE).trans hF2).new_ext (fun q hq=>by omega),hgv.carry (aB.of_fr hF3 hsep) (fun _ _ h=>h),fun q hq hm=>?_,fun q hq=>Nat.lt_of_lt_of_le (hZl q hq) hs2⟩;rcases hM2 q hm with h | h
 ·exact hsep q hq h
 ·have:=hZl q hq;omega
theorem aEs {Q:Nat->Prop}{A:Option Addr}{n c:Nat}(hv:cC t=0)(hfw:∀ x ∈ t,x.kind=3->x.kids.length<=5)(hsm:∀ x ∈ t,jG x)(hlen:t.length<=14)(hmost:most<=1000)(hb:0<=b∧b<=1099511627776)(hP:∀ q,P q->q<w.heap.size)(hQ:∀ q,Q q->q<w.heap.size)(ht:Nds w P (.slice A n c) t)(hl:aU w Q vl l)
  (hsz:a.tmps.size=54)(e0:Ev a (.tmp 0)=.agg #[.slice A n c])(e1:Ev a (.tmp 1)=↑b)(e2:Ev a (.tmp 2)=vl)(e3:Ev a (.tmp 3)=↑(most:Int))
  (hR:∀ a' w' gs n1 g P v,a'.defers=a.defers->Ev a' (.tmp 8)=.pointer (some ⟨g.c,0,none⟩)->kT t l most gs->oL t n1 b (kZ t b gs) g P v w.heap.size w'->Ext w w'->R .ret a' w'):Code.wp Tryz.prog aIy R a w:=by
 refine wp_seq ?_;refine rW ?_
 iterate 2 refine lV ?_
 have hx0:Ext w (w.alloc (.cells #[.slice A n c] 25)):=(Ext.refl w).alloc' _;have hB0:=(Blk.new w 25 #[.slice A n c]).cell' (u:=.slice A n c) 0 rfl;refine cJ ?_;generalize ha1:Pt (Pt a 4 (.pointer (some ⟨w.heap.size,0,none⟩))) 8 (.pointer none)=a1;have z1:a1.tmps.size=54:=by subst ha1;simp [hsz]
 have d1:a1.defers=a.defers:=by subst ha1;rfl
 have f4:Ev a1 (.tmp 4)=.pointer (some ⟨w.heap.size,0,none⟩):=by subst ha1;simp [hsz]
 have f1:Ev a1 (.tmp 1)=↑b:=by subst ha1;simp [e1]
 have f2:Ev a1 (.tmp 2)=vl:=by subst ha1;simp [e2]
 have f3:Ev a1 (.tmp 3)=↑(most:Int):=by subst ha1;simp [e3]
 clear ha1;generalize w.alloc (.cells #[.slice A n c] 25)=W at *;have hs0:=hx0.size;refine wp_seq (aKf (z:=0) (R:=fun u w'=>∃ g P' vn',u=.pointer (some ⟨g.c,0,none⟩)∧oL t vn' b [] g P' (.slice none 0 0) W.heap.size w'∧Ext W w') z1 f4 f1 hB0 ((pH t P _ b W (fun k hk=>by have:=hP k hk;omega) (ht.ext hx0) hsm hv hb).mono ?_) ?_)
 ·rintro e w' ⟨g,P',vn',rfl,h1,h2⟩
  exact ⟨_,rfl,g,P',vn',rfl,h1,h2⟩
 rintro a2 u w2 g2 e9 e10 ⟨g,P2,n1,rfl,hC2,hx2⟩;have z2:=g2.sz.trans z1;have hs2:=hx2.size;refine wp_seq (wp_seq (aKe z2 e9 e10 ?_));intro a3 g3 e24;have z3:=g3.sz.trans z2;refine wp_cond_false e24 (wp_skip ?_);have hxa:=hx0.trans' hx2;refine wp_seq (aKd (S:=fun q=>P q∨w2.heap.size<=q) (t:=t) (l:=l) z3 (g3.get 4 (g2.get 4 f4)) (g3.get 2 (g2.get 2 f2)) (g3.get 3 (g2.get 3 f3)) (aA hx2 hB0) (vL t l most P Q _ vl w2 hv hfw hlen hmost (fun q hq=>by have:=hP q hq;omega) (fun q hq=>by have:=hQ q hq;omega) (ht.ext hxa) (hl.ext hxa)) ?_);intro a4 Av cg gs w4 g4 hgv hgl hx4 hsome e11;have z4:=g4.sz.trans z3;refine wp_seq (wp_seq ?_);refine rW ?_
 iterate 1 refine l_v rfl rfl (by simp [execOp,go_sem];exact ⟨rfl,rfl⟩) ?_
 refine cJ ?_;generalize ha5:Pt a4 12 (.int .i64 0)=a5;have z5:a5.tmps.size=54:=by subst ha5;simp [z4]
 have d5:a5.defers=a.defers:=by subst ha5;exact (((g4.df.trans g3.df).trans g2.df).trans d1)
 have h9:Ev a5 (.tmp 9)=.pointer (some ⟨g.c,0,none⟩):=by subst ha5;simp [g4.get 9 (g3.get 9 e9)]
 have h11:Ev a5 (.tmp 11)=.slice Av gs.length cg:=by subst ha5;simp [e11]
 have h12:Ev a5 (.tmp 12)=.int .i64 0:=by subst ha5;simp [z4]
 clear ha5
 refine wp_block (wp_loop (fun a' w'=>∃ k,I26 t n1 b g W.heap.size (fun q=>q<w4.heap.size∧(P q∨w2.heap.size<=q)) gs Av cg a5 w k a' w') (fun a' _=>gs.length - (intOf (Ev a' (.tmp 12))).toNat)
  ⟨0,Ag.rf,Nat.zero_le _,h12,P2,_,hC2.ext hx4,hxa.trans' hx4,hgv,fun q hq hm=>?_,fun q hq=>hq.1⟩ ?_)
 ·have:=hC2.lo q (.inr hm)
  rcases hq.2 with h | h
  ·have:=hP q h;omega
  ·omega
 rintro a6 w6 ⟨k,hI⟩;obtain ⟨hG,hk,e12,P6,v6,hC6,hE6,hgv6,hsep,hZl⟩:=id hI;have z6:=hG.sz.trans z5;refine wp_seq (wp_seq (aKc z6 (hG.get 11 h11) e12 ?_));intro a7 g7 e32;have z7:=g7.sz.trans z6;have hG7:Ag [9,11] a5 a7:=hG.trans (g7.mono rfl)
 by_cases hl:k<gs.length
 ·refine wp_cond_true (e32.trans im) (wp_skip ?_)
  refine wX z5 h9 h11 U hs0 ⟨hG7,hk,g7.get 12 e12,P6,v6,hC6,hE6,hgv6,hsep,hZl⟩ hl ?_;intro a' W' h;refine ⟨⟨k+1,h⟩,?_⟩;rw [h.2.2.1,e12];simp [intOf];omega
 ·refine wp_cond_false (e32.trans im) (wp_exit ?_)
  obtain rfl:k=gs.length:=U
  rw [List.take_length] at hC6;have h79:=hG7.get 9 h9;refine wp_seq ?_;refine rW ?_
  iterate 2 refine l_v rfl rfl (by simp [execOp,go_sem,z7,h79];exact ⟨rfl,rfl⟩) ?_
  exact cJ (wp_ret (hR _ w6 gs n1 g P6 v6 (hG7.df.trans d5) (by simp [z7]) hsome ⟨hC6.cor,fun q hq=>⟨by have:=(hC6.lo q hq).1;omega,(hC6.lo q hq).2⟩⟩ hE6))
theorem aCj {Q:Nat->Prop}(hv:cC t=0)(hfw:∀ x ∈ t,x.kind=3->x.kids.length<=5)(hsm:∀ x ∈ t,jG x)(hlen:t.length<=14)(hmost:most<=1000)(hb:0<=b∧b<=1099511627776)(hP:∀ q,P q->q<w.heap.size)(hQ:∀ q,Q q->q<w.heap.size)(ht:Nds w P vn t)(hl:aU w Q vl l) :
  Calls Tryz.prog 26 #[.agg #[vn],↑b,vl,↑(most:Int)] w (aL9 t b l most w):=by
 obtain ⟨A,c,rfl,-,-⟩:=ht.form;refine calls_of_wp Tryz.func26 aQa (aEs hv hfw hsm hlen hmost hb hP hQ ht hl (by simp [Tryz.ntmps26]) dd dd dd dd ?_);intro a' w' gs n1 g P v h1 h2 h3 h4 h6;refine bodyPost_ret (v:=.pointer (some ⟨g.c,0,none⟩)) ?_ h1 ⟨gs,n1,g,P,v,h3,rfl,h4,h6⟩;have h5:a'.tmps[8]?.getD undef=.pointer (some ⟨g.c,0,none⟩):=by rw [<- h2];simp [Ev,Act.eval]
 simp [results,Tryz.results26,go_sem,h5]
end
noncomputable def aR3:=RG Tryz.f29 0
noncomputable def aR2:=RG Tryz.f29 1
noncomputable def aR1:=RG Tryz.f29 2
noncomputable def aR0:=RG Tryz.f29 3
noncomputable def aRz:=RG Tryz.f29 4
noncomputable def aRy:=RG Tryz.f29 5
noncomputable def aRx:=RG Tryz.f29 6
noncomputable def aRw:=RG Tryz.f29 7
noncomputable def aRv:=RG Tryz.f29 8
noncomputable def aRu:=RG Tryz.f29 9
noncomputable def aNh:=RG Tryz.f29 10
noncomputable def aNg:=RG Tryz.f29 11
noncomputable def aNf:=RG Tryz.f29 12
noncomputable def aNe:=RG Tryz.f29 13
noncomputable def aNd:=RG Tryz.f29 14
noncomputable def aNc:=RG Tryz.f29 15
section
variable {Q:Exit->Act->World->Prop}{a:Act}{w:World}{mx my n c d k m:Nat}{A:Option Addr}{b:Bool}{z:Int}{v:Value}{Z:Nat->Prop}
end
noncomputable abbrev aTk:Code:=.seq (.seq aR0 (.cond (.tmp 16) .skip (.exit 0))) (.seq (.block 1 (.seq aRy (.seq aRx (.cond (.tmp 28) aRw .skip)))) aRz)
noncomputable abbrev aTj:Code:=.seq (.seq aNg (.cond (.tmp 45) .skip (.exit 2))) (.seq (.block 3 (.seq aNe (.cond (.tmp 54) aNd .skip))) aNf)
noncomputable abbrev aU1:Code:=.seq aR3 (.seq aR2 (.seq (.seq aR1 (.block 0 (.loop aTk))) (.seq aRv (.seq aRu (.seq (.seq aNh (.block 2 (.loop aTj))) (.seq aNc .ret))))))
section
variable {t t':List GN}{vn vo:Value}{b b':Int}{L M:List GE}{mx my:Nat}{P:Nat->Prop}{v v':Value}{w w':World}{a:Act}{R:Exit->Act->World->Prop}{d:Nat}{A:Option Addr}
def I29 (t t':List GN)(vn vo:Value)(b b':Int)(L M:List GE)(mx my:Nat)(P:Nat->Prop)(v v':Value)(w:World)(k:Nat)(a0 a:Act)(wr:World):Prop :=
 ∃ v1 vr,a.tmps.size=a0.tmps.size∧a.defers=a0.defers∧k<=M.length∧Ev a (.tmp 0)=.pointer (some ⟨mx,0,none⟩)∧Ev a (.tmp 1)=.pointer (some ⟨my,0,none⟩)∧Ev a (.tmp 5)=vr∧Ev a (.tmp 6)=↑(k:Int) ∧
  MAt t vn b (mg L (M.take k)).1 mx P v1 wr∧Fr (mM mx v) w wr∧(∀ q,mM mx v1 q->mM mx v q∨w.heap.size<=q)∧MAt t' vo b' M my P v' wr∧Pth wr w.heap.size P vr (mg L (M.take k)).2∧(∀ q,vr.ownBlock=some q∨mM my v' q->¬ mM mx v1 q)
def aVk (t:List GN)(vn:Value)(b:Int)(L':List GE)(m:Nat)(P:Nat->Prop)(v:Value)(w w':World):Prop :=
 ∃ v',MAt t vn b L' m P v' w'∧Fr (mM m v) w w'∧∀ q,mM m v' q->mM m v q∨w.heap.size<=q
def aYj (L':List GE)(ps:List (List Int))(A:Option Addr)(d:Nat)(mx:Nat)(k:Nat)(a0 a:Act)(ws w:World):Prop :=
 a.tmps.size=a0.tmps.size∧a.defers=a0.defers∧k<=ps.length∧Ev a (.tmp 0)=.pointer (some ⟨mx,0,none⟩)∧Ev a (.tmp 5)=.slice A ps.length d∧Ev a (.tmp 8)=.int .i64 ((aTh L' (ps.take k):Nat):Int)∧Ev a (.tmp 9)=↑(k:Int)∧Ext ws w
end
noncomputable def aSg:=RG Tryz.f27 0
noncomputable def aNv:=RG Tryz.f27 1
noncomputable def aNu:=RG Tryz.f27 2
noncomputable def aSf:=RG Tryz.f27 3
noncomputable def aNt:=RG Tryz.f27 4
noncomputable def aKt:=RG Tryz.f27 5
noncomputable def aKs:=RG Tryz.f27 6
noncomputable def aSe:=RG Tryz.f27 7
section
variable {Q:Exit->Act->World->Prop}{a:Act}{w:World}{gt m n c i most:Nat}{b:Int}{A:Option Addr}{vn vl:Value}{t:List GN}{l:List Int}{R:World->Prop}
theorem aJ9 (hsz:a.tmps.size=44)(e4:Ev a (.tmp 4)=.pointer (some ⟨gt,0,none⟩))(e1:Ev a (.tmp 1)=↑b)(c4:w.cell? ⟨gt,0,none⟩=some (.slice A n c))
  (h:∀ a',Ag [2,3,4] a a'->Ev a' (.tmp 9)=.pointer (some ⟨w.heap.size,0,none⟩)->Q .normal a' (w.alloc (.cells #[.slice A n c,↑b,.slice none 0 0] 35))):Code.wp Tryz.prog aNv Q a w:=by
 refine rW ?_
 iterate 5 refine lV ?_
 exact cJ (h _ ac ah)
theorem aJ8 (hsz:a.tmps.size=44)(e4:Ev a (.tmp 4)=.pointer (some ⟨gt,0,none⟩))(e2:Ev a (.tmp 2)=vl)(e3:Ev a (.tmp 3)=↑(most:Int))(c4:w.cell? ⟨gt,0,none⟩=some vn){S:Nat->Prop}(hc:Calls Tryz.prog 11 #[.agg #[vn],vl,↑(most:Int)] w (oJ t l S most w))
  (h:∀ a' A c gs w',Ag [9] a a'->Gvs w' (fun b=>b<w'.heap.size∧S b) (.slice A gs.length c) gs->gs.length<=most->Ext w w'->kT t l most gs->Ev a' (.tmp 10)=.slice A gs.length c->Q .normal a' w'):Code.wp Tryz.prog aNu Q a w:=by
 refine rW ?_
 iterate 3 refine lV ?_
 refine l_c rfl rfl rfl Tryz.func11 al al hc ah ?_;rintro e w' ⟨A,c,gs,rfl,h1,h2,h3,h4⟩;refine ⟨_,rfl,?_⟩
 iterate 1 refine l_v rfl rfl (by simp [execOp,go_sem,hsz];exact ⟨rfl,rfl⟩) ?_
 exact cJ (h _ A c gs w' ac h1 h2 h3 h4 eq)
theorem aJ7 (hsz:a.tmps.size=44)(e10:Ev a (.tmp 10)=.slice A n c)(e11:Ev a (.tmp 11)=↑(i:Int))(h:∀ a',Ag [9,10,11] a a'->Ev a' (.tmp 23)=.bool (decide (i<n))->Q .normal a' w):Code.wp Tryz.prog aNt Q a w:=by
 refine rW ?_
 iterate 4 refine lV ?_
 exact cJ (h _ ac ah)
theorem aJ6 (hsz:a.tmps.size=44)(e11:Ev a (.tmp 11)=↑(i:Int))(hw:IntKind.i64.wrap ((i:Int)+1)=(i:Int)+1)(h:∀ a',Ag [9,10] a a'->Ev a' (.tmp 11)=.int .i64 ((i+1:Nat):Int)->Q .normal a' w):Code.wp Tryz.prog aKt Q a w:=by
 refine rW ?_
 iterate 3 refine lV ?_
 exact cJ (h _ ac ah)
theorem aJ5 {bg og d:Nat}{x:GG}{A':Option Addr}{r1:Bool}{r2:Int}(hsz:a.tmps.size=44)(e9:Ev a (.tmp 9)=.pointer (some ⟨m,0,none⟩))(e10:Ev a (.tmp 10)=.slice (some ⟨bg,og,none⟩) n c)(e11:Ev a (.tmp 11)=↑(i:Int))(hi:(i:Int)<(n:Int))(hG:∀ w',Ext w w'->GS bg (og+i*5) x A' d w')
  (hc2:∀ w1,Ext w w1->Calls Tryz.prog 14 #[.pointer (some ⟨m,0,none⟩),.slice A' x.path.length d,.agg #[↑x.kind,↑x.at_,↑x.code],.bool x.fresh] w1 fun e w'=>e=.returned (.tuple #[.bool r1,↑r2])∧R w'∧GS bg (og+i*5) x A' d w')
  (h:∀ a' w',Ag [9,10,11] a a'->R w'->Q .normal a' w'):Code.wp Tryz.prog aKs Q a w:=by
 conv=>arg 2;whnf
 have hx0:Ext w w.drew:=(Ext.refl w).drew';have hS:=hG _ hx0;refine fG (GS bg (og+i*5) x A' d) (fun _=>true) 17 aa aa ?_;generalize w.drew=W at *;refine d_t 1 [0,1,2,3,4,5,6,7,8,9,10,11,12,13,14,15] rfl aa hS ?_
 iterate 16 refine t_v rfl rfl rfl (fun w hw=>by simp [execOp,go_sem,hw.1,hw.2.1,hw.2.2.1,hw.2.2.2.1,hw.2.2.2.2,hsz,e9,e10,e11,hi];rfl) ?_
 refine t_e ?_;refine d_c 16 aa rfl rfl rfl rfl Tryz.func14 al al (hc2 W hx0) eq ?_;rintro e w2 ⟨rfl,hR,hS⟩;refine ⟨_,rfl,fun _=>hS,?_⟩;exact wZ aa (h _ _ ac hR)
end
noncomputable abbrev aW6:Code:=.seq (.seq aNt (.cond (.tmp 23) .skip (.exit 0))) (.seq (.block 1 aKs) aKt)
noncomputable abbrev aIx:Code:=.seq aSg (.seq aNv (.seq aNu (.seq (.seq aSf (.block 0 (.loop aW6))) (.seq aSe .ret))))
theorem aP9:Tryz.f27.body=some aIx:=aa
def aIb (t:List GN)(vn:Value)(b:Int)(l:List Int)(most:Nat)(P:Nat->Prop)(w:World)(e:Ending)(w':World):Prop :=
 ∃ gs m ve P',kT t l most gs∧e=.returned (.pointer (some ⟨m,0,none⟩))∧MAt t vn b (kZ t b gs) m P' ve w'∧(∀ q,mM m ve q->w.heap.size<=q)∧(∀ q,P' q->P q∨w.heap.size<=q)∧Ext w w'
section
variable {t:List GN}{vn vl:Value}{b:Int}{L:List GE}{m:Nat}{P Z:Nat->Prop}{w w1 ws:World}{a a0:Act}{gs:List GG}{Av:Option Addr}{cg most:Nat}{l:List Int}{R:Exit->Act->World->Prop}
def I27 (t:List GN)(vn:Value)(b:Int)(m:Nat)(Z:Nat->Prop)(gs:List GG)(Av:Option Addr)(cg:Nat)(a0:Act)(w:World)(k:Nat)(a:Act)(wr:World):Prop :=
 Ag [9,10] a0 a∧k<=gs.length∧Ev a (.tmp 11)=↑(k:Int)∧∃ v,MAt t vn b (kZ t b (gs.take k)) m Z v wr∧Ext w wr∧Gvs wr Z (.slice Av gs.length cg) gs∧∀ q,mM m v q->w.heap.size<=q
theorem uB {k:Nat}(hd:∀ p:List Int,p.length<=1000->RdT t p)(hvl:∀ x ∈ t,x.values.length<=1000000)(hsz:a0.tmps.size=44)(e9:Ev a0 (.tmp 9)=.pointer (some ⟨m,0,none⟩))(e10:Ev a0 (.tmp 10)=.slice Av gs.length cg)(hlen:gs.length<=1000)(hI:I27 t vn b m Z gs Av cg a0 w k a w1)(hk:k<gs.length)
  (hR:∀ a' w',I27 t vn b m Z gs Av cg a0 w (k+1) a' w'->R .normal a' w'):Code.wp Tryz.prog (.seq (.block 1 aKs) aKt) R a w1:=by
 obtain ⟨hG,-,e11,v,hC,hE,hgv,hM⟩:=hI;have z1:=hG.sz.trans hsz;have hfl:=oH (t:=t) (b:=b) (gs:=gs) k U;have hsn:=pU (t:=t) (b:=b) hk;obtain ⟨bg,og,A1,d1,rfl,hSb,ga,gc⟩:=hgv.get hk;have hgs:=GS.of gc;have hsh:=ga.short;generalize gs.getD k default=x at *;generalize kZ t b (gs.take k)=L at *
 have hsep:∀ q,Z q->¬ mM m v q:=fun q hq hm=>by
  have:=hC.excl q hq;exact hm.elim this.1 this.2
 refine wp_seq (wp_block (aJ5 (R:=fun w'=>dA t vn b (qE (aO t) b L (mkE x.path x.kind x.at_ x.code x.fresh)) m Z v w1 w') (r1:=uV (aO t) b L (mkE x.path x.kind x.at_ x.code x.fresh)) (r2:=aBd (aO t) (mkE x.path x.kind x.at_ x.code x.fresh)) z1 (hG.get 9 e9) (hG.get 10 e10) e11 U (fun w' h=>hgs.ext h)
  (fun w2 hx=>(aG3 (f:=x.fresh) (hC.ext hx) (hd _ U) hvl (ga.path.ext hx) ga.kind ga.at_ ga.code U U).mono ?_) ?_))
 ·rintro e w' ⟨rfl,v',q1,q2,q3⟩
  have:=hx.size;have hF:Fr (mM m v) w1 w':=(Fr.of_ext hx).trans q2;exact ⟨rfl,⟨v',q1,hF,fun q hq=>(q3 q hq).imp id (fun h=>by omega)⟩,hgs.keep (aB.of_fr hF hsep) hSb⟩
 rintro a2 w2 g2 ⟨v2,hC2,hF2,hb2⟩;have z2:=g2.sz.trans z1;have hsE:=hE.size;refine aJ6 (i:=k) z2 (g2.get 11 e11) (IntWalk.i64_in _ U) ?_;intro a3 g3 e11';refine hR _ _ ⟨hG.trans ((g2.mono rfl).trans g3),hk,e11',v2,by rw [hsn];exact hC2,((Fr.of_ext hE).trans hF2).new_ext hM,hgv.carry (aB.of_fr hF2 hsep) (fun _ _ h=>h),fun q hq=>?_⟩;rcases hq with hq | hq
 ·exact hM q (.inl hq)
 ·rcases hb2 q hq.symm with h | h
  ·exact hM q (.inr h.symm)
  ·omega
theorem aCk {Q:Nat->Prop}{A:Option Addr}{n c:Nat}(hd:∀ p:List Int,p.length<=1000->RdT t p)(hvl:∀ x ∈ t,x.values.length<=1000000)(hv:cC t=0)(hfw:∀ x ∈ t,x.kind=3->x.kids.length<=5)(hlen:t.length<=14)(hmost:most<=1000)(hb:0<=b∧b<=1099511627776)(hP:∀ q,P q->q<w.heap.size)(hQ:∀ q,Q q->q<w.heap.size)(ht:Nds w P (.slice A n c) t)(hl:aU w Q vl l)
  (hsz:a.tmps.size=44)(e0:Ev a (.tmp 0)=.agg #[.slice A n c])(e1:Ev a (.tmp 1)=↑b)(e2:Ev a (.tmp 2)=vl)(e3:Ev a (.tmp 3)=↑(most:Int))
  (hR:∀ a' w' gs m ve P',a'.defers=a.defers->Ev a' (.tmp 8)=.pointer (some ⟨m,0,none⟩)->kT t l most gs->MAt t (.slice A n c) b (kZ t b gs) m P' ve w'->(∀ q,mM m ve q->w.heap.size<=q)->(∀ q,P' q->P q∨w.heap.size<=q)->Ext w w'->R .ret a' w'):Code.wp Tryz.prog aIx R a w:=by
 refine wp_seq ?_;refine rW ?_
 iterate 2 refine lV ?_
 have hx0:Ext w (w.alloc (.cells #[.slice A n c] 25)):=(Ext.refl w).alloc' _;have hB0:=(Blk.new w 25 #[.slice A n c]).cell' (u:=.slice A n c) 0 rfl;refine cJ ?_;generalize ha1:Pt (Pt a 4 (.pointer (some ⟨w.heap.size,0,none⟩))) 8 (.pointer none)=a1;have z1:a1.tmps.size=44:=by subst ha1;simp [hsz]
 have d1:a1.defers=a.defers:=by subst ha1;rfl
 have f4:Ev a1 (.tmp 4)=.pointer (some ⟨w.heap.size,0,none⟩):=by subst ha1;simp [hsz]
 have f1:Ev a1 (.tmp 1)=↑b:=by subst ha1;simp [e1]
 have f2:Ev a1 (.tmp 2)=vl:=by subst ha1;simp [e2]
 have f3:Ev a1 (.tmp 3)=↑(most:Int):=by subst ha1;simp [e3]
 clear ha1;generalize w.alloc (.cells #[.slice A n c] 25)=W at *;have hs0:=hx0.size;refine wp_seq (aJ9 z1 f4 f1 hB0 ?_);intro a2 g2 e9;have z2:=g2.sz.trans z1;have hx2:Ext W (W.alloc (.cells #[.slice A n c,↑b,.slice none 0 0] 35)):=(Ext.refl W).alloc' _;have hs2:(W.alloc (.cells #[.slice A n c,↑b,.slice none 0 0] 35)).heap.size=W.heap.size+1:=by simp
 have hBm:=Blk.new W 35 #[.slice A n c,↑b,.slice none 0 0];generalize W.alloc (.cells #[.slice A n c,↑b,.slice none 0 0] 35)=w2 at *;have hxa:=hx0.trans' hx2;refine wp_seq (aJ8 (S:=fun q=>P q∨w2.heap.size<=q) (t:=t) (l:=l) z2 (g2.get 4 f4) (g2.get 2 f2) (g2.get 3 f3) (aA hx2 hB0) (vL t l most P Q _ vl w2 hv hfw hlen hmost (fun q hq=>by have:=hP q hq;omega) (fun q hq=>by have:=hQ q hq;omega) (ht.ext hxa) (hl.ext hxa)) ?_);intro a4 Av cg gs w4 g4 hgv hgl hx4 hsome e10;have z4:=g4.sz.trans z2;refine wp_seq (wp_seq ?_);refine rW ?_
 iterate 1 refine l_v rfl rfl (by simp [execOp,go_sem];exact ⟨rfl,rfl⟩) ?_
 refine cJ ?_;generalize ha5:Pt a4 11 (.int .i64 0)=a5;have z5:a5.tmps.size=44:=by subst ha5;simp [z4]
 have d5:a5.defers=a.defers:=by subst ha5;exact ((g4.df.trans g2.df).trans d1)
 have h9:Ev a5 (.tmp 9)=.pointer (some ⟨W.heap.size,0,none⟩):=by subst ha5;simp [g4.get 9 e9]
 have h10:Ev a5 (.tmp 10)=.slice Av gs.length cg:=by subst ha5;simp [e10]
 have h11:Ev a5 (.tmp 11)=.int .i64 0:=by subst ha5;simp [z4]
 clear ha5
 have hmx:∀ q,(q<w4.heap.size∧(P q∨w2.heap.size<=q))->q ≠ W.heap.size:=by
  intro q hq e;rcases hq.2 with h | h
  ·have:=hP q h
   omega
  ·omega
 have hM0:MAt t (.slice A n c) b [] W.heap.size (fun q=>q<w4.heap.size∧(P q∨w2.heap.size<=q)) (.slice none 0 0) w4 :=
  ⟨hBm.ext hx4,(ht.ext (hxa.trans' hx4)).carry (fun _ _ _=>rfl) (fun q hq h=>⟨hq,.inl h⟩),⟨[],aN _ _ _ _,ey⟩,fun q hq=>⟨hmx q hq,dg⟩,dg,by simp [uW],hb,Y,Y,fun q hq=>hq.1⟩
 refine wp_block (wp_loop (fun a' w'=>∃ k,I27 t (.slice A n c) b W.heap.size (fun q=>q<w4.heap.size∧(P q∨w2.heap.size<=q)) gs Av cg a5 w k a' w') (fun a' _=>gs.length - (intOf (Ev a' (.tmp 11))).toNat)
  ⟨0,Ag.rf,Nat.zero_le _,h11,_,hM0,hxa.trans' hx4,hgv,fun q hm=>?_⟩ ?_)
 ·rcases hm with hm | hm
  ·omega
  ·simp [Value.ownBlock] at hm
 rintro a6 w6 ⟨k,hI⟩;obtain ⟨hG,hk,e11,v6,hC6,hE6,hgv6,hM6⟩:=id hI;have z6:=hG.sz.trans z5;refine wp_seq (wp_seq (aJ7 z6 (hG.get 10 h10) e11 ?_));intro a7 g7 e23;have z7:=g7.sz.trans z6;have hG7:Ag [9,10] a5 a7:=hG.trans (g7.mono rfl)
 by_cases hl:k<gs.length
 ·refine wp_cond_true (e23.trans im) (wp_skip ?_)
  refine uB hd hvl z5 h9 h10 U ⟨hG7,hk,g7.get 11 e11,v6,hC6,hE6,hgv6,hM6⟩ hl ?_;intro a' W' h;refine ⟨⟨k+1,h⟩,?_⟩;rw [h.2.2.1,e11];simp [intOf];omega
 ·refine wp_cond_false (e23.trans im) (wp_exit ?_)
  obtain rfl:k=gs.length:=U
  rw [List.take_length] at hC6;have h79:=hG7.get 9 h9;refine wp_seq ?_;refine rW ?_
  iterate 2 refine l_v rfl rfl (by simp [execOp,go_sem,z7,h79];exact ⟨rfl,rfl⟩) ?_
  exact cJ (wp_ret (hR _ w6 gs W.heap.size v6 _ (hG7.df.trans d5) (by simp [z7]) hsome hC6 hM6 (fun q hq=>hq.2.imp id (fun h=>by omega)) hE6))
theorem zD {Q:Nat->Prop}(hd:∀ p:List Int,p.length<=1000->RdT t p)(hvl:∀ x ∈ t,x.values.length<=1000000)(hv:cC t=0)(hfw:∀ x ∈ t,x.kind=3->x.kids.length<=5)(hlen:t.length<=14)(hmost:most<=1000)(hb:0<=b∧b<=1099511627776)(hP:∀ q,P q->q<w.heap.size)(hQ:∀ q,Q q->q<w.heap.size)(ht:Nds w P vn t)(hl:aU w Q vl l) :
  Calls Tryz.prog 27 #[.agg #[vn],↑b,vl,↑(most:Int)] w (aIb t vn b l most P w):=by
 obtain ⟨A,c,rfl,-,-⟩:=ht.form;refine calls_of_wp Tryz.func27 aP9 (aCk hd hvl hv hfw hlen hmost hb hP hQ ht hl (by simp [Tryz.ntmps27]) dd dd dd dd ?_);intro a' w' gs m ve P' h1 h2 h3 h4 h6 h7 h8;refine bodyPost_ret (v:=.pointer (some ⟨m,0,none⟩)) ?_ h1 ⟨gs,m,ve,P',h3,rfl,h4,h6,h7,h8⟩;have h5:a'.tmps[8]?.getD undef=.pointer (some ⟨m,0,none⟩):=by rw [<- h2];simp [Ev,Act.eval]
 simp [results,Tryz.results27,go_sem,h5]
end
end Go.Proofs.YtkoeecdjijfjnaaGreat
