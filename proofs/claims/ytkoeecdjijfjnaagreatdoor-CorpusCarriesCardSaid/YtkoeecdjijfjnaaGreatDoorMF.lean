/- Contracts and laws. Conditions: none. -/
import Derived.Test.YtkoeecdjijfjnaaGreatDoorFC
import Derived.Test.YtkoeecdjijfjnaaGreatDoorSC
import Derived.Test.YtkoeecdjijfjnaaGreatDoorSH
set_option linter.all false
set_option maxRecDepth 100000
set_option maxHeartbeats 8000000
namespace Go.Proofs.YtkoeecdjijfjnaaGreatDoor
open Go.RowKit
theorem xd {α:Type}{l:List α}{k:Nat}(d:α)(hk:k<l):l.take (k+1)=l.take k ++ [l.getD k d]:=by
 rw [List.take_add_one];simp [List.getD,hk]
section
variable {L M:List GE}{k:Nat}
end
section
variable {w w':World}{B:Nat}{P P':Nat->Prop}{v:Value}{ps:List (List Int)}
end
section
variable {ops:Array Oper}{Q:Exit->Act->World->Prop}{a:Act}{w w1:World}{rest:List Oper}{o:Oper}{d gd j:Nat}{v:Value}{want b:Bool}
theorem l_y (hg:o.guard=some (j,want))(hj:(ops[j]?).bind (fun x=>x.dst)=some gd)(hd:o.dst=some d)(hs:gd<a.tmps.size)(he:Ev a (.tmp gd)=.bool b)(hb:(b == want)=true)(hrun:(execOp (Ev a) o).run Tryz.prog w=.ok (.value v) w1)(h:WL ops Q rest (Pt a d v) w1):WL ops Q (o :: rest) a w:=za d v gd hg hj hs he hb hd hrun h
end
theorem Lt {t:List GN}{i:Nat}(h:aO t i){j:Nat}(hj:j<i):(t.getD j default).weights.length<=256∧(t.getD j default).labels.length<=256:=by
 have hn:=(h.at_ hj).node;generalize t.getD j default=x at *;have hu:=hn.unused;unfold gO unA unB unC at hu;simp only [Bool.and_eq_true,Bool.not_eq_true',Bool.or_eq_false_iff,Bool.and_eq_false_imp,Bool.or_eq_true,decide_eq_false_iff_not,decide_eq_true_eq,Bool.not_eq_false'] at hu;by_cases h2:x.kind=2
 ·have hc:=hn.choice h2
  rcases hc.2.2.2 with h3 | h3 <;> omega
 ·have h3:=hu.1.2.1 h2
  omega
theorem fG.m {t:List GN}(h:fG t):∀ x ∈ t,fI x:=by
 intro x hx;obtain ⟨j,hj,rfl⟩:=List.getElem_of_mem hx;have hg:=dH.1 h.good;have e:t.getD j default=t[j]:=by simp [hj]
 have h1:=Lt hg hj;have h2:=cJ hg hj;rw [e] at h1 h2;have h3:=h.small _ (List.getElem_mem hj);exact ⟨I,I,I,I,h3.2.2.2.2.1,h3.2.2.2.2.2⟩
def MC (t:List GN)(n1 vn:Value)(b:Int)(Lc Lm:List GE)(g:CA)(m:Nat)(S:Nat->Prop)(B:Nat)(w:World):Prop :=
 ∃ P1 v1 vm,oG t n1 b Lc g P1 v1 B w∧MAt t vn b Lm m S vm w∧(∀ k,mM m vm k->B<=k)∧(∀ k,S k∨mM m vm k->¬ g.M v1 k)∧∀ k,P1 k∨g.M v1 k->¬ mM m vm k
section
variable {t:List GN}{n1 vn:Value}{b:Int}{Lc Lm L:List GE}{g:CA}{m:Nat}{S:Nat->Prop}{B:Nat}{w w':World}
structure MF (S:Nat->Prop)(B:Nat)(w w':World):Prop where
 fr:Fr (fun k=>B<=k) w w'
 keep:aB S w w'
end
def fC:List GN:=[⟨1,⟨#[]⟩,0,9,[],[],[],[],.mk 0 0 ⟨#[]⟩ []⟩]
theorem BJ:aQ fC [5]=true:=av
theorem ri:aQ fC [3]=true:=av
theorem AG:aQ fC [8]=true:=av
theorem tF:bE fC=0:=av
theorem tG:∀ x ∈ fC,dG x:=by
 intro x hx;simp only [fC,List.mem_singleton] at hx;subst hx;refine ⟨U,U,U,U,eq,U⟩
def ent (z:Int)(f:Bool):GE:=mkE [z] 0 0 0 f
def lc1:List GE:=rQ (aQ fC) 7 [] (ent 5 false)
def lc2:List GE:=rQ (aQ fC) 7 lc1 (ent 3 false)
def lc3:List GE:=rQ (aQ fC) 7 lc2 (ent 8 false)
def ld3:List GE:=rQ (aQ fC) 7 lc2 (ent 8 true)
def ld4:List GE:=rQ (aQ fC) 7 ld3 (ent 3 false)
theorem JQ:lc1=[ent 5 false]:=av
theorem Kn:lc2=[ent 3 false,ent 5 false]:=av
theorem Jm:lc3=[ent 3 false,ent 5 false]:=av
theorem Er:ld3=[ent 3 false,ent 8 true]:=av
theorem sj:ld4=[{ ent 3 false with hits:=2 },ent 8 true]:=av
theorem ll1:lc1.length<=10:=by rw [JQ];decide
theorem ll2:lc2.length<=10:=by rw [Kn];decide
theorem ll3:lc3.length=2:=by rw [Jm];rfl
theorem Id:ld3.length<=10:=by rw [Er];decide
theorem ET:ld4.length=2:=by rw [sj];rfl
theorem lb1:wZ (aQ fC) 7 [] (ent 5 false)=true:=av
theorem lb2:wZ (aQ fC) 7 lc1 (ent 3 false)=true:=av
theorem lb3:wZ (aQ fC) 7 lc2 (ent 8 false)=false:=av
theorem Fx:wZ (aQ fC) 7 lc2 (ent 8 true)=true:=av
theorem EQ:wZ (aQ fC) 7 ld3 (ent 3 false)=false:=av
theorem li (z:Int)(f:Bool)(h:aQ fC [z]=true):ka (aQ fC) (ent z f)=0:=by
 unfold ka;rw [show (ent z f).path=[z] from rfl,h];rfl
theorem Ik:dK lc3=6:=av
theorem Dd:hU [5] lc3=true:=av
theorem IV:hU [5] ld4=false:=av
theorem CQ:hU [8] ld4=true:=av
noncomputable def R23:=RG Tryz.f18
noncomputable abbrev AX:Code:=.seq (R23 13) (.seq (.seq (R23 14) (.cond (.tmp 87) (.seq (R23 15) .ret) .skip)) (.seq (R23 16) .ret))
noncomputable abbrev AQ:Code:=.seq (R23 6) (.seq (R23 7) (.seq (R23 8) (.seq (R23 9) (.seq (R23 10) (.seq (R23 11) (.seq (R23 12) AX))))))
noncomputable abbrev xy:Code:=.seq (R23 0) (.seq (R23 1) (.seq (R23 2) (.seq (R23 3) (.seq (.seq (R23 4) (.cond (.tmp 39) (.seq (R23 5) .ret) .skip)) AQ))))
theorem J0:Tryz.f18.body=some xy:=av
theorem pD (w:World)(z:Int)(hz:I64 z):bL (w.alloc (qk #[↑z] 3)) (fun b=>b=w.heap.size) (.slice (qp w) 1 1) [z] :=
 ⟨some ↑(qp w),1,rfl,ab _,U,d9,U,fun _=>⟨w.heap.size,0,rfl,rfl,fun j u hu=>by rw [jF];simpa using hu⟩⟩
theorem jC {n1 n2:Value}{L1 L2 L1':List GE}{g1 g2:CA}{B:Nat}{w:World}{r:Bool}(h:iB fC n1 n2 7 7 L1 L2 g1 g2 B w)(z:Int)(f:Bool)(hz:I64 z)(hw:aQ fC [z]=true)(hr:wZ (aQ fC) 7 L1 (ent z f)=r)(hL:rQ (aQ fC) 7 L1 (ent z f)=L1')(hfew:L1.length<=10) :
  Calls Tryz.prog 25 #[qp g1.c,.slice (qp w) 1 1,ke 0 0 0,f] (w.alloc (qk #[↑z] 3)) fun e w'=>e=.returned (.tuple #[r,qz])∧(iB fC n1 n2 7 7 L1' L2 g1 g2 B w'∧Fr (fun k=>B<=k) w w'):=by
 refine (h.add ((aq w).alloc' _) (pD w z hz) (fun i hi=>.inr I) 0 0 0 f cu cu cu I U).mono ?_;rintro e w' ⟨rfl,h1,h2⟩;subst hr hL;refine ⟨?_,h1,(ar ((aq w).alloc' _)).trans h2⟩;rw [show mkE [z] 0 0 0 f=ent z f from rfl,li z f hw]
section
variable {a:Act}{w ws:World}{g1 g2:CA}{n1 n2:Value}{B:Nat}{R:Exit->Act->World->Prop}
theorem KL (sz:a.tmps.size=125)(df:a.defers=[])(e2:qq a 2 (qp g1.c))(e4:qq a 4 (qp g2.c))(e6:qq a 6 false)(e8:qq a 8 true)(e10:qq a 10 false)(h:iB fC n1 n2 7 7 lc3 ld4 g1 g2 B w)(hF:Fr (fun k=>B<=k) ws w)(hB:ws<=B)
  (hQ:∀ a' w',a'.defers=[]->qq a' 0 true->Ext ws w'->R .ret a' w'):qw AX R a w:=by
 refine rS ?_;refine lv ?_;refine lc Tryz.func41 h.swap.entriesOf ?_;rintro e w1 ⟨A,c,rfl,hE,hx⟩;refine ⟨_,rfl,?_⟩;refine lv ?_;refine lE a [2,4,6,8,10] 12 ?_;intro a1 u1 e12;have h1:=h.ext hx;rw [ET] at e12;rw [sj] at hE;obtain ⟨b,off,A',d,rfl,-,-,hgc⟩:=hE.get (i:=0) dx;have sz1:=u1.sz.trans sz;have f2:=u1.get 2 e2;refine wp_seq (rS ?_);iterate 4 refine lv ?_
 refine ly ?_;refine lcg Tryz.func41 h1.entriesOf ?_;rintro e w2 ⟨A2,c2,rfl,-,hx2⟩;have l3:=ll3;refine ⟨_,rfl,?_⟩;iterate 2 refine ly ?_
 refine lv ?_;refine lE a1 [2,4,6,8,10,12] 87 ?_;intro a2 u2 e87;refine wp_cond_false e87 (wp_skip ?_);have h2:=h1.ext hx2;have hits:=aA hx2 (hgc 5 (.int .i64 2) rfl);have bt:=h2.bytes;rw [Ik] at bt;have sz2:=u2.sz.trans sz1;have g2':=u2.get 2 f2;have g4:=u2.get 4 (u1.get 4 e4);have g6:=u2.get 6 (u1.get 6 e6);have g8:=u2.get 8 (u1.get 8 e8);have g10:=u2.get 10 (u1.get 10 e10);have g12:=u2.get 12 e12;refine rS ?_;iterate 3 refine lv ?_
 refine ly ?_;iterate 2 refine lv ?_
 iterate 2 refine ly ?_
 iterate 2 refine lv ?_
 refine ly ?_;refine lcg Tryz.func16 bt ?_;rintro e w3 ⟨rfl,hx3⟩;refine ⟨_,rfl,?_⟩;refine ly ?_;iterate 2 refine lv ?_
 iterate 2 refine ly ?_
 have hx3':=hx3.alloc' (qk #[.int .i64 5] 3);have q:=(h2.ext hx3').has (pD w3 5 cu);rw [Dd] at q;refine lcg Tryz.func43 q ?_;rintro e w4 ⟨rfl,hx4⟩;refine ⟨_,rfl,?_⟩;iterate 2 refine lv ?_
 iterate 2 refine ly ?_
 have hx4':=(hx3'.trans' hx4).alloc' (qk #[.int .i64 5] 3);have q:=(h2.ext hx4').swap.has (pD w4 5 cu);rw [IV] at q;refine lcg Tryz.func43 q ?_;rintro e w5 ⟨rfl,hx5⟩;refine ⟨_,rfl,?_⟩;refine ly ?_;iterate 2 refine lv ?_
 iterate 2 refine ly ?_
 have hx5':=(hx4'.trans' hx5).alloc' (qk #[.int .i64 8] 3);have q:=(h2.ext hx5').swap.has (pD w5 8 cu);rw [CQ] at q;refine lcg Tryz.func43 q ?_;rintro e w6 ⟨rfl,hx6⟩;refine ⟨_,rfl,?_⟩;have hx6':=hx5'.trans' hx6;have hits6:=aA hx6' hits;iterate 2 refine lv ?_
 iterate 5 refine ly ?_
 iterate 2 refine lv ?_
 refine lE a2 [] 0 ?_;intro a3 u3 e0;refine wp_ret (hQ a3 w6 (u3.df.trans (u2.df.trans (u1.df.trans df))) e0 ?_);exact (((hF.trans (.of_ext hx)).trans (.of_ext hx2)).trans (.of_ext hx6')).new_ext (fun b hb=>by omega)
theorem Mo (sz:a.tmps.size=125)(df:a.defers=[])(e2:qq a 2 (qp g1.c))(e4:qq a 4 (qp g2.c))(h:iB fC n1 n2 7 7 [] [] g1 g2 B w)(hF:Fr (fun k=>B<=k) ws w)(hB:ws<=B)
  (hQ:∀ a' w',a'.defers=[]->qq a' 0 true->Ext ws w'->R .ret a' w'):qw AQ R a w:=by
 refine rS ?_;iterate 3 refine lv ?_
 refine lc Tryz.func25 (jC (L1':=lc1) h 5 false cu BJ lb1 rfl U) ?_ (hv:=by simp [ke, *]);rintro e w1 ⟨rfl,h1,f1⟩;refine ⟨_,rfl,?_⟩;refine lN a [2,4] ?_;intro a1 u1;refine u1.c2 sz df e2 e4 fun sz df e2 e4=>?_
 refine rS ?_;iterate 3 refine lv ?_
 refine lc Tryz.func25 (jC (L1':=lc2) h1 3 false cu ri lb2 rfl ll1) ?_ (hv:=by simp [ke, *]);rintro e w2 ⟨rfl,h2,f2⟩;refine ⟨_,rfl,?_⟩;refine lN a1 [2,4] ?_;intro a2 u2;refine u2.c2 sz df e2 e4 fun sz df e2 e4=>?_
 refine rS ?_;iterate 3 refine lv ?_
 refine lc Tryz.func25 (jC (L1':=lc3) h2 8 false cu AG lb3 rfl ll2) ?_ (hv:=by simp [ke, *]);rintro e w3 ⟨rfl,h3,f3⟩;refine ⟨_,rfl,?_⟩;iterate 5 refine lv ?_
 refine lE a2 [2,4] 6 ?_;intro a3 u3 e6;refine u3.c2 sz df e2 e4 fun sz df e2 e4=>?_
 refine rS ?_;iterate 3 refine lv ?_
 refine lc Tryz.func25 (jC (L1':=lc1) h3.swap 5 false cu BJ lb1 rfl U) ?_ (hv:=by simp [ke, *]);rintro e w4 ⟨rfl,h4,f4⟩;refine ⟨_,rfl,?_⟩;refine lN a3 [2,4,6] ?_;intro a4 u4;refine u4.c3 sz df e2 e4 e6 fun sz df e2 e4 e6=>?_
 refine rS ?_;iterate 3 refine lv ?_
 refine lc Tryz.func25 (jC (L1':=lc2) h4 3 false cu ri lb2 rfl ll1) ?_ (hv:=by simp [ke, *]);rintro e w5 ⟨rfl,h5,f5⟩;refine ⟨_,rfl,?_⟩;refine lN a4 [2,4,6] ?_;intro a5 u5;refine u5.c3 sz df e2 e4 e6 fun sz df e2 e4 e6=>?_
 refine rS ?_;iterate 3 refine lv ?_
 refine lc Tryz.func25 (jC (L1':=ld3) h5 8 true cu AG Fx rfl ll2) ?_ (hv:=by simp [ke, *]);rintro e w6 ⟨rfl,h6,f6⟩;refine ⟨_,rfl,?_⟩;iterate 5 refine lv ?_
 refine lE a5 [2,4,6] 8 ?_;intro a6 u6 e8;refine u6.c3 sz df e2 e4 e6 fun sz df e2 e4 e6=>?_
 refine rS ?_;iterate 3 refine lv ?_
 refine lc Tryz.func25 (jC (L1':=ld4) h6 3 false cu ri EQ rfl Id) ?_ (hv:=by simp [ke, *]);rintro e w7 ⟨rfl,h7,f7⟩;refine ⟨_,rfl,?_⟩;iterate 5 refine lv ?_
 refine lE a6 [2,4,6,8] 10 ?_;intro a7 u7 e10;exact KL (u7.sz.trans sz) (u7.df.trans df) (u7.get 2 e2) (u7.get 4 e4) (u7.get 6 e6) (u7.get 8 e8) e10 h7.swap (((((((hF.trans f1).trans f2).trans f3).trans f4).trans f5).trans f6).trans f7) hB hQ
theorem Ki (sz:a.tmps.size=125)(df:a.defers=[])(hQ:∀ a' w',a'.defers=[]->qq a' 0 true->Ext w w'->R .ret a' w'):qw xy R a w:=by
 refine rS ?_;refine lv ?_;refine lN a [] ?_;intro a1 u1;refine u1.c0 sz df fun sz df=>?_
 obtain ⟨W1,hW1⟩:∃ W1,W1=w.alloc (qk (aN (⟨1,⟨#[]⟩,0,9,[],[],[],[],.mk 0 0 ⟨#[]⟩ []⟩:GN) ⟨none,0,none,0,none,0,none,0,none,0⟩).toArray 60):=⟨_,rfl⟩;have xs1:W1.heap.size=w+1:=by rw [hW1];exact World.size_alloc _ _
 have x1:Ext w W1:=by rw [hW1];exact (aq w).alloc' _
 have nd1:Nds W1 (fun b=>b=w.heap.size) (.slice (qp w) 1 1) fC:=by
  refine ⟨some ↑(qp w),1,aN (⟨1,⟨#[]⟩,0,9,[],[],[],[],.mk 0 0 ⟨#[]⟩ []⟩:GN) ⟨none,0,none,0,none,0,none,0,none,0⟩,rfl,ab _,by simp [fC],⟨rfl,fun _=>⟨w.heap.size,0,rfl,rfl,fun j u hu=>by rw [hW1,jF];simpa using hu⟩⟩,?_⟩;exact RL.one ⟨⟨none,0,none,0,none,0,none,0,none,0⟩,rfl,⟨cu,dl,cu,cu,bL.nil,nS.nil,bZ.nil,bL.nil,VAt.noKids cu cu dx⟩⟩
 refine rS ?_;refine lv ?_;refine lv (w1:=W1) (v:=.slice (qp w) 1 1) ?_ rfl rfl (by rw [hW1];simp [execOp,go_sem, *];rfl);clear hW1;have b2:=az W1 25 #[qn] xs1.symm;have x2:Ext W1 (W1.alloc (qk #[qn] 25)):=(aq W1).alloc' _;iterate 2 refine lv ?_
 generalize W1.alloc (qk #[qn] 25)=W2 at *;refine ls ?_ rfl rfl (by simp [execOp,go_sem,b2.cell,b2.frozen,sz];rfl);refine lE a1 [] 1 ?_;intro a2 u2 e1;replace b2:=b2.set_ 0 (.slice (qp w) 1 1);replace x2:Ext W1 (W2.setCell (qp (w+1)) (.slice (qp w) 1 1)):=x2.setCell' (p:=qp (w+1)) (by show W1.heap.size<=w+1;omega) _;refine u2.c0 sz df fun sz df=>?_
 refine rS ?_;generalize W2.setCell (qp (w+1)) (.slice (qp w) 1 1)=W2 at *;have hs2:=x2.size;have c2:=b2.cell' 0 rfl;refine lv ?_;refine lc Tryz.func23 (mF fC (fun b=>b=w.heap.size) _ 7 W2 (fun k hk=>by omega) (nd1.ext x2) tG tF I) ?_;rintro e w3 ⟨g1,P1,n1,rfl,hm1,hx3⟩;refine ⟨_,rfl,?_⟩;iterate 5 refine lv ?_
 refine lE2 a2 [1] 2 3 ?_;intro a3 u3 e2 e3;refine u3.c1 sz df e1 fun sz df e1=>?_
 have hs3:=hx3.size;replace c2:=(b2.ext hx3).cell' 0 rfl;refine rS ?_;refine lv ?_;refine lc Tryz.func23 (mF fC (fun b=>b=w.heap.size) _ 7 w3 (fun k hk=>by omega) (nd1.ext (x2.trans' hx3)) tG tF I) ?_;rintro e w4 ⟨g2,P2,n2,rfl,hm2,hx4⟩;refine ⟨_,rfl,?_⟩;iterate 5 refine lv ?_
 refine lE2 a3 [2,3] 4 5 ?_;intro a4 u4 e4 e5;refine u4.c2 sz df e2 e3 fun sz df e2 e3=>?_
 refine wp_seq (rS ?_);iterate 3 refine lv ?_
 iterate 2 refine ly ?_
 iterate 2 refine lv ?_
 iterate 2 refine ly ?_
 iterate 2 refine lv ?_
 iterate 2 refine ly ?_
 refine lv ?_;refine lE a4 [2,4] 39 ?_;intro a5 u5 e39;refine wp_cond_false e39 (wp_skip ?_);exact Mo (u5.sz.trans sz) (u5.df.trans df) (u5.get 2 e2) (u5.get 4 e4) (iB.two hm1 (ab _) hx4 hm2) (.of_ext (((x1.trans' x2).trans' hx3).trans' hx4)) I hQ
end
theorem JZ (w:World):qg 18 #[] w (dE true w):=by
 refine calls_of_wp Tryz.func18 J0 (Ki ?_ rfl ?_)
 ·simp [Tryz.ntmps18]
 ·intro a' w' h1 h2 h3
  refine bodyPost_ret (v:=true) ?_ h1 ⟨rfl,h3⟩;have h5:a'.tmps[0]?.getD undef=.bool true:=by rw [<- h2];simp [Ev,Act.eval]
  simp [results,Tryz.results18,go_sem,h5]
noncomputable def Ad:=RG Tryz.f3 7
section
variable {ops:Array Oper}{K:Act->World->Prop}{S:World->Prop}{bf:Nat->Bool}{n:Nat}{is:List Nat}{a:Act}{w:World}{o:Oper}{d gd:Nat}{j:Nat}{want b:Bool}{f:FuncId}{xs:Array Operand}{ats:Array TypeId}{fn:Func}{vs:Array Value}{R:Ending->World->Prop}
theorem d_c (i:Nat)(hr:Region.ready .any ops (mkL ops.size is)=[i])(hi:ops[i]?=some o)(hg:o.guard=none)(hd:o.dst=some d)(hop:o.op=Op.call { callee:=Callee.value (Operand.func f),args:=xs,argTypes:=ats })(hf:Tryz.prog.funcs[f]?=some fn)(hn:(fn.name == "runtime.NumGoroutine")=false) (hb:fn.body.isNone=false)
  (hc:qg f vs w R)(hv:xs.map (Ev a)=vs)(h:∀ e w',R e w'->∃ v,e=.returned v∧(bf i=true->S w')∧WD ops K S bf n (i :: is) (Pt a d v) w'):WD ops K S bf (n+1) is a w:=Ch i d hr hi hg hd f xs ats hop fn hf hn hb vs hv (hc.mono h)
end
def GS (b o:Nat)(x:GG)(A:Option Addr)(d:Nat)(w:World):Prop:=qc w b o (.slice A x.path d)∧qc w b (o+1) x.kind∧qc w b (o+2) x.at_∧qc w b (o+3) x.code∧qc w b (o+4) x.fresh
theorem GS.of {b o:Nat}{x:GG}{A:Option Addr}{d:Nat}{w:World}(h:∀ j u,(qP x A d)[j]?=some u->qc w b (o+j) u):GS b o x A d w:=⟨h 0 _ rfl,h 1 _ rfl,h 2 _ rfl,h 3 _ rfl,h 4 _ rfl⟩
section
variable {Q:Exit->Act->World->Prop}{a:Act}{w:World}{gt m gc:Nat}{b bu z z2:Int}{A Ag_:Option Addr}{c cg n i:Nat}{v vk vl vn:Value}{R:World->Prop}
end
theorem aB.cell {S:Nat->Prop}{w w':World}(h:aB S w w'){b o:Nat}{u:Value}(hb:S b)(hc:qc w b o u):qc w' b o u:=(World.cell?_of_block (w:=w) (w':=w') (h b (bB hc) hb)).trans hc
theorem GS.keep {S:Nat->Prop}{w w':World}(h:aB S w w'){b o:Nat}{x:GG}{A:Option Addr}{d:Nat}(hb:S b)(hc:GS b o x A d w):GS b o x A d w':=⟨h.cell hb hc.1,h.cell hb hc.2.1,h.cell hb hc.2.2.1,h.cell hb hc.2.2.2.1,h.cell hb hc.2.2.2.2⟩
theorem GS.ext {w w':World}(h:Ext w w'){b o:Nat}{x:GG}{A:Option Addr}{d:Nat}(hc:GS b o x A d w):GS b o x A d w':=hc.keep (aB.of_ext (P:=fun _=>True) h) trivial
theorem Bx (b:Int):∀ (n:Nat)(L:List GE),(l7 b n L).length<=L
 | 0,L=>ab _
 | n+1,L=>by
  unfold l7;split
  ·refine ae (Bx b n _) ?_
   rw [List.length_eraseIdx];split <;> omega
  ·exact ab _
theorem Dm (ok:List Int->Bool)(b:Int)(L:List GE)(x:GE):(rQ ok b L x).length<=L+1:=by
 have h1:(dN L x).length<=L+1:=by rw [pB];exact qL L x
 unfold rQ;split
 ·split
  ·exact h1
  ·exact ae (Bx b _ _) h1
 ·omega
noncomputable def J2:=RG Tryz.f6 0
noncomputable def ze:=RG Tryz.f6 1
noncomputable def Cb:=RG Tryz.f6 2
noncomputable def Hj:=RG Tryz.f6 3
noncomputable def vu:=RG Tryz.f6 4
noncomputable def Gt:=RG Tryz.f6 5
noncomputable def uf:=RG Tryz.f6 6
noncomputable def qv:=RG Tryz.f6 7
noncomputable def qa:=RG Tryz.f6 8
noncomputable def Mq:=RG Tryz.f6 9
def kX (t:List GN)(b:Int)(gs:List GG):List GE:=gs.foldl (fun L x=>rQ (aQ t) b L (mkE x.path x.kind x.at_ x.code x.fresh)) []
section
variable {t:List GN}{b:Int}{gs:List GG}{k:Nat}
theorem qW (hk:k<gs):kX t b (gs.take (k+1))=rQ (aQ t) b (kX t b (gs.take k)) (mkE (gs.getD k default).path (gs.getD k default).kind (gs.getD k default).at_ (gs.getD k default).code (gs.getD k default).fresh):=by
 unfold kX;rw [xd default hk,List.foldl_append];rfl
theorem pG:∀ k,k<=gs.length->(kX t b (gs.take k))<=k
 | 0,_=>by simp [kX]
 | k+1,h=>by
  have ih:=pG k I;rw [qW I];have:=Dm (aQ t) b (kX t b (gs.take k)) (mkE (gs.getD k default).path (gs.getD k default).kind (gs.getD k default).at_ (gs.getD k default).code (gs.getD k default).fresh);omega
end
section
variable {Q:Exit->Act->World->Prop}{a:Act}{w:World}{gt gc n c i most:Nat}{b z:Int}{A:Option Addr}{vn vl:Value}{t:List GN}{l:List Int}{R:World->Prop}
theorem FY {R:Value->World->Prop}(hsz:a.tmps.size=54)(e4:qq a 4 (qp gt))(e1:qq a 1 b)(c4:qc w gt 0 vn)(hc:Calls Tryz.prog 23 #[.agg #[vn],↑b] w fun e w'=>∃ u,e=.returned (.tuple #[u,↑z])∧R u w')
  (h:∀ a' u w',Ag [2,3,4] a a'->qq a' 9 u->qq a' 10 z->R u w'->Q .normal a' w'):qw ze Q a w:=by
 refine rW ?_;iterate 2 refine lV ?_
 refine l_c rfl rfl rfl Tryz.func23 dd dd hc ba ?_;rintro e w' ⟨u,rfl,hR⟩;refine ⟨_,rfl,?_⟩;iterate 5 refine l_v rfl rfl (by simp [execOp,go_sem,hsz];exact ⟨rfl,rfl⟩) ?_
 exact aV (h _ u _ O gn gn hR)
theorem Lf (hsz:a.tmps.size=54)(e9:qq a 9 (qp gc))(e10:qq a 10 qz)
  (h:∀ a',Ag [2,3,4,9] a a'->qq a' 24 false->Q .normal a' w):qw Cb Q a w:=by
 refine rW ?_;iterate 3 refine lV ?_
 iterate 2 refine l_y rfl rfl rfl ba cd rfl (by simp [execOp,go_sem, *];exact ⟨rfl,rfl⟩) ?_
 iterate 1 refine lV ?_
 exact aV (h _ O ba)
theorem Hr (hsz:a.tmps.size=54)(e4:qq a 4 (qp gt))(e2:qq a 2 vl)(e3:qq a 3 (most:Int))(c4:qc w gt 0 vn){S:Nat->Prop}(hc:qg 24 #[.agg #[vn],vl,↑(most:Int)] w (pI t l S most w))
  (h:∀ a' A c gs w',Ag [9] a a'->Gvs w' (fun b=>b<w'.heap.size∧S b) (.slice A gs.length c) gs->gs<=most->Ext w w'->lD t l most gs->qq a' 11 (.slice A gs c)->Q .normal a' w'):qw vu Q a w:=by
 refine rW ?_;iterate 3 refine lV ?_
 refine l_c rfl rfl rfl Tryz.func24 dd dd hc ba ?_;rintro e w' ⟨A,c,gs,rfl,h1,h2,h3,h4⟩;refine ⟨_,rfl,?_⟩;iterate 1 refine l_v rfl rfl (by simp [execOp,go_sem,hsz];exact ⟨rfl,rfl⟩) ?_
 exact aV (h _ A c gs w' O h1 h2 h3 h4 gn)
theorem Hq (hsz:a.tmps.size=54)(e11:qq a 11 (.slice A n c))(e12:qq a 12 (i:Int))(h:∀ a',Ag [9,11,12] a a'->qq a' 32 (decide (i<n))->Q .normal a' w):qw uf Q a w:=by
 refine rW ?_;iterate 4 refine lV ?_
 exact aV (h _ O ba)
theorem JF (hsz:a.tmps.size=54)(e12:qq a 12 (i:Int))(hw:IntKind.i64.wrap ((i:Int)+1)=(i:Int)+1)(h:∀ a',Ag [9,11] a a'->qq a' 12 (.int .i64 ((i+1:Nat):Int))->Q .normal a' w):qw qv Q a w:=by
 refine rW ?_;iterate 3 refine lV ?_
 exact aV (h _ O ba)
theorem IT {bg og d:Nat}{x:GG}{A':Option Addr}{r1:Bool}{r2:Int}(hsz:a.tmps.size=54)(e9:qq a 9 (qp gc))(e11:qq a 11 (.slice (qt bg og) n c))(e12:qq a 12 (i:Int))(hi:(i:Int)<(n:Int))(hG:∀ w',Ext w w'->GS bg (og+i*5) x A' d w')
  (hc1:∀ w1,Ext w w1->qg 26 #[.agg #[x.kind,x.at_,x.code]] w1 (dE (ke x.kind x.at_ x.code) w1))
  (hc2:∀ w1,Ext w w1->Calls Tryz.prog 25 #[qp gc,.slice A' x.path d,ke x.kind x.at_ x.code,x.fresh] w1 fun e w'=>e=.returned (.tuple #[r1,↑r2])∧R w'∧GS bg (og+i*5) x A' d w')
  (h:∀ a' w',Ag [9,11,12] a a'->R w'->Q .normal a' w'):qw qa Q a w:=by
 conv=>arg 2;whnf
 have hx0:Ext w w.drew:=(aq w).drew';have hS:=hG _ hx0;refine fR (GS bg (og+i*5) x A' d) (fun _=>true) 18 av av ?_;generalize w.drew=W at *;refine d_t 2 [0,1,2,3,4,5,6,7,8,9,10,12,13,14,15,16] rfl av hS ?_;iterate 16 refine t_v rfl rfl rfl (fun w hw=>by simp [execOp,go_sem,hw.1,hw.2.1,hw.2.2.1,hw.2.2.2.1,hw.2.2.2.2,hsz,e9,e11,e12,hi];rfl) ?_
 refine t_e ?_;refine d_c 11 av rfl rfl rfl rfl Tryz.func26 dd dd (hc1 W hx0) gn ?_;rintro e w1 ⟨rfl,hx1⟩;refine ⟨_,rfl,fun _=>hG _ (hx0.trans' hx1),?_⟩;refine d_c 17 av rfl rfl rfl rfl Tryz.func25 dd dd (hc2 w1 (hx0.trans' hx1)) gn ?_;rintro e w2 ⟨rfl,hR,hS⟩;refine ⟨_,rfl,fun _=>hS,?_⟩;exact kF av (h _ _ O hR)
end
noncomputable abbrev EP:Code:=.seq (.seq uf (.cond (.tmp 32) .skip (.exit 0))) (.seq (.block 1 qa) qv)
noncomputable abbrev Cg:Code:=.seq J2 (.seq ze (.seq (.seq Cb (.cond (.tmp 24) (.seq Hj .ret) .skip)) (.seq vu (.seq (.seq Gt (.block 0 (.loop EP))) (.seq Mq .ret)))))
theorem DU:Tryz.f6.body=some Cg:=av
def Bp (t:List GN)(b:Int)(l:List Int)(most:Nat)(w:World)(e:Ending)(w':World):Prop :=
 ∃ gs n1 g P v,lD t l most gs∧e=.returned (qp g.c)∧oG t n1 b (kX t b gs) g P v w w'∧Ext w w'
section
variable {t:List GN}{n1 vn vl:Value}{b:Int}{L:List GE}{g:CA}{P Z:Nat->Prop}{B:Nat}{w w1 ws:World}{a a0:Act}{gs:List GG}{Av:Option Addr}{cg most:Nat}{l:List Int}{R:Exit->Act->World->Prop}
def I26 (t:List GN)(n1:Value)(b:Int)(g:CA)(B:Nat)(Z:Nat->Prop)(gs:List GG)(Av:Option Addr)(cg:Nat)(a0:Act)(w:World)(k:Nat)(a:Act)(wr:World):Prop :=
 Ag [9,11] a0 a∧k<=gs∧qq a 12 (k:Int)∧∃ P v,oG t n1 b (kX t b (gs.take k)) g P v B wr∧Ext w wr∧Gvs wr Z (.slice Av gs cg) gs∧(∀ q,Z q->¬ g.M v q)∧∀ q,Z q->q<wr
theorem zA {k:Nat}(hsz:a0.tmps.size=54)(e9:qq a0 9 (qp g.c))(e11:qq a0 11 (.slice Av gs cg))(hlen:gs.length<=1000)(hB:w<=B)(hI:I26 t n1 b g B Z gs Av cg a0 w k a w1)(hk:k<gs)
  (hR:∀ a' w',I26 t n1 b g B Z gs Av cg a0 w (k+1) a' w'->R .normal a' w'):qw (.seq (.block 1 qa) qv) R a w1:=by
 obtain ⟨hG,-,e12,P,v,hC,hE,hgv,hsep,hZl⟩:=hI;have z1:=hG.sz.trans hsz;have hfl:=pG (t:=t) (b:=b) (gs:=gs) k I;have hsn:=qW (t:=t) (b:=b) hk;obtain ⟨bg,og,A1,d1,rfl,hSb,ga,gc⟩:=hgv.get hk;have hgs:=GS.of gc;have hsh:=ga.short;generalize gs.getD k default=x at *;generalize kX t b (gs.take k)=L at *
 refine wp_seq (wp_block (IT (R:=fun w'=>iN t n1 b (rQ (aQ t) b L (mkE x.path x.kind x.at_ x.code x.fresh)) g P v w1 w') (r1:=wZ (aQ t) b L (mkE x.path x.kind x.at_ x.code x.fresh)) (r2:=ka (aQ t) (mkE x.path x.kind x.at_ x.code x.fresh)) z1 (hG.get 9 e9) (hG.get 11 e11) e12 I (fun w' h=>hgs.ext h) (fun w1 _=>Kr x.kind x.at_ x.code w1 ga.kind ga.at_ ga.code)
  (fun w2 hx=>(wg t n1 b L g P Z v _ x.path x.kind x.at_ x.code x.fresh w2 (hC.ext hx).cor (ga.path.ext hx) hsep ga.kind ga.at_ ga.code I I).mono ?_) ?_))
 ·rintro e w' ⟨rfl,hA⟩
  have hA':=iN.of_ext hx hA;obtain ⟨_,_,-,-,hF,-⟩:=id hA';exact ⟨rfl,hA',hgs.keep (aB.of_fr hF hsep) hSb⟩
 intro a2 w2 g2 hA;have z2:=g2.sz.trans z1;obtain ⟨P2,v2,hC2,hF2,hF3,hP2,hM2⟩:=hC.after hA;have hs2:=hF2.size;refine JF (i:=k) z2 (g2.get 12 e12) (IntWalk.i64_in _ I) ?_;intro a3 g3 e12';refine hR _ _ ⟨hG.trans ((g2.mono rfl).trans g3),hk,e12',P2,v2,by rw [hsn];exact hC2,((ar hE).trans hF2).new_ext (fun q hq=>by omega),hgv.carry (aB.of_fr hF3 hsep) (fun _ _ h=>h),fun q hq hm=>?_,fun q hq=>ac (hZl q hq) hs2⟩;rcases hM2 q hm with h | h
 ·exact hsep q hq h
 ·have:=hZl q hq;omega
theorem Ff {Q:Nat->Prop}{A:Option Addr}{n c:Nat}(hv:bE t=0)(hfw:∀ x ∈ t,x.kind=3->x.kids.length<=5)(hsm:∀ x ∈ t,dG x)(hlen:t.length<=14)(hmost:most<=1000)(hb:0<=b∧b<=1099511627776)(hP:∀ q,P q->q<w)(hQ:∀ q,Q q->q<w)(ht:Nds w P (.slice A n c) t)(hl:bL w Q vl l)
  (hsz:a.tmps.size=54)(e0:qq a 0 (.agg #[.slice A n c]))(e1:qq a 1 b)(e2:qq a 2 vl)(e3:qq a 3 (most:Int))
  (hR:∀ a' w' gs n1 g P v,a'.defers=a.defers->qq a' 8 (qp g.c)->lD t l most gs->oG t n1 b (kX t b gs) g P v w w'->Ext w w'->R .ret a' w'):qw Cg R a w:=by
 refine wp_seq ?_;refine rW ?_;iterate 2 refine lV ?_
 have hx0:Ext w (w.alloc (qk #[.slice A n c] 25)):=(aq w).alloc' _;have hB0:=(aw w 25 #[.slice A n c]).cell' (u:=.slice A n c) 0 rfl;refine aV ?_;generalize ha1:Pt (Pt a 4 (qp w)) 8 (.pointer none)=a1;have z1:a1.tmps.size=54:=by subst ha1;simp [hsz]
 have d1:a1.defers=a.defers:=by subst ha1;rfl
 have f4:qq a1 4 (qp w):=by subst ha1;simp [hsz]
 have f1:qq a1 1 b:=by subst ha1;simp [e1]
 have f2:qq a1 2 vl:=by subst ha1;simp [e2]
 have f3:qq a1 3 (most:Int):=by subst ha1;simp [e3]
 clear ha1;generalize w.alloc (qk #[.slice A n c] 25)=W at *;have hs0:=hx0.size;refine wp_seq (FY (z:=0) (R:=fun u w'=>∃ g P' vn',u=↑(qp g.c)∧oG t vn' b [] g P' qn W w'∧Ext W w') z1 f4 f1 hB0 ((mF t P _ b W (fun k hk=>by have:=hP k hk;omega) (ht.ext hx0) hsm hv hb).mono ?_) ?_)
 ·rintro e w' ⟨g,P',vn',rfl,h1,h2⟩
  exact ⟨_,rfl,g,P',vn',rfl,h1,h2⟩
 rintro a2 u w2 g2 e9 e10 ⟨g,P2,n1,rfl,hC2,hx2⟩;have z2:=g2.sz.trans z1;have hs2:=hx2.size;refine wp_seq (wp_seq (Lf z2 e9 e10 ?_));intro a3 g3 e24;have z3:=g3.sz.trans z2;refine wp_cond_false e24 (wp_skip ?_);have hxa:=hx0.trans' hx2;refine wp_seq (Hr (S:=fun q=>P q∨w2<=q) (t:=t) (l:=l) z3 (g3.get 4 (g2.get 4 f4)) (g3.get 2 (g2.get 2 f2)) (g3.get 3 (g2.get 3 f3)) (aA hx2 hB0) (xT t l most P Q _ vl w2 hv hfw hlen hmost (fun q hq=>by have:=hP q hq;omega) (fun q hq=>by have:=hQ q hq;omega) (ht.ext hxa) (hl.ext hxa)) ?_);intro a4 Av cg gs w4 g4 hgv hgl hx4 hsome e11;have z4:=g4.sz.trans z3;refine wp_seq (wp_seq ?_);refine rW ?_;iterate 1 refine l_v rfl rfl (by simp [execOp,go_sem,z4];exact ⟨rfl,rfl⟩) ?_
 refine aV ?_;generalize ha5:Pt a4 12 qz=a5;have z5:a5.tmps.size=54:=by subst ha5;simp [z4]
 have d5:a5.defers=a.defers:=by subst ha5;exact (((g4.df.trans g3.df).trans g2.df).trans d1)
 have h9:qq a5 9 (qp g.c):=by subst ha5;simp [g4.get 9 (g3.get 9 e9)]
 have h11:qq a5 11 (.slice Av gs cg):=by subst ha5;simp [e11]
 have h12:qq a5 12 qz:=by subst ha5;simp [z4]
 clear ha5
 refine wp_block (wp_loop (fun a' w'=>∃ k,I26 t n1 b g W (fun q=>q<w4.heap.size∧(P q∨w2<=q)) gs Av cg a5 w k a' w') (fun a' _=>gs.length - (intOf (Ev a' (.tmp 12))).toNat)
  ⟨0,Ag.rf,af _,h12,P2,_,hC2.ext hx4,hxa.trans' hx4,hgv,fun q hq hm=>?_,fun q hq=>hq.1⟩ ?_)
 ·have:=hC2.lo q (.inr hm)
  rcases hq.2 with h | h
  ·have:=hP q h;omega
  ·omega
 rintro a6 w6 ⟨k,hI⟩;obtain ⟨hG,hk,e12,P6,v6,hC6,hE6,hgv6,hsep,hZl⟩:=id hI;have z6:=hG.sz.trans z5;refine wp_seq (wp_seq (Hq z6 (hG.get 11 h11) e12 ?_));intro a7 g7 e32;have z7:=g7.sz.trans z6;have hG7:Ag [9,11] a5 a7:=hG.trans (g7.mono rfl);by_cases hl:k<gs
 ·refine wp_cond_true (e32.trans jz) (wp_skip ?_)
  refine zA z5 h9 h11 I hs0 ⟨hG7,hk,g7.get 12 e12,P6,v6,hC6,hE6,hgv6,hsep,hZl⟩ hl ?_;intro a' W' h;refine ⟨⟨k+1,h⟩,?_⟩;rw [h.2.2.1,e12];simp [intOf];omega
 ·refine wp_cond_false (e32.trans jz) (wp_exit ?_)
  obtain rfl:k=gs:=I;rw [List.take_length] at hC6;have h79:=hG7.get 9 h9;refine wp_seq ?_;refine rW ?_;iterate 2 refine l_v rfl rfl (by simp [execOp,go_sem,z7,h79];exact ⟨rfl,rfl⟩) ?_
  exact aV (wp_ret (hR _ w6 gs n1 g P6 v6 (hG7.df.trans d5) (by simp [z7]) hsome ⟨hC6.cor,fun q hq=>⟨by have:=(hC6.lo q hq).1;omega,(hC6.lo q hq).2⟩⟩ hE6))
theorem My {Q:Nat->Prop}(hv:bE t=0)(hfw:∀ x ∈ t,x.kind=3->x.kids.length<=5)(hsm:∀ x ∈ t,dG x)(hlen:t.length<=14)(hmost:most<=1000)(hb:0<=b∧b<=1099511627776)(hP:∀ q,P q->q<w)(hQ:∀ q,Q q->q<w)(ht:Nds w P vn t)(hl:bL w Q vl l) :
  qg 6 #[.agg #[vn],↑b,vl,↑(most:Int)] w (Bp t b l most w):=by
 obtain ⟨A,c,rfl,-,-⟩:=ht.form;refine calls_of_wp Tryz.func6 DU (Ff hv hfw hsm hlen hmost hb hP hQ ht hl (by simp [Tryz.ntmps6]) eu eu eu eu ?_);intro a' w' gs n1 g P v h1 h2 h3 h4 h6;refine bodyPost_ret (v:=qp g.c) ?_ h1 ⟨gs,n1,g,P,v,h3,rfl,h4,h6⟩;have h5:a'.tmps[8]?.getD undef=↑(qp g.c):=by rw [<- h2];simp [Ev,Act.eval]
 simp [results,Tryz.results6,go_sem,h5]
end
variable {Q:Exit->Act->World->Prop}{a:Act}{w:World}{n m c d k:Nat}{A B:Option Addr}{F:Value}{b:Bool}
variable {Q:Exit->Act->World->Prop}{a:Act}{w:World}{g f:Nat}{x y:GN}{ax ay:NA}{b1 b2 b3 b4 b5:Bool}{k5:Int}
section
variable {w:World}{P Q:Nat->Prop}{A B:Option Addr}{c d:Nat}
end
section
variable {w:World}{P P':Nat->Prop}{x y:GN}{ax ay:NA}{a:Act}{R:Exit->Act->World->Prop}
end
section
variable {Q:Exit->Act->World->Prop}{a:Act}{w:World}{gc go g n c d k m:Nat}{A:Option Addr}{b:Bool}{vn vo v:Value}{L M:List GE}{Z:Nat->Prop}
end
section
variable {t t':List GN}{vn vo:Value}{b b':Int}{L M L1 L2:List GE}{g g':CA}{P P':Nat->Prop}{v v':Value}{w w':World}{a:Act}{R:Exit->Act->World->Prop}{d:Nat}{A:Option Addr}
end
section
variable {Q:Exit->Act->World->Prop}{a:Act}{w:World}{mx my n c d k m:Nat}{A:Option Addr}{b:Bool}{z:Int}{v:Value}{Z:Nat->Prop}
end
section
variable {t t':List GN}{vn vo:Value}{b b':Int}{L M:List GE}{mx my:Nat}{P:Nat->Prop}{v v':Value}{w w':World}{a:Act}{R:Exit->Act->World->Prop}{d:Nat}{A:Option Addr}
end
noncomputable def J6:=RG Tryz.f7 0
noncomputable def Cf:=RG Tryz.f7 1
noncomputable def sw:=RG Tryz.f7 2
noncomputable def F0:=RG Tryz.f7 3
noncomputable def vi:=RG Tryz.f7 4
noncomputable def sf:=RG Tryz.f7 5
noncomputable def pi:=RG Tryz.f7 6
noncomputable def DM:=RG Tryz.f7 7
section
variable {Q:Exit->Act->World->Prop}{a:Act}{w:World}{gt m n c i most:Nat}{b:Int}{A:Option Addr}{vn vl:Value}{t:List GN}{l:List Int}{R:World->Prop}
theorem E4 (hsz:a.tmps.size=44)(e4:qq a 4 (qp gt))(e1:qq a 1 b)(c4:qc w gt 0 (.slice A n c))
  (h:∀ a',Ag [2,3,4] a a'->qq a' 9 (qp w)->Q .normal a' (w.alloc (qk #[.slice A n c,↑b,qn] 40))):qw Cf Q a w:=by
 refine rW ?_;iterate 5 refine lV ?_
 exact aV (h _ O ba)
theorem Kk (hsz:a.tmps.size=44)(e4:qq a 4 (qp gt))(e2:qq a 2 vl)(e3:qq a 3 (most:Int))(c4:qc w gt 0 vn){S:Nat->Prop}(hc:qg 24 #[.agg #[vn],vl,↑(most:Int)] w (pI t l S most w))
  (h:∀ a' A c gs w',Ag [9] a a'->Gvs w' (fun b=>b<w'.heap.size∧S b) (.slice A gs.length c) gs->gs<=most->Ext w w'->lD t l most gs->qq a' 10 (.slice A gs c)->Q .normal a' w'):qw sw Q a w:=by
 refine rW ?_;iterate 3 refine lV ?_
 refine l_c rfl rfl rfl Tryz.func24 dd dd hc ba ?_;rintro e w' ⟨A,c,gs,rfl,h1,h2,h3,h4⟩;refine ⟨_,rfl,?_⟩;iterate 1 refine l_v rfl rfl (by simp [execOp,go_sem,hsz];exact ⟨rfl,rfl⟩) ?_
 exact aV (h _ A c gs w' O h1 h2 h3 h4 gn)
theorem JM (hsz:a.tmps.size=44)(e10:qq a 10 (.slice A n c))(e11:qq a 11 (i:Int))(h:∀ a',Ag [9,10,11] a a'->qq a' 23 (decide (i<n))->Q .normal a' w):qw vi Q a w:=by
 refine rW ?_;iterate 4 refine lV ?_
 exact aV (h _ O ba)
theorem DA (hsz:a.tmps.size=44)(e11:qq a 11 (i:Int))(hw:IntKind.i64.wrap ((i:Int)+1)=(i:Int)+1)(h:∀ a',Ag [9,10] a a'->qq a' 11 (.int .i64 ((i+1:Nat):Int))->Q .normal a' w):qw sf Q a w:=by
 refine rW ?_;iterate 3 refine lV ?_
 exact aV (h _ O ba)
theorem Fv {bg og d:Nat}{x:GG}{A':Option Addr}{r1:Bool}{r2:Int}(hsz:a.tmps.size=44)(e9:qq a 9 (qp m))(e10:qq a 10 (.slice (qt bg og) n c))(e11:qq a 11 (i:Int))(hi:(i:Int)<(n:Int))(hG:∀ w',Ext w w'->GS bg (og+i*5) x A' d w')
  (hc2:∀ w1,Ext w w1->Calls Tryz.prog 27 #[qp m,.slice A' x.path d,.agg #[x.kind,x.at_,x.code],x.fresh] w1 fun e w'=>e=.returned (.tuple #[r1,↑r2])∧R w'∧GS bg (og+i*5) x A' d w')
  (h:∀ a' w',Ag [9,10,11] a a'->R w'->Q .normal a' w'):qw pi Q a w:=by
 conv=>arg 2;whnf
 have hx0:Ext w w.drew:=(aq w).drew';have hS:=hG _ hx0;refine fR (GS bg (og+i*5) x A' d) (fun _=>true) 17 av av ?_;generalize w.drew=W at *;refine d_t 1 [0,1,2,3,4,5,6,7,8,9,10,11,12,13,14,15] rfl av hS ?_;iterate 16 refine t_v rfl rfl rfl (fun w hw=>by simp [execOp,go_sem,hw.1,hw.2.1,hw.2.2.1,hw.2.2.2.1,hw.2.2.2.2,hsz,e9,e10,e11,hi];rfl) ?_
 refine t_e ?_;refine d_c 16 av rfl rfl rfl rfl Tryz.func27 dd dd (hc2 W hx0) gn ?_;rintro e w2 ⟨rfl,hR,hS⟩;refine ⟨_,rfl,fun _=>hS,?_⟩;exact kF av (h _ _ O hR)
end
noncomputable abbrev Gi:Code:=.seq (.seq vi (.cond (.tmp 23) .skip (.exit 0))) (.seq (.block 1 pi) sf)
noncomputable abbrev AJ:Code:=.seq J6 (.seq Cf (.seq sw (.seq (.seq F0 (.block 0 (.loop Gi))) (.seq DM .ret))))
theorem KI:Tryz.f7.body=some AJ:=av
def Bh (t:List GN)(vn:Value)(b:Int)(l:List Int)(most:Nat)(P:Nat->Prop)(w:World)(e:Ending)(w':World):Prop :=
 ∃ gs m ve P',lD t l most gs∧e=.returned (qp m)∧MAt t vn b (kX t b gs) m P' ve w'∧(∀ q,mM m ve q->w<=q)∧(∀ q,P' q->P q∨w<=q)∧Ext w w'
section
variable {t:List GN}{vn vl:Value}{b:Int}{L:List GE}{m:Nat}{P Z:Nat->Prop}{w w1 ws:World}{a a0:Act}{gs:List GG}{Av:Option Addr}{cg most:Nat}{l:List Int}{R:Exit->Act->World->Prop}
def I27 (t:List GN)(vn:Value)(b:Int)(m:Nat)(Z:Nat->Prop)(gs:List GG)(Av:Option Addr)(cg:Nat)(a0:Act)(w:World)(k:Nat)(a:Act)(wr:World):Prop :=
 Ag [9,10] a0 a∧k<=gs∧qq a 11 (k:Int)∧∃ v,MAt t vn b (kX t b (gs.take k)) m Z v wr∧Ext w wr∧Gvs wr Z (.slice Av gs cg) gs∧∀ q,mM m v q->w<=q
theorem wB {k:Nat}(hd:∀ p:List Int,p.length<=1000000000->RdT t p)(hvl:∀ x ∈ t,x.values.length<=1000000000)(hsz:a0.tmps.size=44)(e9:qq a0 9 (qp m))(e10:qq a0 10 (.slice Av gs cg))(hlen:gs.length<=1000)(hI:I27 t vn b m Z gs Av cg a0 w k a w1)(hk:k<gs)
  (hR:∀ a' w',I27 t vn b m Z gs Av cg a0 w (k+1) a' w'->R .normal a' w'):qw (.seq (.block 1 pi) sf) R a w1:=by
 obtain ⟨hG,-,e11,v,hC,hE,hgv,hM⟩:=hI;have z1:=hG.sz.trans hsz;have hfl:=pG (t:=t) (b:=b) (gs:=gs) k I;have hsn:=qW (t:=t) (b:=b) hk;obtain ⟨bg,og,A1,d1,rfl,hSb,ga,gc⟩:=hgv.get hk;have hgs:=GS.of gc;have hsh:=ga.short;generalize gs.getD k default=x at *;generalize kX t b (gs.take k)=L at *
 have hsep:∀ q,Z q->¬ mM m v q:=fun q hq hm=>by
  have:=hC.excl q hq;exact hm.elim this.1 this.2
 refine wp_seq (wp_block (Fv (R:=fun w'=>dC t vn b (rQ (aQ t) b L (mkE x.path x.kind x.at_ x.code x.fresh)) m Z v w1 w') (r1:=wZ (aQ t) b L (mkE x.path x.kind x.at_ x.code x.fresh)) (r2:=ka (aQ t) (mkE x.path x.kind x.at_ x.code x.fresh)) z1 (hG.get 9 e9) (hG.get 10 e10) e11 I (fun w' h=>hgs.ext h)
  (fun w2 hx=>(Ma (f:=x.fresh) (hC.ext hx) (hd _ I) hvl (ga.path.ext hx) ga.kind ga.at_ ga.code I I).mono ?_) ?_))
 ·rintro e w' ⟨rfl,v',q1,q2,q3⟩
  have:=hx.size;have hF:Fr (mM m v) w1 w':=(ar hx).trans q2;exact ⟨rfl,⟨v',q1,hF,fun q hq=>(q3 q hq).imp id (fun h=>by omega)⟩,hgs.keep (aB.of_fr hF hsep) hSb⟩
 rintro a2 w2 g2 ⟨v2,hC2,hF2,hb2⟩;have z2:=g2.sz.trans z1;have hsE:=hE.size;refine DA (i:=k) z2 (g2.get 11 e11) (IntWalk.i64_in _ I) ?_;intro a3 g3 e11';refine hR _ _ ⟨hG.trans ((g2.mono rfl).trans g3),hk,e11',v2,by rw [hsn];exact hC2,((ar hE).trans hF2).new_ext hM,hgv.carry (aB.of_fr hF2 hsep) (fun _ _ h=>h),fun q hq=>?_⟩;rcases hq with hq | hq
 ·exact hM q (.inl hq)
 ·rcases hb2 q hq.symm with h | h
  ·exact hM q (.inr h.symm)
  ·omega
theorem K9 {Q:Nat->Prop}{A:Option Addr}{n c:Nat}(hd:∀ p:List Int,p.length<=1000000000->RdT t p)(hvl:∀ x ∈ t,x.values.length<=1000000000)(hv:bE t=0)(hfw:∀ x ∈ t,x.kind=3->x.kids.length<=5)(hlen:t.length<=14)(hmost:most<=1000)(hb:0<=b∧b<=1099511627776)(hP:∀ q,P q->q<w)(hQ:∀ q,Q q->q<w)(ht:Nds w P (.slice A n c) t)(hl:bL w Q vl l)
  (hsz:a.tmps.size=44)(e0:qq a 0 (.agg #[.slice A n c]))(e1:qq a 1 b)(e2:qq a 2 vl)(e3:qq a 3 (most:Int))
  (hR:∀ a' w' gs m ve P',a'.defers=a.defers->qq a' 8 (qp m)->lD t l most gs->MAt t (.slice A n c) b (kX t b gs) m P' ve w'->(∀ q,mM m ve q->w<=q)->(∀ q,P' q->P q∨w<=q)->Ext w w'->R .ret a' w'):qw AJ R a w:=by
 refine wp_seq ?_;refine rW ?_;iterate 2 refine lV ?_
 have hx0:Ext w (w.alloc (qk #[.slice A n c] 25)):=(aq w).alloc' _;have hB0:=(aw w 25 #[.slice A n c]).cell' (u:=.slice A n c) 0 rfl;refine aV ?_;generalize ha1:Pt (Pt a 4 (qp w)) 8 (.pointer none)=a1;have z1:a1.tmps.size=44:=by subst ha1;simp [hsz]
 have d1:a1.defers=a.defers:=by subst ha1;rfl
 have f4:qq a1 4 (qp w):=by subst ha1;simp [hsz]
 have f1:qq a1 1 b:=by subst ha1;simp [e1]
 have f2:qq a1 2 vl:=by subst ha1;simp [e2]
 have f3:qq a1 3 (most:Int):=by subst ha1;simp [e3]
 clear ha1;generalize w.alloc (qk #[.slice A n c] 25)=W at *;have hs0:=hx0.size;refine wp_seq (E4 z1 f4 f1 hB0 ?_);intro a2 g2 e9;have z2:=g2.sz.trans z1;have hx2:Ext W (W.alloc (qk #[.slice A n c,↑b,qn] 40)):=(aq W).alloc' _;have hs2:(W.alloc (qk #[.slice A n c,↑b,qn] 40)).heap.size=W.heap.size+1:=by simp
 have hBm:=aw W 40 #[.slice A n c,↑b,qn];generalize W.alloc (qk #[.slice A n c,↑b,qn] 40)=w2 at *;have hxa:=hx0.trans' hx2;refine wp_seq (Kk (S:=fun q=>P q∨w2<=q) (t:=t) (l:=l) z2 (g2.get 4 f4) (g2.get 2 f2) (g2.get 3 f3) (aA hx2 hB0) (xT t l most P Q _ vl w2 hv hfw hlen hmost (fun q hq=>by have:=hP q hq;omega) (fun q hq=>by have:=hQ q hq;omega) (ht.ext hxa) (hl.ext hxa)) ?_);intro a4 Av cg gs w4 g4 hgv hgl hx4 hsome e10;have z4:=g4.sz.trans z2;refine wp_seq (wp_seq ?_);refine rW ?_;iterate 1 refine l_v rfl rfl (by simp [execOp,go_sem,z4];exact ⟨rfl,rfl⟩) ?_
 refine aV ?_;generalize ha5:Pt a4 11 qz=a5;have z5:a5.tmps.size=44:=by subst ha5;simp [z4]
 have d5:a5.defers=a.defers:=by subst ha5;exact ((g4.df.trans g2.df).trans d1)
 have h9:qq a5 9 (qp W):=by subst ha5;simp [g4.get 9 e9]
 have h10:qq a5 10 (.slice Av gs cg):=by subst ha5;simp [e10]
 have h11:qq a5 11 qz:=by subst ha5;simp [z4]
 clear ha5
 have hmx:∀ q,(q<w4.heap.size∧(P q∨w2<=q))->q ≠ W:=by
  intro q hq e;rcases hq.2 with h | h
  ·have:=hP q h
   omega
  ·omega
 have hM0:MAt t (.slice A n c) b [] W (fun q=>q<w4.heap.size∧(P q∨w2<=q)) qn w4 :=
  ⟨hBm.ext hx4,(ht.ext (hxa.trans' hx4)).carry (fun _ _ _=>rfl) (fun q hq h=>⟨hq,.inl h⟩),⟨[],aT _ _ _ _,gh⟩,fun q hq=>⟨hmx q hq,dr⟩,dr,by simp [xB],hb,U,U,fun q hq=>hq.1⟩
 refine wp_block (wp_loop (fun a' w'=>∃ k,I27 t (.slice A n c) b W (fun q=>q<w4.heap.size∧(P q∨w2<=q)) gs Av cg a5 w k a' w') (fun a' _=>gs.length - (intOf (Ev a' (.tmp 11))).toNat)
  ⟨0,Ag.rf,af _,h11,_,hM0,hxa.trans' hx4,hgv,fun q hm=>?_⟩ ?_)
 ·rcases hm with hm | hm
  ·omega
  ·simp [Value.ownBlock] at hm
 rintro a6 w6 ⟨k,hI⟩;obtain ⟨hG,hk,e11,v6,hC6,hE6,hgv6,hM6⟩:=id hI;have z6:=hG.sz.trans z5;refine wp_seq (wp_seq (JM z6 (hG.get 10 h10) e11 ?_));intro a7 g7 e23;have z7:=g7.sz.trans z6;have hG7:Ag [9,10] a5 a7:=hG.trans (g7.mono rfl);by_cases hl:k<gs
 ·refine wp_cond_true (e23.trans jz) (wp_skip ?_)
  refine wB hd hvl z5 h9 h10 I ⟨hG7,hk,g7.get 11 e11,v6,hC6,hE6,hgv6,hM6⟩ hl ?_;intro a' W' h;refine ⟨⟨k+1,h⟩,?_⟩;rw [h.2.2.1,e11];simp [intOf];omega
 ·refine wp_cond_false (e23.trans jz) (wp_exit ?_)
  obtain rfl:k=gs:=I;rw [List.take_length] at hC6;have h79:=hG7.get 9 h9;refine wp_seq ?_;refine rW ?_;iterate 2 refine l_v rfl rfl (by simp [execOp,go_sem,z7,h79];exact ⟨rfl,rfl⟩) ?_
  exact aV (wp_ret (hR _ w6 gs W v6 _ (hG7.df.trans d5) (by simp [z7]) hsome hC6 hM6 (fun q hq=>hq.2.imp id (fun h=>by omega)) hE6))
theorem Hz {Q:Nat->Prop}(hd:∀ p:List Int,p.length<=1000000000->RdT t p)(hvl:∀ x ∈ t,x.values.length<=1000000000)(hv:bE t=0)(hfw:∀ x ∈ t,x.kind=3->x.kids.length<=5)(hlen:t.length<=14)(hmost:most<=1000)(hb:0<=b∧b<=1099511627776)(hP:∀ q,P q->q<w)(hQ:∀ q,Q q->q<w)(ht:Nds w P vn t)(hl:bL w Q vl l) :
  qg 7 #[.agg #[vn],↑b,vl,↑(most:Int)] w (Bh t vn b l most P w):=by
 obtain ⟨A,c,rfl,-,-⟩:=ht.form;refine calls_of_wp Tryz.func7 KI (K9 hd hvl hv hfw hlen hmost hb hP hQ ht hl (by simp [Tryz.ntmps7]) eu eu eu eu ?_);intro a' w' gs m ve P' h1 h2 h3 h4 h6 h7 h8;refine bodyPost_ret (v:=qp m) ?_ h1 ⟨gs,m,ve,P',h3,rfl,h4,h6,h7,h8⟩;have h5:a'.tmps[8]?.getD undef=↑(qp m):=by rw [<- h2];simp [Ev,Act.eval]
 simp [results,Tryz.results7,go_sem,h5]
end
