/- Contracts and laws. Conditions: none. -/
import Derived.Test.YtkoeecdjijfjnaaGreatDoorQV
set_option linter.all false
set_option maxRecDepth 100000
set_option maxHeartbeats 8000000
namespace Go.Proofs.YtkoeecdjijfjnaaGreatDoor
open Go.RowKit
section
variable {Q:Exit->Act->World->Prop}{a:Act}{w:World}{g:CK}{p:List Int}{pv nv:Value}{m:Nat}
theorem Ie {bk ok nk ck:Nat}{n:Nat}{r:Int}(sz:a.tmps.size=83)(e0:qq a 0 (qp g.c))(e3:qq a 3 (.slice (qt bk ok) nk ck))(e8:qq a 8 r)(hnk:0<nk)(ck0:qc w bk ok n)(hbk:bk<g.base)(h:CSt g p pv m nv w)(hm:m<=1000000)(hp:p.length<=1000000)
  (hK:∀ a' w' nv',Ag [0,1,2,3,8,9] a a'->CSt g p pv (m+1) nv' w'->Fr (CM g pv nv) w w'->fQ w nv nv'->Q .normal a' w'):qw (R94 2) Q a w:=by
 have hx0:Ext w w.drew:=(aq w).drew';have h0:=h.ext hx0;have hcall:=CC (k1:=n) (k2:=r) h0 hm hp;have c3:=h.box.cell' (u:=kw g) 3 rfl;have hkf:kw g=.func (.func 65) #[] #[qp g.n,qp g.e]:=rfl;have hs0:=hx0.size;have HH:=aYf h0;refine rD (fun V=>qc V g.c 3 (kw g)∧qc V bk ok n) (fun _=>true) 9 ?_;generalize w.drew=V0 at *;have hS0:qc V0 g.c 3 (kw g)∧qc V0 bk ok n:=⟨aA hx0 c3,aA hx0 ck0⟩;clear h h0 ck0 c3;refine dt 1 [0,1,2,3,4,5,6,7] (hS:=hS0) ?_;iterate 8 refine tv ?_
 refine t_e ?_;refine dcp (y:=.tmp 28) (pre:=#[]) (post:=#[qp g.n,qp g.e]) 8 Tryz.func65 ba hcall ?_;rintro e w3 ⟨v,nv',rfl,hS3,hF3,hb3⟩;refine ⟨_,rfl,fun _=>⟨hS3.box.cell' 3 rfl,aH hF3 (fun hq=>by have:=CM.old HH.out hq;omega) hS0.2⟩,?_⟩;refine d_E a [0,1,2,3,8,9] ?_;intro a' u;refine hK a' w3 nv' u hS3 ((ar hx0).trans hF3) ?_;rcases hb3 with h | ⟨q,h,h1⟩
 ·exact .inl h
 ·exact .inr ⟨q,h,I⟩
theorem F6 {r:Int}(sz:a.tmps.size=83)(e0:qq a 0 (qp g.c))(e8:qq a 8 r)(h:CSt g p pv m nv w)(hp:p.length<=1000000)
  (hK:∀ a' w' pv',Ag [0,1,2,3,8,9] a a'->CSt g (p ++ [r]) pv' m nv w'->Fr (CM g pv nv) w w'->fQ w pv pv'->Q .normal a' w'):qw (R94 3) Q a w:=by
 obtain ⟨xs,hnr⟩:=h.nrow;obtain ⟨Ap,cp,rfl,-,-,-⟩:=Sl.of_own h.row;have c2:=h.box.cell' (u:=.slice Ap p cp) 2 rfl;have hsz:=h.sz;have hxa:=(aq w).alloc' (qk #[↑r] 3);refine rW ?_;iterate 6 refine lv ?_
 refine lv (w1:=w.alloc (qk #[↑r] 3)) (v:=.slice (qp w) 1 1) ?_ (hrun:=by simp [execOp,go_sem, *];try rfl);have hx:=hxa;have h3:=h.ext hx;have hs3:=hx.size;refine la (v:=.slice Ap p cp) (m:=1) (c:=1) Tryz.underlying22 Tryz.info3 h3.row (T:=fun _=>True) (Sl.new w [.int .i64 r] 3 1 1 rfl) I I I ci ?_;intro v5 w5 ho5 hf5 hb5;have hge:∀ q,some q=(Value.slice Ap p cp).ownBlock->g.hi<=q:=fun q hq=>h3.row.block_ge hq.symm
 have hhc:=h.hc;have hhn:=h.hn;have hhe:=h.he;have hS5:qc w5 g.c 2 (.slice Ap p cp):=aH hf5 (fun hq=>by have:=hge _ hq;omega) (aA hxa c2);have B5:=h3.box.fr hf5 (fun hq=>by have:=hge _ hq;omega);have bf:=B5.frozen 2;obtain ⟨A5,c5,rfl,-,-,-⟩:=Sl.of_own ho5;have H3:=aYf h3;have HH:=aYf h;clear h3 h;clear c2;iterate 2 refine lv ?_
 refine ls (w1:=w5.setCell (qt g.c 2) (.slice A5 (p+1) c5)) ?_ (hrun:=by simp [execOp,go_sem, *];try rfl);refine lN a [0,1,2,3,8,9] ?_;intro a6 u6;have h3:=H3.out;have h:=HH.out;have hs5:=hf5.size;have hf6:Fr (fun q=>q=g.c) w5 (w5.setCell (qt g.c 2) (.slice A5 (p+1) c5)):=(au (fun q=>q=g.c) w5).setCell (p:=qt g.c 2) (.inl rfl) _;have hs6:=hf6.size;obtain ⟨ys,hnr3⟩:=h3.nrow;refine hK a6 _ (.slice A5 (p+1) c5) u6 ⟨by simpa using B5.set_ 2 (.slice A5 (p+1) c5),(h3.nbox.fr hf5 (fun hq=>by have:=hge _ hq;omega)).fr hf6 (fun e=>h.cn e.symm),aH hf6 (fun e=>h.ce e.symm) (aH hf5 (fun hq=>by have:=hge _ hq;omega) h3.ebox),(cP ho5 hf6 (fun q hq e=>by have:=ho5.block_ge hq;omega)).len_cast U U,⟨ys,cP (cP hnr3 hf5 (fun q hq e=>h.two q e.symm hq)) hf6 (fun q hq e=>by have:=hnr3.block_ge hq;omega)⟩,fun q hq e=>?_,h.cn,h.ce,h.ne,h.bc,h.bn,h.hc,h.hn,h.he,h.hh,I⟩ ?_ ?_
 ·have hlt:=hnr3.block_lt e
  rcases hb5 with e5 | e5
  ·exact h.two q (e5.symm.trans hq) e
  ·rw [e5] at hq;cases hq;omega
 ·exact ((ar hx).trans (hf5.mono fun q hq=>.inr (.inr (.inl hq)))).trans (hf6.mono fun q hq=>.inl hq)
 ·rcases hb5 with e5 | e5
  ·exact .inl e5
  ·exact .inr ⟨_,e5,I⟩
end
noncomputable abbrev c94:Code:=.seq (R94 0) (.seq (.seq (R94 1) (.cond (.tmp 24) (R94 2) .skip)) (.seq (R94 3) (.seq (.seq (R94 4) (.cond (.tmp 48) .ret .skip)) (.seq (.seq (R94 5) (.cond (.tmp 53) (.seq (R94 6) .ret) .skip)) (R94 7)))))
theorem b94:Tryz.f94.body=some c94:=av
section
variable {Q:Exit->Act->World->Prop}{a:Act}{w:World}{g:CK}{p:List Int}{pv nv:Value}{m:Nat}
theorem rI {w1 w2:World}{pv' nv':Value}(h:Fr (CM g pv nv) w w1)(hp:fQ w pv pv')(hn:fQ w nv nv')(k:Fr (CM g pv' nv') w1 w2):Fr (CM g pv nv) w w2:=h.trans_new (k.mono fun q hq=>CM.mono hp hn hq)
theorem LB {x y:GN}{nx ny:NA}{i j n bx ox by_ oy bk ok nk ck:Nat}{P1 P2:Nat->Prop}{C:Code}(sz:a.tmps.size=83)(e0:qq a 0 (qp g.c))(e1:qq a 1 (qt bx ox))(e2:qq a 2 (qt by_ oy))(e3:qq a 3 (.slice (qt bk ok) nk ck))(hnk:0<nk)(hbk:bk<g.base)
  (ax:NAt w P1 x nx)(ay:NAt w P2 y ny)(cx:aR w bx ox x nx)(cy:aR w by_ oy y ny)(ck0:qc w bk ok n)(okx:cR i x)(oky:cR j y)(hkx:x.kind=1∨x.kind=2)(hky:y.kind=1∨y.kind=2)(hk1:(n:Int)<gY x)(hl:∀ s ∈ x.labels,s.size<=281474976710656)(ht:sP w)
  (h:CSt g p pv m nv w)(hm:m<=1000000)(hp:p.length<=1000000)
  (hK:∀ a' w' pv' nv',Ag [0,1,2,3] a a'->qq a' 8 (.int .i64 (iJ x y n).1)->CSt g (p ++ [(iJ x y n).1]) pv' (m+if (iJ x y n).2 then 0 else 1) nv' w'->Fr (CM g pv nv) w w'->fQ w pv pv'->fQ w nv nv'->qw C Q a' w') :
  qw (.seq (R94 0) (.seq (.seq (R94 1) (.cond (.tmp 24) (R94 2) .skip)) (.seq (R94 3) C))) Q a w:=by
 refine wp_seq (Jy sz e1 e2 e3 hnk ax ay cx cy ck0 okx oky hkx hky hk1 hl ht ?_);generalize (iJ x y n).1=r1 at *;generalize (iJ x y n).2=r2 at *;intro a1 w1 u1 e8 e9 hx;have h1:=h.ext hx;replace sz:=u1.sz.trans sz;replace ck0:=aA hx ck0;refine wp_seq (rS ?_);iterate 2 refine lv ?_
 refine lE (v:=(!r2)) a1 [0,1,2,3,8,9] 24 ?_ (he:=by simp [*]);intro a2 u2 e24;replace sz:=u2.sz.trans sz
 have last:∀ (a3:Act) (w3:World) (m3:Nat) (nv3:Value),Ag [0,1,2,3,8,9] a1 a3->a3.tmps.size=83->CSt g p pv m3 nv3 w3->Fr (CM g pv nv) w w3->fQ w nv nv3->m3=m+(if r2 then 0 else 1)->qw (.seq (R94 3) C) Q a3 w3:=by
  intro a3 w3 m3 nv3 u3 sz3 h3 hf3 hn3 hm3;subst hm3;have hs3:=hf3.size;refine wp_seq (F6 sz3 (u3.get 0 (u1.get 0 e0)) (u3.get 8 e8) h3 hp ?_);intro a4 w4 pv4 u4 h4 hf4 hp4;exact hK a4 w4 pv4 nv3 ((u1.trans (u3.mono rfl)).trans (u4.mono rfl)) (u4.get 8 (u3.get 8 e8)) h4 (rI hf3 (.inl rfl) hn3 hf4) (fQ.trans (w1:=w) (b:=pv) (.inl rfl) hp4 hs3) hn3
 cases r2 with
 | true=>exact wp_cond_false e24 (wp_skip (last a2 w1 m nv u2 sz h1 (ar hx) (.inl rfl) rfl))
 | false =>
  refine wp_cond_true e24 (Ie sz (u2.get 0 (u1.get 0 e0)) (u2.get 3 (u1.get 3 e3)) (u2.get 8 e8) hnk ck0 hbk h1 hm hp ?_);intro a3 w3 nv3 u3 h3 hf3 hn3;refine last a3 w3 (m+1) nv3 (u2.trans u3) (u3.sz.trans sz) h3 ((ar hx).trans hf3) ?_ rfl;rcases hn3 with h | ⟨q,h,h1⟩
  ·exact .inl h
  ·exact .inr ⟨q,h,by have:=hx.size;omega⟩
end
section
variable {Q:Exit->Act->World->Prop}{a:Act}{w:World}
theorem Kp {x y:GN}{nx ny:NA}{n r xk yk bx ox by_ oy bk ok nk ck bx7 ox7 by7 oy7 gc:Nat}{R:Ending->World->Prop}(sz:a.tmps.size=83)(e0:qq a 0 (qp gc))(e1:qq a 1 (qt bx ox))(e2:qq a 2 (qt by_ oy))(e3:qq a 3 (.slice (qt bk ok) nk ck))(e8:qq a 8 r)(hnk:0<nk)(hck:nk<=ck)
  (c7:qc w bx (ox+7) (.slice (qt bx7 ox7) x.kids nx.kc))(d7:qc w by_ (oy+7) (.slice (qt by7 oy7) y.kids ny.kc))(ck0:qc w bk ok n)(hn:n<x.kids)(hr:r<y.kids)(cx:qc w bx7 (ox7+n) xk)(cy:qc w by7 (oy7+r) yk)
  (hcall:qg 66 #[qp gc,↑xk,↑yk,.slice (qt bk (if ck=1 then ok else ok+1)) (nk - 1) (ck - 1)] w.drew R)
  (hS:∀ e w',R e w'->w'.cell? (qt bx (ox+7))=w.cell? (qt bx (ox+7))∧w'.cell? (qt by_ (oy+7))=w.cell? (qt by_ (oy+7))∧w'.cell? (qt bk ok)=w.cell? (qt bk ok)∧w'.cell? (qt bx7 (ox7+n))=w.cell? (qt bx7 (ox7+n))∧w'.cell? (qt by7 (oy7+r))=w.cell? (qt by7 (oy7+r)))
  (hR:∀ e w',R e w'->∃ v,e=.returned v)(h:∀ a' e w',a'.defers=a.defers->R e w'->Q .normal a' w'):qw (R94 7) Q a w:=by
 have k1:(n:Int)<(x.kids:Int):=I;have k2:(r:Int)<(y.kids:Int):=I;have k3:(1:Int)<=(nk:Int):=I;refine rD (fun V=>qc V bx (ox+7) (.slice (qt bx7 ox7) x.kids nx.kc)∧qc V by_ (oy+7) (.slice (qt by7 oy7) y.kids ny.kc)∧qc V bk ok n∧qc V bx7 (ox7+n) xk∧qc V by7 (oy7+r) yk) (fun _=>true) 20 ?_;refine dt 1 [0,1,2,3,4,5,6,7,8,9,10,11,12,13,14,15,16,17,18] (hS:=⟨c7,d7,ck0,cx,cy⟩) ?_;iterate 18 refine tv ?_
 refine tv (v:=.slice (qt bk (if ck=1 then ok else ok+1)) (nk - 1) (ck - 1)) ?_ (hy:=by intro V hV;by_cases hc:ck=1 <;> simp [execOp,go_sem, *] <;> try omega);refine t_e ?_;refine dc (vs:=#[qp gc,↑xk,↑yk,.slice (qt bk (if ck=1 then ok else ok+1)) (nk - 1) (ck - 1)]) 19 Tryz.func66 hcall ?_;intro e w3 hr3;obtain ⟨v,rfl⟩:=hR e w3 hr3;obtain ⟨s1,s2,s3,s4,s5⟩:=hS _ w3 hr3;refine ⟨v,rfl,fun _=>⟨s1.trans c7,s2.trans d7,s3.trans ck0,s4.trans cx,s5.trans cy⟩,?_⟩;refine d_E a [] ?_;intro a' u;exact h a' _ w3 u.df hr3
end
theorem LA {w:World}{P:Nat->Prop}{b o c:Nat}{x:Int}{l:List Int}(h:bL w P (.slice (qt b o) (x :: l) c) (x :: l)):bL w P (.slice (qt b (if c=1 then o else o+1)) l (c - 1)) l:=by
 obtain ⟨A,c',e,h1,⟨h2,h2'⟩,h3,h4,h5⟩:=h;injection e with e e2 e3;subst e e3;simp only [ai] at h1 h2 h5;refine ⟨_,_,rfl,I,⟨I,I⟩,fun y hy=>h3 y (List.mem_cons_of_mem _ hy),U,fun hl=>?_⟩;obtain ⟨b',o',eb,hb,hc⟩:=h5 I;injection eb with eb;injection eb with eb eo;subst eb eo;refine ⟨_,_,rfl,hb,fun j u hu=>?_⟩;have hne:¬ c=1:=by omega
 rw [if_neg hne];have:=hc (j+1) u fy;rw [<- this]
 congr 2
 omega
section
variable {Q:Exit->Act->World->Prop}{a:Act}{w:World}{x:GN}{nx:NA}{b o:Nat}
theorem Mc (sz:a.tmps.size=83)(e2:qq a 2 (qt b o))(c:aR w b o x nx)(h:∀ a',Ag [0,1,2,3,8] a a'->qq a' 48 (x.kind != 2)->Q .normal a' w):qw (R94 4) Q a w:=by
 have c0:=c.c0;refine rW ?_;iterate 5 refine lv ?_
 refine lE (v:=(x.kind != 2)) a [0,1,2,3,8] 48 ?_ (he:=by simp [*]);exact h
theorem El (sz:a.tmps.size=83)(e1:qq a 1 (qt b o))(c:aR w b o x nx)(h:∀ a',Ag [0,1,2,3,8] a a'->qq a' 53 (x.kind != 2)->Q .normal a' w):qw (R94 5) Q a w:=by
 have c0:=c.c0;refine rW ?_;iterate 5 refine lv ?_
 refine lE (v:=(x.kind != 2)) a [0,1,2,3,8] 53 ?_ (he:=by simp [*]);exact h
end
section
variable {Q:Exit->Act->World->Prop}{a:Act}{w:World}{y:GN}{ny:NA}{gc r yk by_ oy by7 oy7:Nat}{R:Ending->World->Prop}
theorem LK (sz:a.tmps.size=83)(e0:qq a 0 (qp gc))(e2:qq a 2 (qt by_ oy))(e8:qq a 8 r)(d7:qc w by_ (oy+7) (.slice (qt by7 oy7) y.kids ny.kc))(hr:r<y.kids)(cy:qc w by7 (oy7+r) yk)
  (hcall:qg 95 #[qp gc,↑yk] w R)(hR:∀ e w',R e w'->∃ v,e=.returned v)(h:∀ a' e w',a'.defers=a.defers->R e w'->Q .normal a' w'):qw (R94 6) Q a w:=by
 have k2:(r:Int)<(y.kids:Int):=I;refine rW ?_;iterate 8 refine lv ?_
 refine lc (vs:=#[qp gc,↑yk]) Tryz.func95 hcall ?_;intro e w3 hr3;obtain ⟨v,rfl⟩:=hR e w3 hr3;refine ⟨v,rfl,?_⟩;refine lN a [] ?_;intro a' u;exact h a' _ w3 u.df hr3
end
section
variable {a b:List GN}{va vb pv nv pv1 nv1:Value}{sa la fa sb lb fb m:Nat}{g:CK}{w w1 w':World}{p:List Int}{e:Ending}
theorem nC.comp {r1 r2:List Int × Nat}(hF1:Fr (CM g pv nv) w w1)(hp1:fQ w pv pv1)(hn1:fQ w nv nv1)(h:nC g r2 (p ++ r1.1) pv1 (m+r1.2) nv1 w1 e w'):nC g (r1.1 ++ r2.1,r1.2+r2.2) p pv m nv w e w':=by
 obtain ⟨v,pv2,nv2,rfl,hS,hF,hp,hn⟩:=h;have hs:=hF1.size;exact ⟨v,pv2,nv2,rfl,by simpa only [ah,Nat.add_assoc] using hS,rI hF1 hp1 hn1 hF,fQ.trans hp1 hp hs,fQ.trans hn1 hn hs⟩
theorem nC.cell {r:List Int × Nat}(h:nC g r p pv m nv w e w')(hS:CSt g p pv m nv w){q o:Nat}{u:Value}(hq:q<g.base)(hc:qc w q o u):qc w' q o u:=by
 obtain ⟨v,pv2,nv2,rfl,-,hF,-⟩:=h;exact aH hF (fun hm=>by have:=CM.old hS hm;omega) hc
theorem Ey {P:Nat->Prop}{A:Option Addr}{n c:Nat}{l:List ByteArray}(h:nS w P (.slice A n c) l):∀ s ∈ l,s.size<=281474976710656:=fun s hs=>by
 obtain ⟨i,hi,rfl⟩:=List.mem_iff_getElem.1 hs;obtain ⟨_,_,_,cs,-,-,-,-,hr,-⟩:=Lst.at_ lj.len h ByteArray.empty hi;have e:l.getD i ByteArray.empty=l[i]:=by rw [List.getD_eq_getElem?_getD,List.getElem?_eq_getElem hi];rfl
 rw [e] at hr;have:=hr.1;omega
theorem Gw {f x y bx ox cx by_ oy cy:Nat}{ch:List Int}{vr:Value}(hga:aO a a)(hgb:aO b b)(said:kH a b (.slice (qt bx ox) a cx) (.slice (qt by_ oy) b cy) sa la fa sb lb fb g f)(hxf:x<f+1)(hcl:ch.length<=1000000000)(hx:x<a)(hy:y<b)
  (hE:zV a b (.slice (qt bx ox) a cx) (.slice (qt by_ oy) b cy) sa la fa sb lb fb g w)(hS:CSt g p pv m nv w)(hr:bL w (fun q=>q<g.base) vr ch)(hw:Whl a x ch)(hp:(p:Int)+(aI b).getD y 0<=1000000)(hm:(m:Int)+(aI b).getD y 0<=1000000)(hl:(aI b).getD y 0 ≠ 0)
  (hkx:(a.getD x default).kind=1∨(a.getD x default).kind=2)(hky:(b.getD y default).kind=1∨(b.getD y default).kind=2) :
  qg 94 #[qp g.c,qt bx (ox+x*12),qt by_ (oy+y*12),vr] w (nC g (kj a b (jG a b f) y (a.getD x default) (b.getD y default) ch) p pv m nv w):=by
 refine nj Tryz.func94 b94 rfl U (fun A Q sz df ea hQ=>?_);have e0:=ea 0 (qp g.c) rfl;have e1:=ea 1 (qt bx (ox+x*12)) rfl;have e2:=ea 2 (qt by_ (oy+y*12)) rfl;have e3:=ea 3 vr rfl;clear ea;replace sz:A.tmps.size=83:=sz;obtain ⟨n,rest,rfl,hno⟩:=EU hx hga hkx hw;obtain ⟨Ar,cr,rfl,hcr,-⟩:=hr.form;obtain ⟨bk,ok,rfl,hbk,-,gk⟩:=hr.get (i:=0) U;obtain ⟨_,_,nx,ex,hbx,ax,ncx⟩:=hE.wa.nodes.get hx;cases ex;obtain ⟨_,_,ny,ey,hby,ay,ncy⟩:=hE.wb.nodes.get hy;cases ey;have okx:=(hga.at_ hx).node;have oky:=(hgb.at_ hy).node;have hob:=vL (x:=a.getD x default) oky hky n;have hlb:=(bJ hgb y hy).bd;refine LB sz e0 e1 e2 e3 U hbk ax ay ncx ncy gk okx oky hkx hky hno (Ey ax.labels) hE.libT hS I I ?_;intro a1 w1 pv1 nv1 u1 e8 h1 hF1 hp1 hn1;have hE1:=hE.fr hS hF1;have hkeep:∀ {q o:Nat}{u:Value},q<g.base->qc w q o u->qc w1 q o u:=fun hq hc=>aH hF1 (fun hm=>by have:=CM.old hS hm;omega) hc
 have ncx1:aR w1 bx (ox+x*12) (a.getD x default) nx:=fun j u hu=>hkeep hbx (ncx j u hu)
 have ncy1:aR w1 by_ (oy+y*12) (b.getD y default) ny:=fun j u hu=>hkeep hby (ncy j u hu)
 replace sz:=u1.sz.trans sz;replace e0:=u1.get 0 e0;replace e1:=u1.get 1 e1;replace e2:=u1.get 2 e2;replace e3:=u1.get 3 e3;replace df:=u1.df.trans df;have hlc:=(bJ hgb y hy).choice
 have hC:kj a b (jG a b f) y (a.getD x default) (b.getD y default) ((n:Int) :: rest)=(if (b.getD y default).kind ≠ 2 then ([(iJ (a.getD x default) (b.getD y default) n).1],if (iJ (a.getD x default) (b.getD y default) n).2 then 0 else 1)
    else if (a.getD x default).kind ≠ 2 then ((iJ (a.getD x default) (b.getD y default) n).1 :: oB b ((b.getD y default).kids.getD (iJ (a.getD x default) (b.getD y default) n).1.toNat 0) [],if (iJ (a.getD x default) (b.getD y default) n).2 then 0 else 1)
    else ((iJ (a.getD x default) (b.getD y default) n).1 :: (jG a b f ((a.getD x default).kids.getD n 0) ((b.getD y default).kids.getD (iJ (a.getD x default) (b.getD y default) n).1.toNat 0) rest).1,
      (if (iJ (a.getD x default) (b.getD y default) n).2 then 0 else 1)+(jG a b f ((a.getD x default).kids.getD n 0) ((b.getD y default).kids.getD (iJ (a.getD x default) (b.getD y default) n).1.toNat 0) rest).2)):=by
  unfold kj;rw [Int.toNat_natCast,if_neg hl,if_pos ⟨hkx,hky⟩];rfl
 have hwc:=fun k2=>sR hx hga k2 hw
 have hrr:=hr;rw [hC] at hQ;clear hC;have hoY:(b.getD y default).kind=2->gY (b.getD y default)=(b.getD y default).kids.length:=fun k=>by unfold gY;rw [if_neg I,if_pos k]
 obtain ⟨r,hr1⟩:∃ r:Nat,(iJ (a.getD x default) (b.getD y default) n).1=(r:Int):=⟨_,(Int.toNat_of_nonneg hob.1).symm⟩;rw [hr1] at e8 h1 hob hQ;have hd:(if (iJ (a.getD x default) (b.getD y default) n).2=true then 0 else 1:Nat)<=1:=by split <;> omega
 generalize (if (iJ (a.getD x default) (b.getD y default) n).2=true then 0 else 1:Nat)=d at *;clear hr1;rw [Int.toNat_natCast] at hQ;refine wp_seq (wp_seq (Mc sz e2 ncy1 ?_));intro a2 u2 e48;by_cases ky2:(b.getD y default).kind=2
 ·rw [if_neg I] at hQ
  have hry:r<(b.getD y default).kids.length:=by have:=hoY ky2;omega
  obtain ⟨b7,o7,hK7,hq7,-,g7⟩:=ay.kids.get hry;have d7:=ncy1.c7;rw [hK7] at d7;have hmy:=aC (d:=0) hry;have hzy:=oky.kids _ hmy;have hzl:=(hlc ky2).2 _ hmy;obtain ⟨yk,hyk⟩:∃ yk:Nat,(b.getD y default).kids.getD r 0=(yk:Int):=⟨_,(Int.toNat_of_nonneg hzy.1).symm⟩;rw [hyk] at g7 hzy hzl hQ;rw [Int.toNat_natCast] at hzl;have hykl:yk<b.length:=by omega
  have hpl:(((p ++ [(r:Int)]):Nat):Int)+(aI b).getD yk 0<=1000000:=gu;refine wp_cond_false (e48.trans (by rw [ky2];rfl)) (wp_skip (wp_seq (wp_seq (El (u2.sz.trans sz) (u2.get 1 e1) ncx1 ?_))));intro a3 u3 e53;have uu:=u2.trans u3;by_cases kx2:(a.getD x default).kind=2
  ·rw [if_neg I] at hQ
   obtain ⟨c',r',ec,-,hc1,hwk⟩:=hwc kx2;injection ec with ec1 ec2;subst ec1 ec2;rw [Int.toNat_natCast] at hc1 hwk;obtain ⟨x7,p7,hX7,hxq7,-,f7⟩:=ax.kids.get hc1;have c7:=ncx1.c7;rw [hX7] at c7;have hzx:=okx.kids _ (aC (d:=0) hc1);obtain ⟨xk,hxk⟩:∃ xk:Nat,(a.getD x default).kids.getD n 0=(xk:Int):=⟨_,(Int.toNat_of_nonneg hzx.1).symm⟩;rw [hxk] at f7 hzx hwk hQ;have hx0:Ext w1 w1.drew:=(aq w1).drew';have hri:bL w1.drew (fun q=>q<g.base) (.slice (qt bk (if cr=1 then ok else ok+1)) rest (cr - 1)) rest:=((LA hrr).carry (aB.of_fr hF1 (fun q hq hm=>by have:=CM.old hS hm;omega)) (fun _ _ h=>h)).ext hx0;refine wp_cond_false (e53.trans (by rw [kx2];rfl)) (wp_skip ?_);have h1d:=h1.ext hx0;refine Kp (x:=a.getD x default) (y:=b.getD y default) (uu.sz.trans sz) (uu.get 0 e0) (uu.get 1 e1) (uu.get 2 e2) (uu.get 3 e3) (uu.get 8 e8) U hcr c7 d7 (hkeep hbk gk) hc1 hry (hkeep hxq7 f7) (hkeep hq7 g7) (said xk yk rest _ _ _ _ _ _ I (by simp only [ai] at hcl;omega) I hykl (hE1.ext hx0) h1d hri hwk hpl I) ?_ ?_ ?_
   ·intro e w' hR
    have hk:∀ {q o:Nat}{u:Value},q<g.base->qc w1 q o u->w'.cell? (qt q o)=w1.cell? (qt q o):=fun hq hc=>(hR.cell h1d hq (aA hx0 hc)).trans hc.symm
    exact ⟨hk hbx c7,hk hby d7,hk hbk (hkeep hbk gk),hk hxq7 (hkeep hxq7 f7),hk hq7 (hkeep hq7 g7)⟩
   ·rintro e w' ⟨v,_,_,rfl,-⟩
    exact ⟨v,rfl⟩
   ·intro a5 e w' hd5 hR
    have hR2:=nC.comp (r1:=([(r:Int)],d)) (hF1.trans (ar hx0)) hp1 hn1 hR;obtain ⟨v,pv2,nv2,rfl,hh⟩:=hR2;exact (hQ a5 w' (.tuple #[]) (hd5.trans (uu.df.trans df)) (by simp [results,Tryz.results94,go_sem]) ⟨_,pv2,nv2,rfl,hh⟩).2
  ·rw [if_pos I] at hQ
   refine wp_cond_true (e53.trans (congrArg Value.bool (bne_iff_ne.2 kx2))) (wp_seq (LK (y:=b.getD y default) (uu.sz.trans sz) (uu.get 0 e0) (uu.get 2 e2) (uu.get 8 e8) d7 hry (hkeep hq7 g7) (Bi hgb hykl hE1.wb h1 hpl) ?_ ?_))
   ·rintro e w' ⟨v,_,_,rfl,-⟩
    exact ⟨v,rfl⟩
   ·intro a5 e w' hd5 hR
    have hR2:=nC.comp (r1:=([(r:Int)],d)) hF1 hp1 hn1 hR;obtain ⟨v,pv2,nv2,rfl,hh⟩:=hR2;exact wp_ret (hQ a5 w' (.tuple #[]) (hd5.trans (uu.df.trans df)) (by simp [results,Tryz.results94,go_sem]) ⟨_,pv2,nv2,rfl,hh⟩).1
 ·rw [if_pos ky2] at hQ
  exact wp_cond_true (e48.trans (congrArg Value.bool (bne_iff_ne.2 ky2))) (wp_ret (hQ a2 w1 (.tuple #[]) (u2.df.trans df) (by simp [results,Tryz.results94,go_sem]) ⟨_,pv1,nv1,rfl,h1,hF1,hp1,hn1⟩).1)
end
theorem rN {rec:Int->Int->List Int->List Int × Nat}{va:Int->List Int->Nat}{fit:Int->List Int}:∀ (ks os ch:List Int),(∀ z ∈ ks,∀ x c,(rec x z c).2<=(rec x z c).1.length)->(wY rec va fit os ks ch).2<=(wY rec va fit os ks ch).1.length
 | [],os,ch,_=>by cases os <;> simp [wY]
 | z :: ks,[],ch,h=>by
  have:=rN (va:=va) (fit:=fit) ks [] ch (fun y hy=>h y dh);simp only [wY,aa];omega
 | z :: ks,o :: os,ch,h=>by
  have h1:=rN (va:=va) (fit:=fit) ks os (ch.drop (va o ch)) (fun y hy=>h y dh);have h2:=h z U o (ch.take (va o ch));simp only [wY,aa];omega
theorem wM {a b:List GN}(hg:aO b b):∀ (f:Nat)(x y:Int)(ch:List Int),0<=y->(jG a b f x y ch).2<=(jG a b f x y ch).1.length
 | 0,x,y,ch,h0=>by simp [jG]
 | f+1,x,y,ch,h0=>by
  have ih:=wM (a:=a) hg f;simp only [jG];unfold kj;by_cases hl:(aI b).getD y.toNat 0=0
  ·rw [if_pos hl];exact af _
  rw [if_neg hl]
  have hlt:y.toNat<b:=by
   by_cases hq:y.toNat<b
   ·exact hq
   ·exact absurd (qO (by rw [mK];omega)) hl
  have hn:=(hg.at_ hlt).node;have hff:=(kO hg h0 hlt ch).2 hl
  have hpos:1<=(oB b y ch).length:=by
   cases h:oB b y ch with
   | nil=>exact absurd h hff
   | cons=>simp
  generalize a.getD x.toNat default=o;generalize b.getD y.toNat default=n at *
  have hk:∀ q:Nat,0<=n.kids.getD q 0:=fun q=>by
   by_cases hq:q<n.kids.length
   ·exact (hn.kids _ (aC hq)).1
   ·rw [List.getD_eq_getElem?_getD,List.getElem?_eq_none I];exact Int.le_refl _
  split
  ·generalize iJ o n (ch.getD 0 0)=k at *
   have hd:(if k.2=true then 0 else 1:Nat)<=1:=by split <;> omega
   split
   ·simpa using hd
   split
   ·simp only [ai];omega
   ·have:=ih (o.kids.getD (ch.getD 0 0).toNat 0) (n.kids.getD k.1.toNat 0) ch.tail (hk _)
    simp only [ai];omega
  split
  ·exact rN _ _ _ (fun z hz x c=>ih x z c (hn.kids z hz).1)
  split
  ·simp only [aa]
   exact Nat.add_le_add (ih _ _ _ (hk _)) (ih _ _ _ (hk _))
  ·exact hpos
theorem yu {w:World}{P:Nat->Prop}{A:Option Addr}{n c m k:Nat}{xs:List Value}(h:Sl w P 1 A n xs)(hmk:m<=k)(hk:k<=n)(hc:n<=c):Sl w P 1 (if c=m then A else A.map (·.add (m*1))) (k - m) ((xs.take k).drop m):=by
 have h1:=h.1;rw [Nat.mul_one] at h1;refine ⟨by rw [am,ak];omega,fun hl=>?_⟩;obtain ⟨b,o,rfl,hb,hc2⟩:=h.2 I;rw [if_neg I];refine ⟨b,o+m,?_,hb,fun j u hu=>?_⟩
 ·rw [Nat.mul_one]
  by_cases hm:m=0
  ·subst hm;simp [Addr.add]
  ·simp [Addr.add,hm]
 ·rw [List.getElem?_drop] at hu
  have:=hc2 (m+j) u (by
   rw [List.getElem?_take] at hu;split at hu
   ·exact hu
   ·cases hu)
  rw [Nat.add_assoc];exact this
theorem pC {w:World}{P:Nat->Prop}{A:Option Addr}{c m k:Nat}{l:List Int}(h:bL w P (.slice A l c) l)(hmk:m<=k)(hk:k<=l):bL w P (sliced A m k c 1) ((l.take k).drop m):=by
 obtain ⟨A',c',e,h1,⟨h2,h2'⟩,h3,h4⟩:=h;injection e with e e2 e3;subst e e3;have hl:((l.take k).drop m)=k - m:=by rw [am,ak];omega
 refine ⟨_,c - m,by rw [hl];rfl,I,⟨I,I⟩,fun x hx=>h3 x (List.mem_of_mem_take (List.mem_of_mem_drop hx)),?_⟩;have:=yu h4 hmk hk h1;rw [hl,List.map_drop,List.map_take];exact this
theorem Mb {w:World}{hi c:Nat}{A:Option Addr}{p r:List Int}{Q:Nat->Prop}(h:w.ownsRow hi 3 1 (.slice A (p ++ r) c) (p ++ r) ((p ++ r).map (Value.int .i64)))(hr:∀ x ∈ r,I64 x)(hl:(p ++ r).length<=1000000000)(hQ:∀ b,(Value.slice A (p ++ r) c).ownBlock=some b->Q b):bL w Q (sliced A p (p ++ r) c 1) r:=by
 obtain ⟨A',c',e,h1,h2,h3⟩:=Sl.of_own h;injection e with e _ e3;subst e e3;have hm:c<=9223372036854775807:=ae h2 dx;rw [aa] at h1 hl;have hs:=yu (h3 Q hQ) (m:=p.length) (k:=(p ++ r).length) U (ab _) (by simpa using h1);refine ⟨_,c - p,by rw [show r.length=(p ++ r).length - p.length by simp];rfl,I,⟨I,I⟩,hr,?_⟩
 have e1:(((p ++ r).map (Value.int .i64)).take (p ++ r)).drop p.length=r.map (Value.int .i64):=by
  rw [an U,List.map_append,List.drop_left' U]
 rw [e1] at hs;rw [show r.length=(p ++ r).length - p.length by simp];exact hs
theorem ph {rec:Int->Int->List Int->List Int × Nat}{va:Int->List Int->Nat}{fit:Int->List Int}:∀ (ks os ch:List Int),(∀ z ∈ ks,∀ x c,Sm (rec x z c).1)->(∀ z,Sm (fit z))->Sm (wY rec va fit os ks ch).1
 | [],os,ch,_,_=>by cases os <;> (intro c hc;cases hc)
 | z :: ks,[],ch,h,hf=>fun c hc=>by
  rcases ap.1 hc with h1 | h1
  ·exact hf z c h1
  ·exact ph ks [] ch (fun y hy=>h y dh) hf c h1
 | z :: ks,o :: os,ch,h,hf=>fun c hc=>by
  rcases ap.1 hc with h1 | h1
  ·exact h z U _ _ c h1
  ·exact ph ks os _ (fun y hy=>h y dh) hf c h1
theorem ru {a b:List GN}(hg:aO b b):∀ (f:Nat)(x y:Int)(ch:List Int),Sm (jG a b f x y ch).1
 | 0,x,y,ch=>fun c hc=>by cases hc
 | f+1,x,y,ch=>by
  have ih:=ru (a:=a) hg f;have hff:=Br hg;simp only [jG];unfold kj;by_cases hl:(aI b).getD y.toNat 0=0
  ·rw [if_pos hl];exact fun c hc=>by cases hc
  rw [if_neg hl]
  have hlt:y.toNat<b:=by
   by_cases hq:y.toNat<b
   ·exact hq
   ·exact absurd (qO (by rw [mK];omega)) hl
  have hn:=(hg.at_ hlt).node;have hnum:=aZ hn.numbers;have hch:=hn.choice;generalize a.getD x.toNat default=o;generalize b.getD y.toNat default=n at *;split
  ·next h1 =>
   have hob:=vL (x:=o) hn h1.2 (ch.getD 0 0)
   have hoN:gY n<=1099511627777:=by
    unfold gY;split
    ·omega
    ·split
     ·have:=hch I;omega
     ·omega
   have hk:0<=(iJ o n (ch.getD 0 0)).1∧(iJ o n (ch.getD 0 0)).1<=1099511627776:=I;generalize iJ o n (ch.getD 0 0)=k at *
   have one:∀ l,Sm l->Sm (k.1 :: l):=fun l hl c hc=>by
    rcases ao.1 hc with rfl | hc
    ·exact hk
    ·exact hl c hc
   split
   ·exact one [] (fun c hc=>by cases hc)
   split
   ·exact one _ (hff _ _)
   ·exact one _ (ih _ _ _)
  split
  ·exact ph _ _ _ (fun z _ x c=>ih x z c) (fun z=>hff _ _)
  split
  ·intro c hc
   rcases ap.1 hc with h1 | h1
   ·exact ih _ _ _ c h1
   ·exact ih _ _ _ c h1
  ·exact hff _ _
noncomputable def R66:=RG Tryz.f66
section
variable {Q:Exit->Act->World->Prop}{a:Act}{w:World}{g:CK}{vr:Value}
theorem Fq {y:Nat}{z:Int}(sz:a.tmps.size=248)(e0:qq a 0 (qp g.c))(e2:qq a 2 y)(c1:qc w g.c 1 (qp g.wb))(hcall:Calls Tryz.prog 91 #[qp g.wb,↑y] w fun e w'=>e=.returned (↑z)∧w=w')
  (h:∀ a',Ag [0,1,2,3] a a'->qq a' 30 (z == 0)->Q .normal a' w):qw (R66 0) Q a w:=by
 refine rW ?_;iterate 5 refine lv ?_
 refine lc (vs:=#[qp g.wb,↑y]) Tryz.func91 hcall ?_;rintro e w' ⟨rfl,rfl⟩;refine ⟨_,rfl,?_⟩;refine lv ?_;exact lE (v:=(z == 0)) a [0,1,2,3] 30 h (he:=by simp [*])
theorem Kf {x y:Nat}{px py:Value}(sz:a.tmps.size=248)(e0:qq a 0 (qp g.c))(e1:qq a 1 x)(e2:qq a 2 y)(c0:qc w g.c 0 (qp g.wa))(c1:qc w g.c 1 (qp g.wb))
  (h1:∀ V,Ext w V->Calls Tryz.prog 92 #[qp g.wa,↑x] V fun e w'=>e=.returned px∧V=w')(h2:∀ V,Ext w V->Calls Tryz.prog 92 #[qp g.wb,↑y] V fun e w'=>e=.returned py∧V=w')
  (h:∀ a' w',Ag [0,1,2,3] a a'->qq a' 8 px->qq a' 9 py->Ext w w'->Q .normal a' w'):qw (R66 1) Q a w:=by
 have hx0:Ext w w.drew:=(aq w).drew';refine rD (fun V=>qc V g.c 0 (qp g.wa)∧qc V g.c 1 (qp g.wb)) (fun _=>true) 14 ?_;generalize w.drew=V0 at *;have hS:=And.intro (aA hx0 c0) (aA hx0 c1);have k1:=h1 V0 hx0;have k2:=h2 V0 hx0;clear c0 c1 h1 h2;refine dt 4 [0,1,2,3,4,6,7,8,9,10] (hS:=hS) ?_;iterate 10 refine tv ?_
 refine t_e ?_;refine dc (vs:=#[qp g.wa,↑x]) 5 Tryz.func92 k1 ?_;rintro e w3 ⟨rfl,rfl⟩;refine ⟨_,rfl,fun _=>hS,?_⟩;refine dc (vs:=#[qp g.wb,↑y]) 11 Tryz.func92 k2 ?_;rintro e w3 ⟨rfl,rfl⟩;refine ⟨_,rfl,fun _=>hS,?_⟩;refine dt 0 [12,13] (hS:=hS) ?_;iterate 2 refine tv ?_
 refine t_e ?_;exact kF av (h _ _ O ba ba hx0)
theorem IH {o n:GN}{no nn:NA}{bo oo bn on:Nat}(sz:a.tmps.size=248)(e8:qq a 8 (qt bo oo))(e9:qq a 9 (qt bn on))(co:aR w bo oo o no)(cn:aR w bn on n nn)
  (h:∀ a',Ag [0,1,2,3,8,9] a a'->qq a' 74 (fO o && fO n)->Q .normal a' w):qw (R66 8) Q a w:=by
 have h1:=rJ co;have h2:=rJ cn;generalize fO o=p at *;generalize fO n=q at *;refine rW ?_;refine lv ?_;refine lc (vs:=#[qt bo oo]) Tryz.func93 h1 ?_;rintro e w' ⟨rfl,rfl⟩;refine ⟨_,rfl,?_⟩;refine lv ?_;cases p with
 | true =>
  refine ly ?_;refine lcg (vs:=#[qt bn on]) Tryz.func93 h2 ?_;rintro e w' ⟨rfl,rfl⟩;refine ⟨_,rfl,?_⟩;iterate 2 refine lv ?_
  exact lE (v:=q) a [0,1,2,3,8,9] 74 h (he:=by simp [*])
 | false =>
  iterate 2 refine ln ?_
  iterate 2 refine lv ?_
  exact lE (v:=false) a [0,1,2,3,8,9] 74 h (he:=by simp [*])
theorem IE {o n:GN}{no nn:NA}{bo oo bn on:Nat}(sz:a.tmps.size=248)(e8:qq a 8 (qt bo oo))(e9:qq a 9 (qt bn on))(co:aR w bo oo o no)(cn:aR w bn on n nn)
  (h:∀ a',Ag [0,1,2,3,8,9] a a'->qq a' 86 (o.kind == 3 && n.kind == 3)->Q .normal a' w):qw (R66 10) Q a w:=by
 have c1:=co.c0;have c2:=cn.c0;cases hk:(o.kind == 3) with
 | true =>
  rw [hk] at h;refine rW ?_;iterate 6 refine lv ?_
  iterate 5 refine ly ?_
  iterate 2 refine lv ?_
  exact lE (v:=(n.kind == 3)) a [0,1,2,3,8,9] 86 h (he:=by simp [*])
 | false =>
  rw [hk] at h;refine rW ?_;iterate 6 refine lv ?_
  iterate 5 refine ln ?_
  iterate 2 refine lv ?_
  exact lE (v:=false) a [0,1,2,3,8,9] 86 h (he:=by simp [*])
theorem Li {o n:GN}{no nn:NA}{bo oo bn on:Nat}(sz:a.tmps.size=248)(e8:qq a 8 (qt bo oo))(e9:qq a 9 (qt bn on))(co:aR w bo oo o no)(cn:aR w bn on n nn)
  (h:∀ a',Ag [0,1,2,3,8,9] a a'->qq a' 153 (o.kind == 4 && n.kind == 4)->Q .normal a' w):qw (R66 20) Q a w:=by
 have c1:=co.c0;have c2:=cn.c0;cases hk:(o.kind == 4) with
 | true =>
  rw [hk] at h;refine rW ?_;iterate 6 refine lv ?_
  iterate 5 refine ly ?_
  iterate 2 refine lv ?_
  exact lE (v:=(n.kind == 4)) a [0,1,2,3,8,9] 153 h (he:=by simp [*])
 | false =>
  rw [hk] at h;refine rW ?_;iterate 6 refine lv ?_
  iterate 5 refine ln ?_
  iterate 2 refine lv ?_
  exact lE (v:=false) a [0,1,2,3,8,9] 153 h (he:=by simp [*])
theorem JH {bo oo bn on gc:Nat}{R:Ending->World->Prop}(sz:a.tmps.size=248)(e0:qq a 0 (qp gc))(e3:qq a 3 vr)(e8:qq a 8 (qt bo oo))(e9:qq a 9 (qt bn on))
  (hcall:qg 94 #[qp gc,qt bo oo,qt bn on,vr] w R)(hR:∀ e w',R e w'->∃ v,e=.returned v)(h:∀ a' e w',a'.defers=a.defers->R e w'->Q .normal a' w'):qw (R66 9) Q a w:=by
 refine rW ?_;iterate 4 refine lv ?_
 refine lc (vs:=#[qp gc,qt bo oo,qt bn on,vr]) Tryz.func94 hcall ?_;intro e w3 hr3;obtain ⟨v,rfl⟩:=hR e w3 hr3;refine ⟨v,rfl,?_⟩;refine lN a [] ?_;intro a' u;exact h a' _ w3 u.df hr3
end
section
variable {Q:Exit->Act->World->Prop}{a:Act}{w:World}{g:CK}{vr pv nv:Value}{p:List Int}{m:Nat}
theorem In {y:Nat}{l:List Int}(sz:a.tmps.size=248)(e0:qq a 0 (qp g.c))(e2:qq a 2 y)(e3:qq a 3 vr)(c1:qc w g.c 1 (qp g.wb))(hcall:qg 97 #[qp g.wb,↑y,vr] w (zg l w))
  (h:∀ a' w' v,Ag [0,3] a a'->qq a' 22 v->bL w' (fun q=>w.heap.size<=q) v l->w'.ownsRow w 3 1 v l (l.map (Value.int .i64))->Ext w w'->Q .normal a' w'):qw (R66 2) Q a w:=by
 refine rW ?_;iterate 6 refine lv ?_
 refine lc (vs:=#[qp g.wb,↑y,vr]) Tryz.func97 hcall ?_;rintro e w' ⟨v,rfl,hi,ho,hx⟩;refine ⟨_,rfl,?_⟩;refine lv ?_;exact lE (v:=v) a [0,3] 22 (fun a' u e=>h a' w' v u e hi ho hx) (he:=by simp [*])
theorem FH {ch:List Int}{A:Option Addr}{c:Nat}{C:Code}{P:Nat->Prop}(sz:a.tmps.size=248)(e3:qq a 3 (.slice A ch c))(hr:bL w P (.slice A ch c) ch)(h:∀ a' k1,Ag [0,22] a a'->qq a' 23 (.int .i64 k1)->qw C Q a' w) :
  qw (.seq (R66 3) (.seq (.seq (R66 4) (.cond (.tmp 52) (R66 5) .skip)) C)) Q a w:=by
 refine rS ?_;refine lv ?_;refine lE (v:=.int .i64 (-1)) a [0,3,22] 23 ?_ (he:=by simp [*]);intro a1 u1 e23;refine u1.b1 sz e3 fun sz e3=>?_
 refine wp_seq (rS ?_);iterate 3 refine lv ?_
 refine lE (v:=(decide ((0:Int)<(ch:Int)))) a1 [0,3,22,23] 52 ?_ (he:=by simp [*]);intro a2 u2 e52;refine u2.b1 sz e3 fun sz e3=>?_
 by_cases hl:0<ch.length
 ·obtain ⟨b,o,rfl,-,-,gk⟩:=hr.get hl
  rw [Nat.add_zero] at gk;refine wp_cond_true (e52.trans jz) (rW ?_);clear e52;iterate 4 refine lv ?_
  exact lE (v:=.int .i64 (ch.getD 0 0)) a2 [0,22] 23 (fun a' u e=>h a' _ (((u1.mono rfl).trans (u2.mono rfl)).trans u) e) (he:=by simp [*])
 ·exact wp_cond_false (e52.trans (congrArg Value.bool (aYj I))) (wp_skip (h a2 _ ((u1.mono rfl).trans (u2.mono rfl)) (u2.get 23 e23)))
theorem FK {k1 z:Int}{b3 o3 n3 c3:Nat}(sz:a.tmps.size=248)(e0:qq a 0 (qp g.c))(e22:qq a 22 (.slice (qt b3 o3) n3 c3))(e23:qq a 23 k1)(hn:0<n3)(cz:qc w b3 o3 z)(hb3:¬ CM g pv nv b3)(h:CSt g p pv m nv w)(hm:m<=1000000)(hp:p.length<=1000000)
  (hK:∀ a' w' nv',Ag [0,22] a a'->CSt g p pv (m+1) nv' w'->Fr (CM g pv nv) w w'->fQ w nv nv'->Q .normal a' w'):qw (R66 6) Q a w:=by
 have hx0:Ext w w.drew:=(aq w).drew';have h0:=h.ext hx0;have hcall:=CC (k1:=k1) (k2:=z) h0 hm hp;have c3':=h.box.cell' (u:=kw g) 3 rfl;have hkf:kw g=.func (.func 65) #[] #[qp g.n,qp g.e]:=rfl;have hs0:=hx0.size;refine rD (fun V=>qc V g.c 3 (kw g)∧qc V b3 o3 z) (fun _=>true) 9 ?_;generalize w.drew=V0 at *;have hS0:qc V0 g.c 3 (kw g)∧qc V0 b3 o3 z:=⟨aA hx0 c3',aA hx0 cz⟩;clear h h0 cz c3';refine dt 1 [0,1,2,3,4,5,6,7] (hS:=hS0) ?_;iterate 8 refine tv ?_
 refine t_e ?_;refine dcp (y:=.tmp 59) (pre:=#[]) (post:=#[qp g.n,qp g.e]) 8 Tryz.func65 ba hcall ?_;rintro e w3 ⟨v,nv',rfl,hS3,hF3,hb4⟩;refine ⟨_,rfl,fun _=>⟨hS3.box.cell' 3 rfl,aH hF3 hb3 hS0.2⟩,?_⟩;refine d_E a [0,22] ?_;intro a' u;refine hK a' w3 nv' u hS3 ((ar hx0).trans hF3) ?_;rcases hb4 with h | ⟨q,h,h1⟩
 ·exact .inl h
 ·exact .inr ⟨q,h,I⟩
theorem F5 {l:List Int}{B c3:Nat}{A3:Option Addr}(sz:a.tmps.size=248)(e0:qq a 0 (qp g.c))(e22:qq a 22 (.slice A3 l c3))(h:CSt g p pv m nv w)(hro:w.ownsRow B 3 1 (.slice A3 l c3) l (l.map (Value.int .i64)))(hp:p.length<=1000000)(hl:l.length<=1000000)
  (hK:∀ a' w' pv',a'.defers=a.defers->CSt g (p ++ l) pv' m nv w'->Fr (CM g pv nv) w w'->fQ w pv pv'->Q .normal a' w'):qw (R66 7) Q a w:=by
 obtain ⟨xs,hnr⟩:=h.nrow;obtain ⟨Ap,cp,rfl,-,-,-⟩:=Sl.of_own h.row;have c2:=h.box.cell' (u:=.slice Ap p cp) 2 rfl;have hsz:=h.sz;refine rW ?_;iterate 6 refine lv ?_
 refine la (v:=.slice Ap p cp) (m:=l.length) (c:=c3) Tryz.underlying22 Tryz.info3 h.row (T:=fun _=>True) (m9 hro) I I I im ?_;intro v5 w5 ho5 hf5 hb5;have hge:∀ q,some q=(Value.slice Ap p cp).ownBlock->g.hi<=q:=fun q hq=>h.row.block_ge hq.symm
 have hhc:=h.hc;have hhn:=h.hn;have hhe:=h.he;have hS5:qc w5 g.c 2 (.slice Ap p cp):=aH hf5 (fun hq=>by have:=hge _ hq;omega) c2;have B5:=h.box.fr hf5 (fun hq=>by have:=hge _ hq;omega);have bf:=B5.frozen 2;obtain ⟨A5,c5,rfl,-,-,-⟩:=Sl.of_own ho5;have HH:=aYf h;clear h c2;iterate 2 refine lv ?_
 refine ls (w1:=w5.setCell (qt g.c 2) (.slice A5 (p.length+l) c5)) ?_ (hrun:=by simp [execOp,go_sem, *];try rfl);refine lN a [] ?_;intro a6 u6;have h:=HH.out;have hs5:=hf5.size;have hf6:Fr (fun q=>q=g.c) w5 (w5.setCell (qt g.c 2) (.slice A5 (p.length+l) c5)):=(au (fun q=>q=g.c) w5).setCell (p:=qt g.c 2) (.inl rfl) _;have hs6:=hf6.size;refine hK a6 _ (.slice A5 (p.length+l) c5) u6.df ⟨by simpa using B5.set_ 2 (.slice A5 (p.length+l) c5),(h.nbox.fr hf5 (fun hq=>by have:=hge _ hq;omega)).fr hf6 (fun e=>h.cn e.symm),aH hf6 (fun e=>h.ce e.symm) (aH hf5 (fun hq=>by have:=hge _ hq;omega) h.ebox),(cP ho5 hf6 (fun q hq e=>by have:=ho5.block_ge hq;omega)).len_cast U U,⟨xs,cP (cP hnr hf5 (fun q hq e=>h.two q e.symm hq)) hf6 (fun q hq e=>by have:=hnr.block_ge hq;omega)⟩,fun q hq e=>?_,h.cn,h.ce,h.ne,h.bc,h.bn,h.hc,h.hn,h.he,h.hh,I⟩ ?_ ?_
 ·have hlt:=hnr.block_lt e
  rcases hb5 with e5 | e5
  ·exact h.two q (e5.symm.trans hq) e
  ·rw [e5] at hq;cases hq;omega
 ·exact (hf5.mono fun q hq=>.inr (.inr (.inl hq))).trans (hf6.mono fun q hq=>.inl hq)
 ·rcases hb5 with e5 | e5
  ·exact .inl e5
  ·exact .inr ⟨_,e5,ab _⟩
noncomputable abbrev ta:Code:=.seq (R66 2) (.seq (R66 3) (.seq (.seq (R66 4) (.cond (.tmp 52) (R66 5) .skip)) (.seq (R66 6) (R66 7))))
theorem JK {a' b:List GN}{va vb:Value}{sa la fa sb lb fb y:Nat}{ch:List Int}(hgb:aO b b)(hy:y<b)(hE:zV a' b va vb sa la fa sb lb fb g w)(hS:CSt g p pv m nv w)(hr:bL w (fun q=>q<g.base) vr ch)(hp:(p:Int)+(aI b).getD y 0<=1000000)(hm:m<=1000000)(hl:(aI b).getD y 0 ≠ 0)
  (sz:a.tmps.size=248)(e0:qq a 0 (qp g.c))(e2:qq a 2 y)(e3:qq a 3 vr)(h:∀ a2 w',a2.defers=a.defers->nC g (oB b y ch,1) p pv m nv w (.returned (.tuple #[])) w'->Q .normal a2 w'):qw ta Q a w:=by
 have hbs:∀ q,q<g.base->q<w.heap.size:=fun q hq=>by have:=hS.sz;have:=hS.hh;omega
 have hfl:=kO hgb (y:=y) I I ch;rw [Int.toNat_natCast] at hfl;have hlb:=(bJ hgb y hy).bd;have hne:=hfl.2 hl;refine wp_seq (In sz e0 e2 e3 (hS.box.cell' 1 rfl) (ww hgb hy hbs hbs hE.wb hr) ?_);intro a1 w1 v u1 e22 hi ho hx;obtain ⟨Ar,cr,rfl,-,-⟩:=hr.form;refine FH (u1.sz.trans sz) (u1.get 3 e3) (hr.ext hx) ?_;intro a2 k1 u2 e23;have uu:=(u1.mono (l':=[0]) rfl).trans (u2.mono rfl);obtain ⟨A3,c3,rfl,-,-⟩:=hi.form
 have hl0:0<(oB b y ch).length:=by
  cases hf:oB b y ch with
  | nil=>exact absurd hf hne
  | cons=>simp
 obtain ⟨b3,o3,rfl,hb3,-,gz⟩:=hi.get hl0;rw [Nat.add_zero] at gz;have h1:=hS.ext hx;refine wp_seq (FK (u2.sz.trans (u1.sz.trans sz)) (uu.get 0 e0) (u2.get 22 e22) e23 hl0 gz (fun hq=>by have:=CM.lt hS hq;omega) h1 hm I ?_);intro a3 w3 nv3 u3 h3 hF3 hn3
 have hnb:∀ q,(Value.slice (qt b3 o3) (oB b y ch) c3).ownBlock=some q->¬ CM g pv nv q:=fun q hq hm'=>by
  have:=CM.lt hS hm';have:=ho.block_ge hq;omega
 refine F5 (u3.sz.trans (u2.sz.trans (u1.sz.trans sz))) (u3.get 0 (uu.get 0 e0)) (u3.get 22 (u2.get 22 e22)) h3 (cP ho hF3 hnb) I I ?_;intro a4 w4 pv4 d4 h4 hF4 hp4;have hs1:=hx.size;have hs3:=hF3.size;have hFw:=(ar (M:=CM g pv nv) hx).trans hF3
 have hn3':fQ w nv nv3:=by
  rcases hn3 with h | ⟨q,h,h1⟩
  ·exact .inl h
  ·exact .inr ⟨q,h,I⟩
 refine h a4 w4 (d4.trans (u3.df.trans uu.df)) ⟨_,pv4,nv3,rfl,h4,rI hFw (.inl rfl) hn3' hF4,?_,hn3'⟩;rcases hp4 with h | ⟨q,h,h1⟩
 ·exact .inl h
 ·exact .inr ⟨q,h,I⟩
end
