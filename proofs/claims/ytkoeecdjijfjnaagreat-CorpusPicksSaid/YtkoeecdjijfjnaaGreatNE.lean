/- Contracts of functions. Conditions: none. -/
import Derived.Test.YtkoeecdjijfjnaaGreatNB
import Derived.Test.YtkoeecdjijfjnaaGreatF5
set_option maxRecDepth 100000
set_option maxHeartbeats 8000000
namespace Go.Proofs.YtkoeecdjijfjnaaGreat
open Go.RowKit
section
variable {w:World}{P P':Nat->Prop}{u u':Value}{m n:Int}
noncomputable def aVf:=RG Tryz.f192
noncomputable abbrev aWy:Code:=.seq (aVf 0) (.seq (aVf 1) .ret)
theorem aXt:Tryz.f192.body=some aWy:=aa
theorem aGf (h1:NI w P u m)(h2:NI w P' u' n)(hn:0<=n)(hle:n<=m)(hm:m<10000 ^ 100):Calls Tryz.prog 192 #[u,u'] w (aL6 w (fun _=>False) (m - n)):=by
 refine cI Tryz.func192 aXt rfl Y (fun a Q sz df ea hQ=>?_);obtain ⟨l,A,c,rfl,hl,hd⟩:=h1.pos U;obtain ⟨l',A',c',rfl,hl',hd'⟩:=h2.pos hn;obtain ⟨b1,b2,b3,x0,s0⟩:=aFh w 223 223 223 #[.bool false,.slice A l.length c] #[.bool false,.slice A' l'.length c'] #[.bool false,.slice none 0 0];refine wp_seq (rW ?_)
 iterate 3 refine lv ?_
 generalize ((w.alloc (.cells #[.bool false,.slice A l.length c] 223)).alloc (.cells #[.bool false,.slice A' l'.length c'] 223)).alloc (.cells #[.bool false,.slice none 0 0] 223)=W at *;refine lE3 a [] 2 3 4 ?_;intro a1 u1 e2 e3 e4
 replace sz:=u1.sz.trans sz
 replace df:=u1.df.trans df
 refine wp_seq ?_;have hx0:Ext W W.drew:=(Ext.refl W).drew';have hS:W.drew.cell? ⟨w.heap.size,0,none⟩=some (.bool false)∧W.drew.cell? ⟨w.heap.size,1,none⟩=some (.slice A l.length c)∧W.drew.cell? ⟨w.heap.size+1,0,none⟩=some (.bool false)∧W.drew.cell? ⟨w.heap.size+1,1,none⟩=some (.slice A' l'.length c'):=⟨b1.cell' 0 rfl,b1.cell' 1 rfl,b2.cell' 0 rfl,b2.cell' 1 rfl⟩;refine rD (fun w'=>w'.cell? ⟨w.heap.size,0,none⟩=some (.bool false)∧w'.cell? ⟨w.heap.size,1,none⟩=some (.slice A l.length c)∧w'.cell? ⟨w.heap.size+1,0,none⟩=some (.bool false)∧w'.cell? ⟨w.heap.size+1,1,none⟩=some (.slice A' l'.length c')) (fun q=>q != 4) 5 ?_;refine dt 3 [0,1] ?_
 iterate 2 refine tv ?_
 refine t_e ?_;have hb:aU W.drew (fun b=>W.heap.size ≠ 0->b<W.heap.size) (.slice A' l'.length c') l':=(hl'.ext (x0.trans' hx0)).carry (fun _ _ _=>rfl) (fun b hb _ _=>hb);refine dc 2 Tryz.func212 (aK8 (NI.of_pos hb hd') hn) ?_;rintro e w5 ⟨u5,rfl,hN5,hx5⟩;refine ⟨_,rfl,fun _=>⟨(b1.ext (hx0.trans' hx5)).cell' 0 rfl,(b1.ext (hx0.trans' hx5)).cell' 1 rfl,(b2.ext (hx0.trans' hx5)).cell' 0 rfl,(b2.ext (hx0.trans' hx5)).cell' 1 rfl⟩,?_⟩;refine dc 3 Tryz.func210 (uM (NI.of_pos (hl.ext ((x0.trans' hx0).trans' hx5)) hd) hN5 U U hm U) ?_;rintro e w6 ⟨u6,rfl,hN6,hx6⟩;have hE6:=(hx0.trans' hx5).trans' hx6;have hs5:=(hx0.trans' hx5).size;refine ⟨_,rfl,fun _=>⟨(b1.ext hE6).cell' 0 rfl,(b1.ext hE6).cell' 1 rfl,(b2.ext hE6).cell' 0 rfl,(b2.ext hE6).cell' 1 rfl⟩,?_⟩;have B6:=b3.ext hE6;obtain ⟨z',A7,k7,c7,rfl,hN',hb',hE⟩:=hN6.box (g:=w.heap.size+1+1) (Q:=New (fun _=>False) w.heap.size) (fun b hb=>hb.elim False.elim (fun h=>by omega)) (fun b hb=>hb.elim False.elim (fun h=>.inr U)) B6 (x0.trans' hE6) U;refine dq 4 (w1:=w6.setCells (w.heap.size+1+1) 0 [.bool z',.slice A7 k7 c7]) ?_ (hrun:=by simp [execOp,go_sem,B6.cell,B6.frozen,sz,e4,World.setCells]);refine d_E a1 [4] ?_
 intro a6 u6;have f4:=u6.get 4 e4;have hb:=hb'.cell;exact wp_ret (hQ _ _ _ (u6.df.trans df) (by simp [results,Tryz.results192,go_sem,evT f4,hb];try rfl) ⟨_,rfl,by rwa [show m - n=m+-n by omega],hE⟩)
end
theorem aD1 (n:Nat):madeCells #[.int .i64 0] n=iH (List.replicate n 0):=by rw [eV];simp [iH]
theorem wI (n:Nat)(hn:n<=1000000)(W:World):(Instr.makeSlice 22 (↑(n:Int)) (↑(n:Int))).run Tryz.prog W=.ok (.slice (some ⟨W.heap.size,0,none⟩) n n) (W.alloc (.cells (iH (List.replicate n 0)) 3)):=by
 obtain ⟨i3,hi3,hz0,hz1,hz2⟩:=info_parts Tryz.info3;have h:=run_make (P:=Tryz.prog) W 22 3 i3 _ Tryz.underlying22 hi3 hz0 .i64 .i64 (n:Int) (n:Int) U (Int.le_refl _) cu U;rw [hz1,Nat.mul_one] at h;rw [h,<- aD1]
 rfl
section
variable {w:World}{P P':Nat->Prop}{u u':Value}{m n:Int}
noncomputable abbrev aPw:Code:=.seq (.seq (RG Tryz.f208 7) (.cond (.tmp 29) .skip (.exit 2))) (.seq (.block 3 (.seq (RG Tryz.f208 9) (.seq (RG Tryz.f208 10) (RG Tryz.f208 11)))) (RG Tryz.f208 8))
noncomputable def uS:=RG Tryz.f208
noncomputable abbrev aWu:Code:=.seq (uS 0) (.seq (uS 1) (.seq (.seq (uS 2) (.block 0 (.loop (.seq (.seq (uS 3) (.cond (.tmp 22) .skip (.exit 0))) (.seq (.block 1 (.seq (uS 5) (.seq (.seq (uS 6) (.block 2 (.loop (.seq (.seq (uS 7) (.cond (.tmp 29) .skip (.exit 2))) (.seq (.block 3 (.seq (uS 9) (.seq (uS 10) (uS 11)))) (uS 8)))))) (uS 12)))) (uS 4)))))) (.seq (uS 13) .ret)))
theorem aXp:Tryz.f208.body=some aWu:=aa
structure M8 (a:Act)(g go N:Nat):Prop where
 sz:a.tmps.size=Tryz.f208.ntmps
 df:a.defers=[]
 e2:Ev a (.tmp 2)=.pointer (some ⟨g,0,none⟩)
 e3:Ev a (.tmp 3)=.pointer (some ⟨g+1,0,none⟩)
 e4:Ev a (.tmp 4)=.pointer (some ⟨g+1+1,0,none⟩)
 e5:Ev a (.tmp 5)=.slice (some ⟨go,0,none⟩) N N
theorem M8.ag {a a':Act}{g go N:Nat}{L:List Nat}(h:M8 a g go N)(u:Ag L a a')(hL:[2,3,4,5].all L.contains=true:=by rfl):M8 a' g go N :=
 have u:=u.mono hL
 ⟨u.sz.trans h.sz,u.df.trans h.df,u.get 2 h.e2,u.get 3 h.e3,u.get 4 h.e4,u.get 5 h.e5⟩
structure MW (w:World)(g go:Nat)(x y L:List Int)(A B:Option Addr)(cx cy:Nat)(W:World):Prop where
 b2:Blk W g 223 #[.bool false,.slice A x.length cx]
 b3:Blk W (g+1) 223 #[.bool false,.slice B y.length cy]
 b4:Blk W (g+1+1) 223 #[.bool false,.slice none 0 0]
 bo:Blk W go 3 (iH L)
 hx:aU W (fun b=>b<g) (.slice A x.length cx) x
 hy:aU W (fun b=>b<g) (.slice B y.length cy) y
 hE:Ext w W
 go3:go=g+3
 g0:w.heap.size=g
theorem MW.set {g go:Nat}{x y L:List Int}{A B:Option Addr}{cx cy:Nat}{W:World}(h:MW w g go x y L A B cx cy W)(i:Nat)(z:Int):MW w g go x y (L.set i z) A B cx cy (W.setCell ⟨go,i,none⟩ (↑z)):=by
 have h3:=h.go3;have h0:=h.g0;have hk:∀ {Q:Nat->Prop},¬ Q go->aB Q W (W.setCell ⟨go,i,none⟩ (↑z)):=fun hq=>aB.set (p:=⟨go,i,none⟩) (fun _ _ _=>rfl) _ hq
 have hb:=h.bo.set_ i (↑z);rw [lY] at hb;exact ⟨h.b2.far (p:=⟨go,i,none⟩) (by show g ≠ go;omega) _,h.b3.far (p:=⟨go,i,none⟩) (by show g+1 ≠ go;omega) _,h.b4.far (p:=⟨go,i,none⟩) (by show g+1+1 ≠ go;omega) _,hb,h.hx.carry (hk U) (fun _ _ h=>h),h.hy.carry (hk U) (fun _ _ h=>h),h.hE.setCell' (p:=⟨go,i,none⟩) (by show w.heap.size<=go;omega) _,h3,h0⟩
theorem MW.drew {g go:Nat}{x y L:List Int}{A B:Option Addr}{cx cy:Nat}{W:World}(h:MW w g go x y L A B cx cy W):MW w g go x y L A B cx cy W.drew :=
 ⟨h.b2,h.b3,h.b4,h.bo,h.hx.ext (Ext.refl W).drew',h.hy.ext (Ext.refl W).drew',h.hE.drew',h.go3,h.g0⟩
section
variable {a:Act}{g go N i cx cy:Nat}{x y L:List Int}{A B:Option Addr}{W:World}{Q:Exit->Act->World->Prop}
theorem aPj (hM:M8 a g go N)(hW:MW w g go x y L A B cx cy W)(e6:Ev a (.tmp 6)=↑(i:Int))(e7:Ev a (.tmp 7)=.int .i64 0)(e8:Ev a (.tmp 8)=.int .i64 ((0:Nat):Int))(hi:i<x.length)(hN:x.length+y.length=N)(hbig:N<=1000)(hL:L.length=N)(hD:DgD L)(hDx:DgD x)(hDy:DgD y)
  (hz:∀ j,i+y.length<=j->L.getD j 0=0)
  (hQ:∀ (a':Act)(L':List Int)(c:Int)(W':World),M8 a' g go N->MW w g go x y L' A B cx cy W'->Ev a' (.tmp 6)=↑(i:Int)->Ev a' (.tmp 7)=↑c->0<=c->c<10000->L'.length=N->DgD L'->(∀ j,i+y.length<=j->L'.getD j 0=0)->vlD L'+10000 ^ (i+y.length)*c=vlD L+10000 ^ i*x.getD i 0*vlD y->Q .normal a' W') :
  Code.wp Tryz.prog (.block 2 (.loop aPw)) Q a W:=by
 refine wp_block (wp_loop (fun a' W'=>∃ (k:Nat) (L':List Int) (c:Int),M8 a' g go N∧MW w g go x y L' A B cx cy W'∧k<=y.length∧Ev a' (.tmp 6)=↑(i:Int)∧Ev a' (.tmp 7)=↑c∧Ev a' (.tmp 8)=↑(k:Int)∧(0<=c∧c<10000)∧L'.length=N∧DgD L'∧(∀ j,i+y.length<=j->L'.getD j 0=0)∧vlD L'+10000 ^ (i+k)*c=vlD L+10000 ^ i*x.getD i 0*vlD (y.take k)) (fun a' _=>y.length - (intOf (Ev a' (.tmp 8))).toNat) ⟨0,L,0,hM,hW,U,e6,e7,e8,U,hL,hD,hz,fv⟩ ?_);clear hM hW e6 e7 e8 hL hD hz;rintro a1 W1 ⟨k,L',c,hM,hW,hk,e6,e7,e8,hc,hL,hD,hz,hv⟩;have sz:=hM.sz;have e3:=hM.e3;have c3:=hW.b3.cell;refine wp_seq (wp_seq (rW ?_))
 iterate 5 refine lv ?_
 refine lE a1 [2,3,4,5,6,7,8] 29 ?_;intro a2 u2 e29
 replace hM:=hM.ag u2
 replace e6:=u2.get 6 e6
 replace e7:=u2.get 7 e7
 have f8:=u2.get 8 e8
 by_cases hlt:k<y.length
 ·refine wp_cond_true (e29.trans ar) (wp_skip (wp_seq (wp_block (wp_seq ?_))))
  clear sz e3 c3;have hM':=hM;obtain ⟨sz,-,e2,e3,-,e5⟩:=hM';obtain ⟨bx,ox,hAx,-,-,hcx⟩:=hW.hx.get hi;obtain ⟨b_,oy,hBy,-,-,hcy⟩:=hW.hy.get hlt
  have hoc:W1.cell? ⟨go,((i:Int)+(k:Int)).toNat,none⟩=some (.int .i64 (L'.getD (i+k) 0)):=by
   rw [show ((i:Int)+(k:Int)).toNat=i+k by omega];exact hW.bo.cell' _ (fS U)
  have dx:=hDx.at_ i;have dy:=hDy.at_ k;have do':=hD.at_ (i+k);have hstep:=aDy (L:=L') (i:=i) (k:=k) (ai:=x.getD i 0) (bk:=y.getD k 0) (cy:=c) (base:=vlD L) (T:=vlD (y.take k)) U rfl hv;rw [<- mQ hlt] at hstep;have hbd:=aPk do' dx dy hc rfl;generalize x.getD i 0=xi at *;generalize y.getD k 0=yk at *;generalize hzz:L'.getD (i+k) 0=z at *;have q0:(0:Int)<=(i:Int)+(k:Int):=by omega
  have q1:(i:Int)+(k:Int)<(N:Int):=U
  have q2:(i:Int)<(x.length:Int):=U
  have q3:(k:Int)<(y.length:Int):=U
  have hS0:∀ W',MW w g go x y L' A B cx cy W'->W'.cell? ⟨go,((i:Int)+(k:Int)).toNat,none⟩=some (↑z)->W'.cell? ⟨g,1,none⟩=some (.slice A x.length cx)∧W'.cell? ⟨g+1,1,none⟩=some (.slice B y.length cy)∧W'.cell? ⟨go,((i:Int)+(k:Int)).toNat,none⟩=some (↑z):=fun W' h h'=>⟨h.b2.cell' 1 rfl,h.b3.cell' 1 rfl,h'⟩
  subst hAx hBy;have hS:(W1.drew.cell? ⟨g,1,none⟩=some (.slice (some ⟨bx,ox,none⟩) x.length cx)∧W1.drew.cell? ⟨g+1,1,none⟩=some (.slice (some ⟨b_,oy,none⟩) y.length cy)∧W1.drew.cell? ⟨go,((i:Int)+(k:Int)).toNat,none⟩=some (↑z))∧W1.drew.cell? ⟨bx,ox+i,none⟩=some (↑xi)∧W1.drew.cell? ⟨b_,oy+k,none⟩=some (↑yk):=⟨hS0 _ hW.drew hoc,hcx,hcy⟩;refine rD (fun W'=>(W'.cell? ⟨g,1,none⟩=some (.slice (some ⟨bx,ox,none⟩) x.length cx)∧W'.cell? ⟨g+1,1,none⟩=some (.slice (some ⟨b_,oy,none⟩) y.length cy)∧W'.cell? ⟨go,((i:Int)+(k:Int)).toNat,none⟩=some (↑z))∧W'.cell? ⟨bx,ox+i,none⟩=some (↑xi)∧W'.cell? ⟨b_,oy+k,none⟩=some (↑yk)) (fun _=>true) 21 ?_;refine dt 0 [0,1,2,3,4,5,6,7,8,9,10,11,12,13,14,15,16,17,18,19,20] ?_
  iterate 21 refine tv ?_
  refine t_e ?_;refine aRb a2 [2,3,4,5,6,7,8] 9 ?_;intro a3 u3 e9;clear sz e2 e3 e5 hS hS0 hcx hcy
  replace hM:=hM.ag u3
  have hM':=hM;obtain ⟨sz,-,-,-,-,e5⟩:=hM'
  replace e6:=u3.get 6 e6
  replace f8:=u3.get 8 f8
  have hfz:=hW.drew.bo.frozen;have hoc':W1.drew.cell? ⟨go,((i:Int)+(k:Int)).toNat,none⟩=some (↑z):=hoc;refine wp_seq (rW ?_)
  iterate 7 refine lv ?_
  refine ls ?_ rfl rfl (by simp [execOp,go_sem, *];rfl);refine lN a3 [2,3,4,5,6,8,9] ?_;intro a4 u4;have hW4:=hW.drew.set (i+k) ((z+xi*yk+c) % 10000);rw [show ((i:Int)+(k:Int)).toNat=i+k by omega]
  replace hM:=hM.ag u4
  clear sz e5;have sz:=hM.sz
  replace e6:=u4.get 6 e6
  replace f8:=u4.get 8 f8
  replace e9:=u4.get 9 e9
  have h9:0<=z+xi*yk+c:=U
  refine rW ?_
  iterate 3 refine lv ?_
  refine lE a4 [2,3,4,5,6,8] 7 ?_;intro a5 u5 e7
  replace hM:=hM.ag u5
  replace e6:=u5.get 6 e6
  replace f8:=u5.get 8 f8
  clear sz;have sz:=hM.sz;refine rW ?_
  iterate 3 refine lv ?_
  refine lE a5 [2,3,4,5,6,7] 8 ?_;intro a6 u6 g8;refine ⟨⟨k+1,L'.set (i+k) ((z+xi*yk+c) % 10000),(z+xi*yk+c) / 10000,hM.ag u6,hW4,hlt,u6.get 6 e6,u6.get 7 e7,by simpa using g8,⟨U,U⟩,by simpa using hL,hD.set _ U U,fun j hj=>by rw [wR _ _ _ _ U];exact hz j hj,hstep⟩,?_⟩;rw [g8,e8];simp [intOf];omega
 ·obtain rfl:k=y.length:=by omega
  refine wp_cond_false (e29.trans Y) (wp_exit ?_);rw [List.take_length] at hv;exact hQ a2 L' c W1 hM hW e6 e7 hc.1 hc.2 hL hD hz hv
theorem aK9 (hM:M8 a g go N)(hW:MW w g go x y (List.replicate N 0) A B cx cy W)(e6:Ev a (.tmp 6)=.int .i64 ((0:Nat):Int))(hN:x.length+y.length=N)(hbig:N<=1000)(hDx:DgD x)(hDy:DgD y)
  (hQ:∀ (a':Act)(L':List Int)(W':World),M8 a' g go N->MW w g go x y L' A B cx cy W'->L'.length=N->DgD L'->vlD L'=vlD x*vlD y->Q .normal a' W') :
  Code.wp Tryz.prog (.block 0 (.loop (.seq (.seq (uS 3) (.cond (.tmp 22) .skip (.exit 0))) (.seq (.block 1 (.seq (uS 5) (.seq (.seq (uS 6) (.block 2 (.loop aPw))) (uS 12)))) (uS 4))))) Q a W:=by
 have hv0:∀ n:Nat,vlD (List.replicate n 0)=0:=fun n=>by
  induction n with
  | zero=>rfl
  | succ n ih=>rw [List.replicate_succ,vlD,ih];rfl
 refine wp_block (wp_loop (fun a' W'=>∃ (i:Nat) (L':List Int),M8 a' g go N∧MW w g go x y L' A B cx cy W'∧i<=x.length∧Ev a' (.tmp 6)=↑(i:Int)∧L'.length=N∧DgD L'∧(∀ j,i+y.length<=j->L'.getD j 0=0)∧vlD L'=vlD (x.take i)*vlD y) (fun a' _=>x.length - (intOf (Ev a' (.tmp 6))).toNat) ⟨0,_,hM,hW,U,e6,Y,fun z hz=>by simp [List.eq_of_mem_replicate hz],fun j _=>by simp [List.getD,List.getElem?_replicate];split <;> rfl,by rw [hv0];simp [vlD]⟩ ?_);clear hM hW e6 hv0;rintro a1 W1 ⟨i,L',hM,hW,hi,e6,hL,hD,hz,hv⟩;have sz:=hM.sz;have e2:=hM.e2;have c2:=hW.b2.cell;refine wp_seq (wp_seq (rW ?_))
 iterate 5 refine lv ?_
 refine lE a1 [2,3,4,5,6] 22 ?_;intro a2 u2 e22
 replace hM:=hM.ag u2
 have f6:=u2.get 6 e6;clear sz e2 c2;have sz:=hM.sz
 by_cases hlt:i<x.length
 ·refine wp_cond_true (e22.trans ar) (wp_skip (wp_seq (wp_block (wp_seq (rW ?_)))))
  refine lv ?_;refine lE a2 [2,3,4,5,6] 7 ?_;intro a3 u3 e7
  replace hM:=hM.ag u3
  replace f6:=u3.get 6 f6
  clear sz;have sz:=hM.sz;refine wp_seq (wp_seq (rW ?_));refine lv ?_;refine lE a3 [2,3,4,5,6,7] 8 ?_;intro a4 u4 e8;refine aPj (hM.ag u4) hW (u4.get 6 f6) (u4.get 7 e7) e8 hlt hN hbig hL hD hDx hDy hz ?_;intro a5 L5 c W5 hM5 hW5 g6 g7 hc0 hc1 hL5 hD5 hz5 hv5;rw [hv] at hv5;have hlast:=aDz (L:=L5) (a:=x) (b:=y) (i:=i) (cy:=c) hlt U (hz5 _ (Nat.le_refl _)) hv5;have q0:(0:Int)<=(i:Int)+(y.length:Int):=by omega
  have q1:(i:Int)+(y.length:Int)<(N:Int):=U
  have hoc:W5.cell? ⟨go,((i:Int)+(y.length:Int)).toNat,none⟩=some (.int .i64 0):=by
   rw [show ((i:Int)+(y.length:Int)).toNat=i+y.length by omega];exact (hW5.bo.cell' _ (fS U)).trans (by rw [hz5 _ (Nat.le_refl _)])
  have hfz:=hW5.bo.frozen;have c3:=hW5.b3.cell;have hM6:=hM5;obtain ⟨sz5,-,-,e3,-,e5⟩:=hM6;refine rW ?_
  iterate 8 refine lv ?_
  refine ls ?_ rfl rfl (by simp [execOp,go_sem, *];rfl);refine lN a5 [2,3,4,5,6] ?_;intro a6 u6;have hW6:=hW5.set (i+y.length) c;rw [show ((i:Int)+(y.length:Int)).toNat=i+y.length by omega]
  replace hM5:=hM5.ag u6
  have g6':=u6.get 6 g6;clear sz5 e3 e5 hfz hoc c3 sz;have sz:=hM5.sz;refine rW ?_
  iterate 3 refine lv ?_
  refine lE a6 [2,3,4,5] 6 ?_;intro a7 u7 h6;refine ⟨⟨i+1,L5.set (i+y.length) c,hM5.ag u7,hW6,hlt,gh,by simpa using hL5,hD5.set _ hc0 hc1,fun j hj=>by rw [wR _ _ _ _ U];exact hz5 j U,hlast⟩,?_⟩;rw [h6,e6];simp [intOf];omega
 ·obtain rfl:i=x.length:=by omega
  refine wp_cond_false (e22.trans Y) (wp_exit ?_);rw [List.take_length] at hv;exact hQ a2 L' W1 hM hW hL hD hv
end
theorem lU (h1:NI w P u m)(h2:NI w P' u' n)(h0:0<=m)(hn:0<=n)(hm:m<10000 ^ 100)(hn2:n<10000 ^ 100):Calls Tryz.prog 208 #[u,u'] w (aL6 w (fun _=>False) (m*n)):=by
 refine cI Tryz.func208 aXp rfl Y (fun a Q sz df ea hQ=>?_);obtain ⟨l,A,c,rfl,hl,hd⟩:=h1.pos h0;obtain ⟨l',A',c',rfl,hl',hd'⟩:=h2.pos hn;have hfew:=hd.few hm;have hfew':=hd'.few hn2;obtain ⟨b1,b2,b3,x0,s0⟩:=aFh w 223 223 223 #[.bool false,.slice A l.length c] #[.bool false,.slice A' l'.length c'] #[.bool false,.slice none 0 0];refine wp_seq (rW ?_)
 iterate 3 refine lv ?_
 generalize ((w.alloc (.cells #[.bool false,.slice A l.length c] 223)).alloc (.cells #[.bool false,.slice A' l'.length c'] 223)).alloc (.cells #[.bool false,.slice none 0 0] 223)=W at *;refine lE3 a [] 2 3 4 ?_;intro a1 u1 e2 e3 e4
 replace sz:=u1.sz.trans sz
 replace df:=u1.df.trans df
 have c1:=b1.cell;have c2:=b2.cell;have hmk:=wI (l.length+l'.length) U W;rw [show ((l.length+l'.length:Nat):Int)=(l.length:Int)+(l'.length:Int) by omega] at hmk;refine wp_seq (rW ?_)
 iterate 7 refine lv ?_
 refine lv (w1:=W.alloc (.cells (iH (List.replicate (l.length+l'.length) 0)) 3)) (v:=.slice (some ⟨w.heap.size+3,0,none⟩) (l.length+l'.length) (l.length+l'.length)) ?_ rfl rfl (by simp [execOp,go_sem, *]);refine lv ?_;refine lE a1 [2,3,4] 5 ?_;intro a2 u2 e5
 have hMW:MW w w.heap.size (w.heap.size+3) l l' (List.replicate (l.length+l'.length) 0) A A' c c' (W.alloc (.cells (iH (List.replicate (l.length+l'.length) 0)) 3)) :=
  ⟨b1.alloc _,b2.alloc _,b3.alloc _,Blk.new' _ _ _ U,(hl.carry (aB.of_ext (x0.alloc' _)) (fun b hb _=>hb)),(hl'.carry (aB.of_ext (x0.alloc' _)) (fun b hb _=>hb)),x0.alloc' _,rfl,rfl⟩
 have sz2:=u2.sz.trans sz;generalize W.alloc (.cells (iH (List.replicate (l.length+l'.length) 0)) 3)=W2 at *;refine wp_seq (wp_seq (rW ?_));refine lv ?_;refine lE a2 [2,3,4,5] 6 ?_;intro a3 u3 e6;refine aK9 (N:=l.length+l'.length) ⟨u3.sz.trans sz2,u3.df.trans (u2.df.trans df),u3.get 2 (u2.get 2 e2),u3.get 3 (u2.get 3 e3),u3.get 4 (u2.get 4 e4),u3.get 5 e5⟩ hMW e6 rfl U hd.1 hd'.1 ?_;intro a4 L W4 hM hW hL hD hv;rw [hd.2.1,hd'.2.1] at hv;obtain ⟨sz4,df4,f2,f3,f4,f5⟩:=hM;have c1:=hW.b2.cell;have c2:=hW.b3.cell;have hI:=(aU.of_blk hW.bo (fun z hz=>by have:=hD z hz;unfold I64;omega) U).carry (Q:=fun b=>b=w.heap.size+3) (fun _ _ _=>rfl) (fun _ _ h=>h);rw [hL] at hI;refine wp_seq (rW ?_)
 iterate 6 refine lv ?_
 have hpos:0<=m*n:=Int.mul_nonneg h0 hn;refine lc Tryz.func195 (dM false hI) ?_;intro e w5 hR;obtain ⟨u,rfl,hN,hx5⟩:=jZ.ni (n:=m*n) (by rwa [show decide (m*n<0)=false by simp;omega]) hD U;refine ⟨_,rfl,?_⟩;have hE5:=hW.hE.trans' hx5;have B5:=hW.b4.ext hx5;obtain ⟨z',A7,k7,c7,rfl,hN',hb',hE⟩:=hN.box (g:=w.heap.size+1+1) (Q:=New (fun _=>False) w.heap.size) (fun b hb=>by omega) (fun b hb=>.inr U) B5 hE5 U;refine ls (w1:=w5.setCells (w.heap.size+1+1) 0 [.bool z',.slice A7 k7 c7]) ?_ rfl rfl (by simp [execOp,go_sem,B5.cell,B5.frozen,sz4,f4,World.setCells]);refine lE a4 [] 4 ?_;intro a6 u6 g4;have hb:=hb'.cell;exact wp_ret (hQ _ _ _ (u6.df.trans df4) (by simp [results,Tryz.results208,go_sem,evT g4,hb];try rfl) ⟨_,rfl,hN',hE⟩)
noncomputable def aT0:=RG Tryz.f222
noncomputable abbrev aWk:Code:=.seq (aT0 0) (.seq (aT0 1) (.seq (aT0 2) .ret))
theorem aXf:Tryz.f222.body=some aWk:=aa
theorem rI {l:List Int}{v:Value}{k:Int}(hl:aU w P v l)(hd:IsD n l)(hn:n<10000 ^ 99)(hk:0<=k∧k<10000):Calls Tryz.prog 222 #[v,↑k] w fun e w'=>∃ l' A c,e=.returned (.slice A l'.length c)∧aU w' (fun b=>w.heap.size<=b) (.slice A l'.length c) l'∧IsD (n*k) l'∧Ext w w':=by
 refine cI Tryz.func222 aXf rfl Y (fun a Q sz df ea hQ=>?_);obtain ⟨A,c,rfl,-,-⟩:=hl.form;have hn0:=hd.nonneg;have e0:=ea 0 (.slice A l.length c) rfl;have e1:=ea 1 (↑k) rfl;refine wp_seq (rW ?_);refine lv ?_;refine lN a [0,1] ?_;intro a1 u1
 replace sz:=u1.sz.trans sz
 replace df:=u1.df.trans df
 replace e0:=u1.get 0 e0
 replace e1:=u1.get 1 e1
 refine wp_seq (rW ?_)
 iterate 3 refine lv ?_
 refine lc Tryz.func163 (iS k w aj) ?_;rintro e w1 ⟨u1,rfl,hN1,hx1⟩;refine ⟨_,rfl,?_⟩;refine lc Tryz.func208 (lU (NI.of_pos (hl.ext hx1) hd) hN1 hn0 hk.1 U U) ?_;rintro e w2 ⟨u2,rfl,hN2,hx2⟩;refine ⟨_,rfl,?_⟩;have hp:0<=n*k:=Int.mul_nonneg hn0 hk.1;obtain ⟨l',A',c',rfl,hl',hd'⟩:=hN2.pos hp;have B0:=Blk.new w2 223 #[.bool false,.slice none 0 0];have x3:Ext w2 (w2.alloc (.cells #[.bool false,.slice none 0 0] 223)):=(Ext.refl w2).alloc' _;refine lv ?_;generalize w2.alloc (.cells #[.bool false,.slice none 0 0] 223)=w3 at *;refine ls (w1:=w3.setCells w2.heap.size 0 [.bool false,.slice A' l'.length c']) ?_ rfl rfl (by simp [execOp,go_sem,B0.cell,B0.frozen,sz,World.setCells]);refine lE a1 [] 5 ?_;intro a2 u2 e5;have hs1:=hx1.size;have hb:=aJ [.bool false,.slice A' l'.length c'] 0 B0 Y;have hE:Ext w2 (w3.setCells w2.heap.size 0 [.bool false,.slice A' l'.length c']):=((Fr.of_ext (M:=fun _=>False) x3).setCells _ 0 (.inr (Nat.le_refl _))).ext;have hI:=(hl'.carry (Q:=fun b=>w.heap.size<=b) (aB.of_ext hE) (fun b _ hb=>hb.elim False.elim (fun h=>by omega)));generalize w3.setCells w2.heap.size 0 [.bool false,.slice A' l'.length c']=w4 at *
 replace sz:=u2.sz.trans sz
 replace df:=u2.df.trans df
 have hc:=hb.cell;refine wp_seq (rW ?_)
 iterate 3 refine lv ?_
 refine lE a2 [] 4 ?_;intro a3 u3 e4;exact wp_ret (hQ _ _ _ (u3.df.trans df) (by simp [results,Tryz.results222,go_sem,evT e4];try rfl) ⟨l',A',c',rfl,hI,hd',(hx1.trans' hx2).trans' hE⟩)
end
def oN (W:World)(g:Nat)(P:Nat->Prop)(n:Int):Prop:=∃ A k c,Blk W g 223 #[.bool false,.slice A k c]∧NI W P (.agg #[.bool false,.slice A k c]) n
section
variable {W W' w:World}{P P':Nat->Prop}{g g':Nat}{n m:Int}{u c0 c1:Value}
theorem oN.carry {Q:Nat->Prop}(h:oN W g P n)(hx:Ext W W')(hPQ:∀ b,b<W.heap.size->P b->Q b):oN W' g Q n:=by
 obtain ⟨A,k,c,h1,h2⟩:=h;exact ⟨A,k,c,h1.ext hx,h2.carry (aB.of_ext hx) hPQ⟩
theorem oN.ext (h:oN W g P n)(hx:Ext W W'):oN W' g P n:=by
 obtain ⟨A,k,c,h1,h2⟩:=h;exact ⟨A,k,c,h1.ext hx,h2.ext hx⟩
theorem NI.put (hN:NI W P' u n)(h0:0<=n)(hP:∀ b,P' b->P b)(hg:¬ P g)(hB:Blk W g 223 #[c0,c1]) :
  ∃ A k c,u=.agg #[.bool false,.slice A k c]∧oN (W.setCells g 0 [.bool false,.slice A k c]) g P n∧(∀ g' m,g' ≠ g->oN W g' P m->oN (W.setCells g 0 [.bool false,.slice A k c]) g' P m)∧(∀ g' cs,g' ≠ g->Blk W g' 223 cs->Blk (W.setCells g 0 [.bool false,.slice A k c]) g' 223 cs)∧(∀ w0,Ext w0 W->w0.heap.size<=g->Ext w0 (W.setCells g 0 [.bool false,.slice A k c]))∧(W.setCells g 0 [.bool false,.slice A k c]).heap.size=W.heap.size∧∀ {v:Value}{l:List Int},aU W P v l->aU (W.setCells g 0 [.bool false,.slice A k c]) P v l:=by
 obtain ⟨l,A,c,rfl,hl,hd⟩:=hN.pos h0;have hk:aB P W (W.setCells g 0 [.bool false,.slice A l.length c]):=aB.setCells hg _ 0 (fun _ _ _=>rfl);have hf:∀ g' t cs,g' ≠ g->Blk W g' t cs->Blk (W.setCells g 0 [.bool false,.slice A l.length c]) g' t cs:=fun g' t cs hne hb=>(hb.far (p:=⟨g,0,none⟩) hne _).far (p:=⟨g,1,none⟩) hne _
 have hb:=aJ [.bool false,.slice A l.length c] 0 hB Y;refine ⟨A,_,c,rfl,⟨A,_,c,hb,NI.of_pos (hl.carry (Q:=P) (aB.setCells (fun hp=>hg (hP g hp)) _ 0 (fun _ _ _=>rfl)) (fun b _ hb=>hP b hb)) hd⟩,?_,fun g' cs hne hb=>hf g' _ cs hne hb,fun w0 hx hle=>((Fr.of_ext (M:=fun _=>False) hx).setCells _ 0 (.inr hle)).ext,by simp [World.setCells,World.setCell],fun hI=>hI.carry hk (fun _ _ h=>h)⟩;rintro g' m hne ⟨A',k',c',h1,h2⟩;exact ⟨A',k',c',hf g' _ _ hne h1,h2.carry hk (fun _ _ h=>h)⟩
theorem tO (t:Nat):(0:Int)<2 ^ t:=Int.pow_pos U
theorem aK0 {s t:Nat}(h:s<=t):(2:Int) ^ s<=2 ^ t:=by
 induction h with
 | refl=>omega
 | @step m _ ih=>rw [Int.pow_succ];have:=tO m;omega
theorem oD {t:Nat}(h:t<=128):(2:Int) ^ t<10000 ^ 100:=Int.lt_of_le_of_lt (aK0 h) am
noncomputable def aFu:=RG Tryz.f190
noncomputable abbrev aW0:Code:=.seq (aFu 0) (.seq (aFu 1) (.seq (aFu 2) (.seq (.block 0 (.loop (.seq (.seq (aFu 3) (.cond (.tmp 8) .skip (.exit 0))) (.block 1 (.seq (.seq (aFu 4) (.cond (.tmp 11) (aFu 5) .skip)) (.seq (aFu 6) (aFu 7))))))) (.seq (aFu 8) .ret))))
theorem aXv:Tryz.f190.body=some aW0:=aa
theorem vZ (K:Nat)(hK:K<=64)(w:World):Calls Tryz.prog 190 #[↑(K:Int)] w (aL6 w (fun _=>False) (2 ^ K)):=by
 refine cI Tryz.func190 aXv rfl Y (fun a Q sz df ea hQ=>?_);have e0:=ea 0 (↑(K:Int)) rfl;have B2:=Blk.new w 223 #[.bool false,.slice none 0 0];have x0:Ext w (w.alloc (.cells #[.bool false,.slice none 0 0] 223)):=(Ext.refl w).alloc' _;have s0:(w.alloc (.cells #[.bool false,.slice none 0 0] 223)).heap.size=w.heap.size+1:=by simp
 refine wp_seq (rW ?_);refine lv ?_;refine lE a [0] 2 ?_;intro a1 u1 e2
 replace sz:=u1.sz.trans sz
 replace df:=u1.df.trans df
 replace e0:=u1.get 0 e0
 refine wp_seq (rW ?_);generalize w.alloc (.cells #[.bool false,.slice none 0 0] 223)=w1 at *;refine lc Tryz.func163 (iS 1 w1 ak) ?_;rintro e w2 ⟨u2,rfl,hN2,hx2⟩;refine ⟨_,rfl,?_⟩;have hs2:=hx2.size;generalize hg3:w2.heap.size=g3 at *;have B3:=Blk.new' w2 223 #[.bool false,.slice none 0 0] hg3.symm;have x3:Ext w2 (w2.alloc (.cells #[.bool false,.slice none 0 0] 223)):=(Ext.refl w2).alloc' _;have s3:(w2.alloc (.cells #[.bool false,.slice none 0 0] 223)).heap.size=g3+1:=by simp [hg3]
 refine lv ?_
 replace hN2:=hN2.carry (Q:=fun b=>w1.heap.size<=b∧b ≠ g3) (aB.of_ext x3) (fun b hb h=>h.elim False.elim (fun h=>⟨h,U⟩))
 generalize w2.alloc (.cells #[.bool false,.slice none 0 0] 223)=w3 at *;obtain ⟨A3,k3,c3,rfl,hH3,-,hB3,hX3,hS3,-⟩:=hN2.put (P:=fun b=>w1.heap.size<=b∧b ≠ g3) U (fun _ h=>h) (fun h=>h.2 rfl) B3;refine ls (w1:=w3.setCells g3 0 [.bool false,.slice A3 k3 c3]) ?_ rfl rfl (by simp [execOp,go_sem,B3.cell,B3.frozen,sz,World.setCells]);refine lE a1 [0,2] 3 ?_;intro a2 u2 e3
 replace sz:=u2.sz.trans sz
 replace df:=u2.df.trans df
 replace e0:=u2.get 0 e0
 replace e2:=u2.get 2 e2
 have X3:=hX3 w ((x0.trans' hx2).trans' x3) U;have b2:=hB3 _ _ (show w.heap.size ≠ g3 by omega) ((B2.ext hx2).ext x3);generalize w3.setCells g3 0 [.bool false,.slice A3 k3 c3]=w4 at *;refine wp_seq (rW ?_);refine lc Tryz.func163 (iS 2 w4 ak) ?_;rintro e w5 ⟨u5,rfl,hN5,hx5⟩;refine ⟨_,rfl,?_⟩;have hs5:=hx5.size;generalize hg4:w5.heap.size=g4 at *;have B4:=Blk.new' w5 223 #[.bool false,.slice none 0 0] hg4.symm;have x6:Ext w5 (w5.alloc (.cells #[.bool false,.slice none 0 0] 223)):=(Ext.refl w5).alloc' _;have s6:(w5.alloc (.cells #[.bool false,.slice none 0 0] 223)).heap.size=g4+1:=by simp [hg4]
 refine lv ?_
 replace hN5:=hN5.carry (Q:=fun b=>w1.heap.size<=b∧b ≠ g3∧b ≠ g4) (aB.of_ext x6) (fun b hb h=>h.elim False.elim (fun h=>⟨U,U,U⟩))
 have hH3':=hH3.carry (Q:=fun b=>w1.heap.size<=b∧b ≠ g3∧b ≠ g4) (hx5.trans' x6) (fun b hb h=>⟨h.1,h.2,U⟩);have X6:=X3.trans' (hx5.trans' x6);have b6:=(b2.ext hx5).ext x6;generalize w5.alloc (.cells #[.bool false,.slice none 0 0] 223)=w6 at *;obtain ⟨A5,k5,c5,rfl,hH4,hO4,hB4,hX4,hS4,-⟩:=hN5.put (P:=fun b=>w1.heap.size<=b∧b ≠ g3∧b ≠ g4) U (fun _ h=>h) (fun h=>h.2.2 rfl) B4;refine ls (w1:=w6.setCells g4 0 [.bool false,.slice A5 k5 c5]) ?_ rfl rfl (by simp [execOp,go_sem,B4.cell,B4.frozen,sz,World.setCells]);refine lE a2 [0,2,3] 4 ?_;intro a3 u3 e4
 replace sz:=u3.sz.trans sz
 replace df:=u3.df.trans df
 replace e0:=u3.get 0 e0
 replace e2:=u3.get 2 e2
 replace e3:=u3.get 3 e3
 have h34:g3 ≠ g4:=U
 have hI3:=hO4 g3 1 h34 hH3';have X7:=hX4 w X6 U;have b7:=hB4 _ _ (show w.heap.size ≠ g4 by omega) b6;generalize w6.setCells g4 0 [.bool false,.slice A5 k5 c5]=w7 at *;refine wp_seq (wp_block (wp_loop (fun a' W=>∃ (k s t:Nat),Ag [2,3,4] a3 a'∧Ev a' (.tmp 0)=↑(k:Int)∧s+t*k=K∧(1<=t∧t<=128∧k<=64)∧oN W g3 (fun b=>w1.heap.size<=b∧b ≠ g3∧b ≠ g4) (2 ^ s)∧oN W g4 (fun b=>w1.heap.size<=b∧b ≠ g3∧b ≠ g4) (2 ^ t)∧Ext w W∧Blk W w.heap.size 223 #[.bool false,.slice none 0 0]∧g4<W.heap.size) (fun a' _=>(intOf (Ev a' (.tmp 0))).toNat) ⟨K,0,1,.rf,e0,U,U,by simpa using hI3,by simpa using hH4,X7,b7,U⟩ ?_));clear e0 hI3 hH4 X7 b7 hH3 hH3' hN5 hN2;rintro a4 W ⟨k,s,t,u4,e0,hk,ht,h3,h4,hE,hb,hsz⟩
 replace sz:=u4.sz.trans sz
 replace df:=u4.df.trans df
 replace e2:=u4.get 2 e2
 replace e3:=u4.get 3 e3
 replace e4:=u4.get 4 e4
 refine wp_seq (wp_seq (rW ?_))
 iterate 2 refine lv ?_
 refine lE a4 [0,2,3,4] 8 ?_;intro a5 u5 e8
 replace sz:=u5.sz.trans sz
 replace df:=u5.df.trans df
 have f0:=u5.get 0 e0
 replace e2:=u5.get 2 e2
 replace e3:=u5.get 3 e3
 replace e4:=u5.get 4 e4
 have p2s:=tO s;have p2t:=tO t
 by_cases h0:k=0
 ·subst h0
  refine wp_cond_false (e8.trans Y) (wp_exit (wp_seq (rW ?_)));obtain ⟨A,kk,c,q1,q2⟩:=h3;have c3:=q1.cell;refine lv ?_;obtain ⟨z',A7,k7,c7,e,hN',hb',hE'⟩:=q2.box (g:=w.heap.size) (Q:=New (fun _=>False) w.heap.size) (fun b hb=>by omega) (fun b hb=>.inr U) hb hE U;injection e with e;have e:=congrArg Array.toList e;simp only [List.cons.injEq,Value.bool.injEq,Value.slice.injEq,and_true] at e;obtain ⟨rfl,rfl,rfl,rfl⟩:=e;refine ls (w1:=W.setCells w.heap.size 0 [.bool false,.slice A kk c]) ?_ rfl rfl (by simp [execOp,go_sem,hb.cell,hb.frozen,sz,e2,World.setCells]);refine lE a5 [] 2 ?_;intro a6 u6 g2;have hbc:=hb'.cell;rw [show s=K by omega] at hN';exact wp_ret (hQ _ _ _ (u6.df.trans df) (by simp [results,Tryz.results190,go_sem,evT g2,hbc];try rfl) ⟨_,rfl,hN',hE'⟩)
 ·have htk:t*1<=t*k:=Nat.mul_le_mul_left t U
  have two:∀ (a6:Act) (W6:World) (s':Nat),Ag [0,2,3,4] a5 a6->oN W6 g3 (fun b=>w1.heap.size<=b∧b ≠ g3∧b ≠ g4) (2 ^ s')->oN W6 g4 (fun b=>w1.heap.size<=b∧b ≠ g3∧b ≠ g4) (2 ^ t)->Ext w W6->Blk W6 w.heap.size 223 #[.bool false,.slice none 0 0]->g4<W6.heap.size->s'+2*t*(k / 2)=K->Code.wp Tryz.prog (.seq (aFu 6) (aFu 7)) (fun e a' W'=>e=.normal∧(∃ (k s t:Nat),Ag [2,3,4] a3 a'∧Ev a' (.tmp 0)=↑(k:Int)∧s+t*k=K∧(1<=t∧t<=128∧k<=64)∧oN W' g3 (fun b=>w1.heap.size<=b∧b ≠ g3∧b ≠ g4) (2 ^ s)∧oN W' g4 (fun b=>w1.heap.size<=b∧b ≠ g3∧b ≠ g4) (2 ^ t)∧Ext w W'∧Blk W' w.heap.size 223 #[.bool false,.slice none 0 0]∧g4<W'.heap.size)∧Ev a' (.tmp 0)=.int .i64 ((k / 2:Nat):Int)) a6 W6:=by
   intro a6 W6 s' u6 h3 h4 hE hb hsz hK'
   replace sz:=u6.sz.trans sz
   have g0:=u6.get 0 f0
   replace e4:=u6.get 4 e4
   have h4':=h4;obtain ⟨A,kk,c,q1,q2⟩:=h4';have c4:=q1.cell;refine wp_seq (rW ?_)
   iterate 2 refine lv ?_
   refine lc Tryz.func208 (lU q2 q2 U U (oD ht.2.1) (oD ht.2.1)) ?_;rintro e W7 ⟨u7,rfl,hN7,hx7⟩;refine ⟨_,rfl,?_⟩;have hs7:=hx7.size;have B7:=q1.ext hx7;obtain ⟨A7,k7,c7,rfl,hH7,hO7,hB7,hX7,hS7,-⟩:=hN7.put (P:=fun b=>w1.heap.size<=b∧b ≠ g3∧b ≠ g4) (Int.mul_nonneg U U) (fun b h=>h.elim False.elim (fun h=>⟨U,U,U⟩)) (fun h=>h.2.2 rfl) B7;refine ls (w1:=W7.setCells g4 0 [.bool false,.slice A7 k7 c7]) ?_ rfl rfl (by simp [execOp,go_sem,B7.cell,B7.frozen,sz,e4,World.setCells]);refine lN a6 [0,2,3,4] ?_;intro a7 u7
   replace sz:=u7.sz.trans sz
   replace g0:=u7.get 0 g0
   refine rW ?_
   iterate 3 refine lv ?_
   refine lE a7 [2,3,4] 0 ?_;intro a8 u8 h0';have h0n:Ev a8 (.tmp 0)=.int .i64 ((k / 2:Nat):Int):=h0'.trans Y;rw [<- Int.pow_add] at hH7;exact ⟨rfl,⟨k / 2,s',t+t,(((u4.trans (u5.mono rfl)).trans (u6.mono rfl)).trans (u7.mono rfl)).trans u8,h0n,by rw [show t+t=2*t by omega];exact hK',U,hO7 _ _ h34 (h3.ext hx7),hH7,hX7 w (hE.trans' hx7) U,hB7 _ _ U (hb.ext hx7),U⟩,h0n⟩
  have k2:t*k=2*t*(k / 2)+t*(k % 2):=by
   have:=Nat.div_add_mod k 2
   calc t*k=t*(2*(k / 2)+k % 2):=by rw [this]
    _=_:=by rw [Nat.mul_add,<- Nat.mul_assoc,Nat.mul_comm t 2]
  refine wp_cond_true (e8.trans ab) (wp_skip (wp_block (wp_seq (wp_seq (rW ?_)))))
  iterate 3 refine lv ?_
  refine lE a5 [0,2,3,4] 11 ?_;intro a6 u6 e11
  replace sz:=u6.sz.trans sz
  replace e3:=u6.get 3 e3
  replace e4:=u6.get 4 e4
  by_cases hodd:k % 2=1
  ·refine wp_cond_true (e11.trans ab) (rW ?_)
   have h3':=h3;have h4':=h4;obtain ⟨A,kk,c,q1,q2⟩:=h3';obtain ⟨A',kk',c',r1,r2⟩:=h4';have c3:=q1.cell;have c4:=r1.cell
   iterate 2 refine lv ?_
   refine lc Tryz.func208 (lU q2 r2 U U (oD U) (oD ht.2.1)) ?_;rintro e W7 ⟨u7,rfl,hN7,hx7⟩;refine ⟨_,rfl,?_⟩;have hs7:=hx7.size;have B7:=q1.ext hx7;obtain ⟨A7,k7,c7,rfl,hH7,hO7,hB7,hX7,hS7,-⟩:=hN7.put (P:=fun b=>w1.heap.size<=b∧b ≠ g3∧b ≠ g4) (Int.mul_nonneg U U) (fun b h=>h.elim False.elim (fun h=>⟨U,U,U⟩)) (fun h=>h.2.1 rfl) B7;refine ls (w1:=W7.setCells g3 0 [.bool false,.slice A7 k7 c7]) ?_ rfl rfl (by simp [execOp,go_sem,B7.cell,B7.frozen,sz,e3,World.setCells]);refine lN a6 [0,2,3,4] ?_;intro a7 u7;rw [<- Int.pow_add] at hH7;refine wp_mono (two a7 _ (s+t) (u6.trans u7) hH7 (hO7 _ _ U (h4.ext hx7)) (hX7 w (hE.trans' hx7) U) (hB7 _ _ U (hb.ext hx7)) U (by rw [hodd] at k2;omega)) ?_;rintro e a' W' ⟨rfl,h,h7⟩;refine ⟨h,?_⟩;rw [h7,e0];simp only [intOf];omega
  ·refine wp_cond_false (e11.trans ab) (wp_skip ?_)
   refine wp_mono (two a6 W s u6 h3 h4 hE hb hsz (by rw [show k % 2=0 by omega] at k2;omega)) ?_;rintro e a' W' ⟨rfl,h,h7⟩;refine ⟨h,?_⟩;rw [h7,e0];simp only [intOf];omega
end
section
variable {w:World}{P P':Nat->Prop}{v vb:Value}{l:List Int}{n V:Int}
theorem aTf {ops:Array Oper}{K:Act->World->Prop}{S:World->Prop}{bf:Nat->Bool}{n:Nat}{is:List Nat}{a:Act}{w:World}{v v':Value}(a0:Act)(L:List Nat)(d d':Nat)(h:∀ a',Ag L a0 a'->Ev a' (.tmp d)=v->Ev a' (.tmp d')=v'->K a' w)(hr:Region.ready .any ops (mkL ops.size is)=[]:=by kernel_rfl)(hA:Ag L a0 a:=by (repeat refine .put ?_ rfl);exact .rf)(he:Ev a (.tmp d)=v:=by simp [*];rfl)(he':Ev a (.tmp d')=v':=by simp [*];rfl):WD ops K S bf n is a w:=wZ hr (h a hA he he')
theorem aLk {V:Int}(h:IsD V l)(hV:V<100000000):V=dgt l 0+10000*dgt l 1∧0<=dgt l 0∧dgt l 0<10000∧0<=dgt l 1∧dgt l 1<10000:=by
 have h2:=h.len_le (k:=2) U;have d0:=h.1.at_ 0;have d1:=h.1.at_ 1;refine ⟨?_,by simp [dgt];simpa using d0.1,by simp [dgt];simpa using d0.2,by simp [dgt];simpa using d1.1,by simp [dgt];simpa using d1.2⟩;rw [<- h.2.1]
 match l,h2 with
 | [],_=>simp [vlD,dgt]
 | [x],_=>simp [vlD,dgt]
 | [x,y],_=>simp [vlD,dgt]
noncomputable def aMd:=RG Tryz.f221
noncomputable abbrev aWl:Code:=.seq (aMd 0) (.seq (aMd 1) (.seq (.seq (aMd 2) (.cond (.tmp 18) (.seq (aMd 3) .ret) .skip)) (.seq (aMd 4) (.seq (aMd 5) (.seq (aMd 6) .ret)))))
theorem aXg:Tryz.f221.body=some aWl:=aa
theorem aEv (hl:aU w P v l)(hr:IsD V l)(hn:1<=n∧n<=9999)(hV:V<10000*n)(hb:aU w P' vb [n]):Calls Tryz.prog 221 #[v,vb] w fun e w'=>∃ lo:Int,e=.returned (.tuple #[↑lo,.int .i64 (V / n)])∧0<=lo∧lo<=V / n∧Ext w w':=by
 refine cI Tryz.func221 aXg rfl Y (fun a Q sz df ea hQ=>?_);obtain ⟨A,c,rfl,-,-⟩:=hl.form;obtain ⟨B,c',rfl,-,-⟩:=hb.form;have e0:=ea 0 (.slice A l.length c) rfl;have e1:=ea 1 (.slice B 1 c') rfl;have hV0:=hr.nonneg;refine wp_seq (rW ?_)
 iterate 2 refine lv ?_
 refine lN a [0,1] ?_;intro a1 u1
 replace sz:=u1.sz.trans sz
 replace df:=u1.df.trans df
 replace e0:=u1.get 0 e0
 replace e1:=u1.get 1 e1
 refine wp_seq (rW ?_)
 iterate 3 refine lv ?_
 refine lE a1 [0,1] 6 ?_;intro a2 u2 e6
 replace sz:=u2.sz.trans sz
 replace df:=u2.df.trans df
 replace e0:=u2.get 0 e0
 replace e1:=u2.get 1 e1
 refine wp_seq (wp_seq (rW ?_))
 by_cases h0:l.length<1
 ·have h0':(l.length:Int)<1:=by omega
  iterate 5 refine lv ?_
  iterate 2 refine ln ?_
  refine lv ?_;refine lE a2 [] 18 ?_;intro a3 u3 e18
  replace sz:=u3.sz.trans sz
  replace df:=u3.df.trans df
  refine wp_cond_true (e18.trans Y) (wp_seq (rW ?_))
  iterate 2 refine lv ?_
  refine lE2 a3 [] 4 5 ?_;intro a4 u4 e4 e5;have:l=[]:=List.eq_nil_of_length_eq_zero U;subst this;have hz:V=0:=by have:=hr.2.1;simpa [vlD] using this.symm
  subst hz;exact wp_ret (hQ _ _ _ (u4.df.trans df) (by simp [results,Tryz.results221,go_sem,evT e4,evT e5];try rfl) ⟨0,Y,U,Y,.refl _⟩)
 have h0':¬ (l.length:Int)<1:=U
 iterate 5 refine lv ?_
 iterate 2 refine ly ?_
 refine lv ?_;refine lE a2 [0,1,6] 18 ?_;intro a3 u3 e18
 replace sz:=u3.sz.trans sz
 replace df:=u3.df.trans df
 replace e0:=u3.get 0 e0
 replace e1:=u3.get 1 e1
 replace e6:=u3.get 6 e6
 refine wp_cond_false (e18.trans Y) (wp_skip (wp_seq (rW ?_)));have hd:=aLk hr U;have dm:dgt l (-1)=0:=by simp [dgt]
 have bm:dgt [n] (-1)=0:=by simp [dgt]
 have b0:dgt [n] 0=n:=by simp [dgt]
 iterate 2 refine lv ?_
 refine lc Tryz.func227 (iI (i:=1) hl) ?_;rintro e w1 ⟨rfl,rfl⟩;refine ⟨_,rfl,?_⟩
 iterate 4 refine lv ?_
 refine lc Tryz.func227 (iI (i:=0) hl) ?_;rintro e w2 ⟨rfl,rfl⟩;refine ⟨_,rfl,?_⟩
 iterate 5 refine lv ?_
 refine lc Tryz.func227 (iI (i:=-1) hl) ?_;rintro e w3 ⟨rfl,rfl⟩;refine ⟨_,rfl,?_⟩
 iterate 2 refine lv ?_
 refine lE a3 [0,1,6] 7 ?_;intro a4 u4 e7
 replace sz:=u4.sz.trans sz
 replace df:=u4.df.trans df
 replace e0:=u4.get 0 e0
 replace e1:=u4.get 1 e1
 replace e6:=u4.get 6 e6
 refine wp_seq (rW ?_)
 iterate 3 refine lv ?_
 refine lc Tryz.func227 (iI (i:=0) hb) ?_;rintro e w4 ⟨rfl,rfl⟩;refine ⟨_,rfl,?_⟩
 iterate 4 refine lv ?_
 refine lc Tryz.func227 (iI (i:=-1) hb) ?_;rintro e w5 ⟨rfl,rfl⟩;refine ⟨_,rfl,?_⟩
 iterate 2 refine lv ?_
 refine lE a4 [7] 8 ?_;intro a5 u5 e8
 replace sz:=u5.sz.trans sz
 replace df:=u5.df.trans df
 replace e7:=u5.get 7 e7
 have e8':Ev a5 (.tmp 8)=.int .i64 (10000*n):=e8.trans (by congr 1;try omega);have e7':Ev a5 (.tmp 7)=.int .i64 (10000*V):=e7.trans gn;clear e7 e8 hd dm bm b0 u5 u4 u3 u2 u1 e18 e6;have hq:=Int.ediv_nonneg hV0 (show 0<=n by omega);have hq2:V / n<10000:=Int.ediv_lt_of_lt_mul U U;have hhi:10000*V / (10000*n)=V / n:=Int.mul_ediv_mul_of_pos _ _ U;have hlo0:=Int.ediv_nonneg (show 0<=10000*V by omega) (show 0<=10000*n+1 by omega)
 have hlo:10000*V / (10000*n+1)<=V / n:=by
  have h1:=Int.ediv_mul_le (10000*V) (show 10000*n+1 ≠ 0 by omega);generalize 10000*V / (10000*n+1)=q at *;refine Int.le_ediv_of_mul_le U ?_;rw [Int.mul_add,Int.mul_left_comm] at h1;omega
 have z1:¬ 10000*n+1=0:=U
 have z2:¬ 10000*n=0:=U
 refine wp_seq ?_;refine rD (fun _=>True) (fun _=>true) 11 ?_;have hS:True:=trivial;refine dt 0 [0,1,2,3,4,5,6,7,8,9,10] ?_
 iterate 11 refine tv ?_
 refine t_e ?_;refine aTf a5 [] 4 5 ?_;intro a6 u6 e4 e5;rw [show (if V / n<9999 then V / n else 9999)=V / n by split <;> omega] at e5;generalize hq3:(if 10000*V / (10000*n+1)<9999 then 10000*V / (10000*n+1) else 9999)=lo at e4;refine wp_ret (hQ _ _ _ (u6.df.trans df) (by simp [results,Tryz.results221,go_sem,evT e4,evT e5];try rfl) ⟨lo,rfl,?_,?_,(Ext.refl _).drew'⟩)
 ·rw [<- hq3];split <;> omega
 ·rw [<- hq3];split <;> omega
theorem aDw (W:World)(z:Int):(W.alloc (.cells #[↑z] 3)).ownsRow W.heap.size 3 1 (.slice (some ⟨W.heap.size,0,none⟩) 1 1) 1 [.int .i64 z] :=
 ⟨rfl,.inr ⟨W.heap.size,1,#[↑z],rfl,Nat.le_refl _,Blk.new W 3 _,Nat.le_refl _,am,rfl,rfl⟩⟩
noncomputable def lG:=RG Tryz.f209
noncomputable abbrev aWt:Code:=.seq (lG 0) (.seq (lG 1) (.seq (lG 2) (.seq (lG 3) (.seq (lG 4) (.seq (.seq (lG 5) (.block 0 (.loop (.seq (.seq (lG 6) (.cond (.tmp 38) .skip (.exit 0))) (.seq (.block 1 (.seq (lG 8) (.seq (lG 9) (.seq (lG 10) (.seq (.block 2 (.loop (.seq (.seq (lG 11) (.cond (.tmp 59) .skip (.exit 2))) (.block 3 (.seq (lG 12) (.seq (lG 13) (.cond (.tmp 70) (lG 14) (lG 15)))))))) (.seq (lG 16) (.seq (lG 17) (lG 18)))))))) (lG 7)))))) (.seq (lG 19) .ret))))))
theorem aXo:Tryz.f209.body=some aWt:=aa
noncomputable abbrev aP6:Code:=.seq (.seq (lG 11) (.cond (.tmp 59) .skip (.exit 2))) (.block 3 (.seq (lG 12) (.seq (lG 13) (.cond (.tmp 70) (lG 14) (lG 15)))))
theorem aP5 {a:Act}{W:World}{Q:Exit->Act->World->Prop}{A B:Option Addr}{c c':Nat}{lo:Int}(sz:a.tmps.size=Tryz.f209.ntmps)(e1:Ev a (.tmp 1)=.slice B 1 c')(e9:Ev a (.tmp 9)=.slice A l.length c)(e12:Ev a (.tmp 12)=↑lo)(e13:Ev a (.tmp 13)=.int .i64 (V / n))(hl:aU W P (.slice A l.length c) l)(hr:IsD V l)(hn:1<=n∧n<=9999)(hV:V<10000*n)(hb:aU W P' (.slice B 1 c') [n])(h0:0<=lo)(h1:lo<=V / n)
  (hQ:∀ a' W',Ag [0,1,6,7,9,10] a a'->Ev a' (.tmp 12)=.int .i64 (V / n)->Ext W W'->Q .normal a' W'):Code.wp Tryz.prog (.block 2 (.loop aP6)) Q a W:=by
 have hq2:V / n<10000:=Int.ediv_lt_of_lt_mul U U;have hbd:IsD n [n]:=⟨.one U U,fv,ab⟩;generalize hq:V / n=q at *;refine wp_block (wp_loop (fun a' W'=>∃ lo hi:Int,Ag [0,1,6,7,9,10] a a'∧Ev a' (.tmp 12)=↑lo∧Ev a' (.tmp 13)=↑hi∧0<=lo∧lo<=q∧q<=hi∧hi<=9999∧Ext W W') (fun a' _=>(intOf (Ev a' (.tmp 13)) - intOf (Ev a' (.tmp 12))).toNat) ⟨lo,q,.rf,e12,e13,h0,h1,U,U,.refl _⟩ ?_);clear e12 e13 h0 h1;rintro a1 W1 ⟨lo,hi,u1,e12,e13,h0,h1,h2,h3,hx⟩
 replace sz:=u1.sz.trans sz
 replace e1:=u1.get 1 e1
 replace e9:=u1.get 9 e9
 refine wp_seq (wp_seq (rW ?_))
 iterate 3 refine lv ?_
 refine lE a1 [0,1,6,7,9,10,12,13] 59 ?_;intro a2 u2 e59
 replace sz:=u2.sz.trans sz
 replace e1:=u2.get 1 e1
 replace e9:=u2.get 9 e9
 have f12:=u2.get 12 e12;have f13:=u2.get 13 e13
 by_cases hlt:lo<hi
 ·refine wp_cond_true (e59.trans ar) (wp_skip (wp_block (wp_seq (rW ?_))))
  iterate 6 refine lv ?_
  refine lE a2 [0,1,6,7,9,10,12,13] 14 ?_;intro a3 u3 e14
  replace sz:=u3.sz.trans sz
  replace e1:=u3.get 1 e1
  replace e9:=u3.get 9 e9
  have hm:lo<(lo+hi+1) / 2∧(lo+hi+1) / 2<=hi:=U
  generalize (lo+hi+1) / 2=mid at *;refine wp_seq (rW ?_)
  iterate 2 refine lv ?_
  refine lc Tryz.func222 (rI (k:=mid) (hb.ext hx) hbd U U) ?_;rintro e W4 ⟨l4,A4,c4,rfl,hl4,hd4,hx4⟩;refine ⟨_,rfl,?_⟩;refine lv ?_;refine lc Tryz.func215 (jX hl4 (hl.ext (hx.trans' hx4)) hd4 hr) ?_;rintro e W5 ⟨rfl,hx5⟩;refine ⟨_,rfl,?_⟩;refine lv ?_;refine lE a3 [0,1,6,7,9,10,12,13,14] 70 ?_;intro a4 u4 e70
  replace sz:=u4.sz.trans sz
  replace e14:=u4.get 14 e14
  have g12:=u4.get 12 (u3.get 12 f12);have g13:=u4.get 13 (u3.get 13 f13)
  have hcmp:rX (n*mid) V<=0 ↔ mid<=q:=by
   rw [aLo,<- hq,Int.le_ediv_iff_mul_le U,Int.mul_comm]
  have hE:=hx.trans' (hx4.trans' hx5);have U4:=(((u1.trans (u2.mono rfl)).trans (u3.mono rfl)).trans (u4.mono rfl))
  by_cases hle:mid<=q
  ·refine wp_cond_true (e70.trans (by simp [hcmp,hle])) (rW ?_)
   iterate 2 refine lv ?_
   refine lE a4 [0,1,6,7,9,10,13] 12 ?_;intro a5 u5 g12';refine ⟨⟨mid,hi,U4.trans (u5.mono rfl),g12',u5.get 13 g13,U,hle,h2,h3,hE⟩,?_⟩;rw [g12',u5.get 13 g13,e12,e13];simp only [intOf];omega
  ·refine wp_cond_false (e70.trans (by simp [hcmp,hle])) (rW ?_)
   iterate 3 refine lv ?_
   refine lE a4 [0,1,6,7,9,10,12] 13 ?_;intro a5 u5 g13';refine ⟨⟨lo,mid - 1,U4.trans (u5.mono rfl),u5.get 12 g12,g13',h0,h1,U,U,hE⟩,?_⟩;rw [g13',u5.get 12 g12,e12,e13];simp only [intOf];omega
 ·refine wp_cond_false (e59.trans ar) (wp_exit ?_)
  exact hQ a2 W1 (u1.trans (u2.mono rfl)) (f12.trans gn) hx
end
end Go.Proofs.YtkoeecdjijfjnaaGreat
