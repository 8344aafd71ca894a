/- Contracts and laws. Conditions: none. -/
import Derived.Test.YtkoeecdjijfjnaaGreatDoorQL
set_option linter.all false
set_option maxRecDepth 100000
set_option maxHeartbeats 8000000
namespace Go.Proofs.YtkoeecdjijfjnaaGreatDoor
open Go.RowKit
theorem k9 {ops:Array Oper}{Q:Exit->Act->World->Prop}{a:Act}{w:World}{v v' v2:Value}(a0:Act)(L:List Nat)(d d' d2:Nat)(h:∀ a',Ag L a0 a'->qq a' d v->Ev a' (.tmp d')=v'->Ev a' (.tmp d2)=v2->Q .normal a' w)(hA:Ag L a0 a:=by (repeat refine .put ?_ rfl);exact .rf)(he:qq a d v:=by simp [*])(he':Ev a (.tmp d')=v':=by simp [*])(he2:Ev a (.tmp d2)=v2:=by simp [*]):WL ops Q [] a w:=aV (h a hA he he' he2)
def GP (g:KA)(W:World)(v1 kv:Value)(w':World):Nat->Prop:=fun b=>(b<g.base∨W.heap.size<=b)∧b<w'.heap.size∧¬ KM g v1 b∧some b ≠ kv.ownBlock
def FI (t:List GN)(raw:List Int)(f:Nat)(x:GN)(g:KA)(v:Value)(gr:Nat)(want:Bool)(w W:World)(R:GV × List Int)(aL:Act)(k:Nat)(a':Act)(w':World):Prop :=
 ∃ (s1:List Int) (v1 kv:Value) (done:List GV) (xs:List Value),Ag [0,1,2,3,8,9,96,97] aL a'∧qq a' 98 (k:Int)∧qq a' 11 kv∧k<=x.kids∧KSt g s1 v1 w'∧Fr (KM g v) W w'∧fQ W v v1∧v1.ownBlock ≠ some gr∧Blk w' gr 58 eR.toArray∧W.heap.size<=w' ∧
  R=ftP (ftR t raw f) x.name s1 done (x.kids.drop k)∧(s1:Int)+gJ (aI t) (x.kids.drop k)<=1000000 ∧
  (want=true->w'.ownsRow W 58 4 kv k xs∧RVs w' (GP g W v1 kv w') done xs∧done=k∧∀ q,kv.ownBlock=some q->¬ KM g v1 q)∧(want=false->kv=↑qn)
theorem Iw {g:KA}{W w' w2:World}{v1 v2 kv:Value}{done:List GV}{xs:List Value}(h:RVs w' (GP g W v1 kv w') done xs)(hf:Fr (KM g v1) w' w2)(hb:fQ w' v1 v2):RVs w2 (GP g W v2 kv w2) done xs :=
 RVs.carry (aB.of_fr hf (fun b h=>h.2.2.1)) (fun b hlt h=>⟨h.1,ac h.2.1 hf.size,fun hm=>(KM.mono hb hm).elim h.2.2.1 (fun h2=>by omega),h.2.2.2⟩) h
theorem JS {g:KA}{W w2 w5 w6:World}{v2 kv kv':Value}{done:List GV}{xs:List Value}{y:GV}{A:Option Addr}{c:Nat}(hr:RVs w2 (GP g W v2 kv w2) done xs)(h5:Ext w2 w5)
  (hv:VAt w5 (fun b=>GP g W v2 kv w2 b) y A c)(hf:Fr (fun k=>some k=kv.ownBlock) w5 w6)
  (hb:kv'.ownBlock=kv.ownBlock∨∃ q,kv'.ownBlock=some q∧w5<=q):RVs w6 (GP g W v2 kv' w6) (done ++ [y]) (xs ++ cellsOf y A c):=by
 have hs5:=h5.size;have hs6:=hf.size;have hq6:Fr (fun k=>some k=kv.ownBlock) w2 w6:=(ar h5).trans hf
 have hg:∀ b,GP g W v2 kv w2 b->GP g W v2 kv' w6 b:=fun b h=>⟨h.1,by have:=h.2.1;omega,h.2.2.1,fun e=>by
  rcases hb with e1 | ⟨q,e1,h1⟩
  ·rw [e1] at e;exact h.2.2.2 e
  ·rw [e1] at e;cases e;have:=h.2.1;omega⟩
 exact RVs.append (RVs.carry (aB.of_fr hq6 (fun b h e=>h.2.2.2 e)) (fun b _ h=>hg b h) hr) (RVs.one (hv.carry (aB.of_fr hf (fun b h e=>h.2.2.2 e)) (fun b _ h=>hg b h)).rv)
section
variable {t:List GN}{raw s:List Int}{v vr:Value}{g:KA}{f i bn on cn gr:Nat}{x:GN}{na:NA}{want:Bool}{w W:World}{a0 a:Act}{Q:Exit->Act->World->Prop}{R:GV × List Int}
theorem LG (hE:JE t raw s v vr g f i bn on cn gr x na want w W a0 Q R){v1:Value}(h:fQ W v v1):fQ w v v1:=by
 have:=hE.ext.size;rcases h with e | ⟨q,e,h1⟩
 ·exact .inl e
 ·exact .inr ⟨q,e,I⟩
noncomputable abbrev xg:Code:=.seq (R88 12) (.seq (.seq (R88 13) (.block 1 (.loop (.seq (R88 14) (.seq (.cond (.tmp 99) .skip (.exit 1)) (.seq (.block 2 (.seq (R88 15) (.seq (R88 16) (.seq (R88 17) (.cond (.tmp 107) (R88 18) .skip))))) (R88 19))))))) (.seq (R88 20) .ret))
theorem Fp (hE:JE t raw s v vr g f i bn on cn gr x na want w W a0 Q R){aL a':Act}{w':World}(hu:Ag [0,1,2,3,8,9] a0 aL)(e9:qq aL 9 (qt bn (on+i*12)))(hI:FI t raw f x g v gr want w W R aL x.kids a' w'):qw (.seq (R88 20) .ret) Q a' w':=by
 obtain ⟨s1,v1,kv,done,xs,ag,e98,e11,hk,hS,hF,hb,hng,hB,hsz,hR,hbd,hT,hN⟩:=hI;have sz:=ag.sz.trans (hu.sz.trans hE.sz);have e9':=ag.get 9 e9;have e8:=ag.get 8 (hu.get 8 hE.e8);have hbn:=hE.bnl;have hgr:=hE.lo;have hhh:=hE.env.hh;have hgs:gr<W:=hE.res.lt;have hszw:=hE.szw;have hnc:aR w' bn (on+i*12) x na:=fun j u hu=>aH hF (hE.nkm hbn hE.st) (hE.nc j u hu)
 have hFw:=(ar hE.ext).trans hF;replace hb:=LG hE hb;rw [List.drop_eq_nil_of_le (ab _)] at hR;simp only [ftP] at hR;have hname:=hE.nd.name
 have key:∀ (A:Option Addr) (c:Nat) (kids:List GV),kv=.slice A kids c->(want=true->kids=done∧VAt w' (fun q=>KP g w v1 q∧q ≠ gr) (cB x.name done) A c)->qw (.seq (R88 20) .ret) Q a' w':=by
  intro A c kids hkv hv;subst hkv;refine rS ?_;iterate 2 refine lv ?_
  refine lc Tryz.func62 (iD x na bn (on+i*12) kids A c w' hnc) ?_;rintro e w3 ⟨rfl,hx3⟩;refine ⟨_,rfl,?_⟩;have hB3:=hB.ext hx3;obtain ⟨ym,hym⟩:∃ ym,ym=cB x.name kids:=⟨_,rfl⟩;rw [<- hym];have HYM:=aYf hym;clear hym;refine ls (w1:=w3.setCells gr 0 (cellsOf ym A c)) ?_ (hrun:=by simp [execOp,go_sem,hB3.cell,hB3.frozen,e8,sz];try rfl);refine lN a' [8] ?_;intro a6 u6;refine wp_ret (vY hE ((hu.mono rfl).trans ((ag.mono rfl).trans u6)) hB3 rfl (by rw [hR];exact hS.ext hx3) (hFw.trans (ar hx3)) hb hng (fun hw=>?_));obtain ⟨rfl,hva⟩:=hv hw;rw [HYM.out];exact ⟨by rw [hR],hva.ext hx3⟩
 cases want with
 | false=>exact key none 0 [] (hN rfl) (fun h=>by cases h)
 | true =>
  obtain ⟨hown,hrv,hdl,hkv⟩:=hT rfl;obtain ⟨A,c,rfl,-,-,-⟩:=Sl.of_own hown;have hkl:=(cJ hE.hg hE.hi).1;rw [hE.hx] at hkl;have hv0:bZ w' (fun q=>KP g w v1 q∧q ≠ gr) (.slice A x.kids c) done:=bZ.of_own (hown.len_cast hdl.symm rfl) (RVs.carry (fun _ _ _=>rfl) (fun b hlt h=>⟨⟨h.1.imp id (fun h=>by omega),h.2.2.1⟩,fun e=>?_⟩) hrv) I (fun b hb=>?_)
  ·rcases h.1 with h1 | h1 <;> omega
  ·have:=hown.block_ge hb
   exact ⟨⟨.inr I,hkv b hb⟩,I⟩
  ·exact key A c done (by rw [hdl]) (fun _=>⟨rfl,VAt.made hname (by rw [hdl];exact hv0)⟩)
theorem Bc (hE:JE t raw s v vr g f i bn on cn gr x na want w W a0 Q R){aL a6:Act}{w' w2 w5 w6:World}{k:Nat}{s1:List Int}{v1 v2 kv kv':Value}{done:List GV}{xs:List Value}{zn:Nat}{y:GV}{A:Option Addr}{d:Nat}
  (ag:Ag [0,1,2,3,8,9,96,97] aL a6)(e98:qq a6 98 (.int .i64 ((k+1:Nat):Int)))(e11:qq a6 11 kv')(hlt:k<x.kids)(hF:Fr (KM g v) W w')(hb:fQ W v v1)(hng:v1.ownBlock ≠ some gr)(hB:Blk w' gr 58 eR.toArray)(hsz:W.heap.size<=w')
  (hR:R=ftP (ftR t raw f) x.name s1 done (x.kids.drop k))(hbd:(s1:Int)+gJ (aI t) (x.kids.drop k)<=1000000)(hz:x.kids.getD k 0=(zn:Int))(hznt:zn<t)(hznf:zn<f)
  (hS2:KSt g (ftR t raw f zn s1).2 v2 w2)(hF2:Fr (KM g v1) w' w2)(hb2:fQ w' v1 v2)(hy:want=true->y=(ftR t raw f zn s1).1∧VAt w2 (KP g w' v2) y A d)
  (hx5:Ext w2 w5)(hf6:Fr (fun q=>some q=kv.ownBlock) w5 w6)(hkq:∀ q,kv.ownBlock=some q->W<=q∧q<w'∧¬ KM g v1 q)
  (hrv:want=true->RVs w' (GP g W v1 kv w') done xs∧done=k)(hfin:want=true->w6.ownsRow W 58 4 kv' (k+1) (xs ++ cellsOf y A d)∧(kv'.ownBlock=kv.ownBlock∨kv'.ownBlock=some w5.heap.size))(hN:want=false->kv'=↑qn) :
  FI t raw f x g v gr want w W R aL (k+1) a6 w6:=by
 have hgr:=hE.lo;have hhh:=hE.env.hh;have hhp:=hE.env.hp;have hgs:gr<W:=hE.res.lt;have hszw:=hE.szw;have hs2:=hF2.size;have hs5:=hx5.size;have hs6:=hf6.size
 have hkm2:∀ q,kv.ownBlock=some q->¬ KM g v2 q:=fun q hq hm=>by
  obtain ⟨h1,h2,h3⟩:=hkq q hq;rcases KM.mono hb2 hm with h | h
  ·exact h3 h
  ·omega
 have hS5:=hS2.ext hx5;have hgk:¬ KM g v1 gr:=fun h=>h.elim (fun h=>by omega) (fun h=>hng h.symm)
 have hdr:x.kids.drop k=(zn:Int) :: x.kids.drop (k+1):=by rw [aJ 0 hlt,hz]
 rw [hdr] at hR hbd;simp only [gJ,Int.toNat_natCast] at hbd
 have hnn:0<=gJ (aI t) (x.kids.drop (k+1)):=qI (fun z hz=>by
  have:=hE.node.kids z (List.mem_of_mem_drop hz);have:=(bJ hE.hg z.toNat (by have:=hE.hi;omega)).bd;omega)
 have hfl:=se hE.hg raw zn hznt f hznf s1 (by rw [Int.toNat_natCast];omega);rw [Int.toNat_natCast] at hfl
 have hng2:v2.ownBlock ≠ some gr:=fun h=>by
  rcases hb2 with e | ⟨q,e,h1⟩
  ·exact hng (e.symm.trans h)
  ·rw [e] at h;cases h;omega
 refine ⟨(ftR t raw f zn s1).2,v2,kv',done ++ [(ftR t raw f zn s1).1],xs ++ cellsOf y A d,ag,e98,e11,hlt,⟨hS5.box.fr hf6 (fun h=>hkm2 _ h.symm (.inl rfl)),cP hS5.row hf6 (fun q hq h=>hkm2 _ h.symm (.inr hq.symm))⟩,?_,hb.trans hb2 hsz,hng2,((hB.fr hF2 hgk).ext hx5).fr hf6 (fun h=>by have:=(hkq _ h.symm).1;omega),I,?_,I,fun hw=>?_,hN⟩
 ·exact ((AS hF hb hF2).trans (ar hx5)).trans_new (hf6.mono fun q hq=>.inr (hkq q hq.symm).1)
 ·rw [hR];rfl
 ·obtain ⟨rfl,hva⟩:=hy hw
  obtain ⟨h1,h2⟩:=hrv hw;obtain ⟨h3,h4⟩:=hfin hw;refine ⟨h3,JS (Iw h1 hF2 hb2) hx5 (hva.carry (aB.of_ext hx5) (fun b hlt h=>⟨h.1.imp id (fun h=>by omega),hlt,h.2,fun e=>?_⟩)) hf6 (h4.imp id (fun h=>⟨_,h,ab _⟩)),by simp [h2],fun q hq hm=>?_⟩
  ·obtain ⟨h5,h6,-⟩:=hkq b e.symm
   rcases h.1 with h | h <;> omega
  ·rcases h4 with e | e
   ·exact hkm2 q (e.symm.trans hq) hm
   ·rw [e] at hq
    cases hq;have:=sy hS2 hm;omega
theorem EA (hE:JE t raw s v vr g f i bn on cn gr x na want w W a0 Q R){aL a':Act}{w':World}{k:Nat}(hu:Ag [0,1,2,3,8,9] a0 aL){bk ok:Nat}(h96:qq aL 96 (.slice (qt bk ok) x.kids na.kc))(hqk:bk<g.base)(hI:FI t raw f x g v gr want w W R aL k a' w')(hlt:k<x.kids){zn:Nat}(gk:qc W bk (ok+k) zn)(hz:x.kids.getD k 0=(zn:Int)){K:Exit->Act->World->Prop}(hK:∀ a6 w6,FI t raw f x g v gr want w W R aL (k+1) a6 w6->K .normal a6 w6):qw (.seq (.block 2 (.seq (R88 15) (.seq (R88 16) (.seq (R88 17) (.cond (.tmp 107) (R88 18) .skip))))) (R88 19)) K a' w':=by
 obtain ⟨s1,v1,kv,done,xs,ag,e98,e11,hk,hS,hF,hb,hng,hB,hsz,hR,hbd,hT,hN⟩:=hI;have sz:=ag.sz.trans (hu.sz.trans hE.sz);have e0:=ag.get 0 (hu.get 0 hE.e0);have e2:=ag.get 2 (hu.get 2 hE.e2);have e3:=ag.get 3 (hu.get 3 hE.e3);have e96:=ag.get 96 h96;have ck:=aH hF (hE.nkm hqk hE.st) gk;have hkk:(k:Int)<(x.kids:Int):=by omega
 have hk0:(0:Int)<=(k:Int):=I;have hnod:=hE.node.kids _ (aC (d:=0) hlt);rw [hz] at hnod;have hif:=hE.hif;have hi:=hE.hi;have hdr:x.kids.drop k=(zn:Int) :: x.kids.drop (k+1):=by rw [aJ 0 hlt,hz]
 have hnn:0<=gJ (aI t) (x.kids.drop (k+1)):=qI (fun z hz=>by
  have:=hE.node.kids z (List.mem_of_mem_drop hz);have:=(bJ hE.hg z.toNat I).bd;omega)
 have hbd1:(s1:Int)+(aI t).getD zn 0<=1000000:=by
  have h:=hbd;rw [hdr] at h;simp only [gJ,Int.toNat_natCast] at h;omega
 have hsaid:=hE.said zn s1 v1 w' want I I (hE.env.fr hE.st hF) hS hbd1;refine wp_seq (wp_block (rS ?_));refine lv (v:=qt bk (ok+k)) ?_ (hrun:=by simp [execOp,go_sem,e96,e98,hkk,hk0,sz];try rfl);iterate 2 refine lv ?_
 refine lE a' [0,1,2,3,8,9,96,97,98,11] 13 ?_;intro a1 u1 e13;refine u1.b3 sz e0 e2 e3 fun sz e0 e2 e3=>?_
 refine rS ?_;iterate 4 refine lv ?_
 refine lc (vs:=#[qp g.w,↑zn,want,kfn g]) Tryz.func88 hsaid ?_;rintro e w2 ⟨y,A,d,v2,rfl,hS2,hF2,hb2,hv2⟩;refine ⟨_,rfl,?_⟩;refine lv (w1:=w2.alloc (qk eR.toArray 58)) (v:=qp w2) ?_ (hrun:=by simp [execOp,go_sem];try rfl);obtain ⟨Bq,xq,nq⟩:=nw w2 58 eR.toArray;generalize w2.alloc (qk eR.toArray 58)=w3 at *;refine ls (w1:=w3.setCells w2 0 (cellsOf y A d)) ?_ (hrun:=by simp [execOp,go_sem,Bq.cell,Bq.frozen,sz];try rfl);have Bv:Blk (w3.setCells w2 0 (cellsOf y A d)) w2 58 (cellsOf y A d).toArray:=aF (cellsOf y A d) (cs:=eR) 0 Bq fs;have xv:Ext w2 (w3.setCells w2 0 (cellsOf y A d)):=((ar xq).trans ((au (fun k=>k=w2.heap.size) w3).setCells _ 0 (.inl rfl))).new_ext (fun k hk=>by omega);clear Bq xq nq;generalize w3.setCells w2 0 (cellsOf y A d)=w4 at *;refine lE a1 [0,1,2,3,8,9,96,97,98,11] 14 ?_;intro a2 u2 e14;refine u2.b1 sz e2 fun sz e2=>?_
 have uA:=(u1.mono (l':=[0,1,2,3,8,9,96,97,98,11]) rfl).trans u2;replace e98:=uA.get 98 e98;replace e11:=uA.get 11 e11;have uB:=ag.trans (uA.mono (l':=[0,1,2,3,8,9,96,97]) rfl)
 have hwk:IntKind.i64.wrap ((k:Int)+1)=((k+1:Nat):Int):=by
  have:=(cJ hE.hg hE.hi).1;rw [hE.hx] at this;rw [IntWalk.i64_in _ I];omega
 clear u1 u2 uA ag e13 e96 hsaid;refine rS ?_;refine lv ?_;refine lE a2 [0,1,2,3,8,9,96,97,98,11,14] 107 ?_;intro a3 u3 e107;refine u3.b3 sz e98 e11 e14 fun sz e98 e11 e14=>?_
 replace uB:=uB.trans (u3.mono (l':=[0,1,2,3,8,9,96,97]) rfl);clear u3
 have last:∀ (a4:Act) (w6:World) (kv':Value),Ag [0,1,2,3,8,9,96,97] aL a4->a4.tmps.size=116->qq a4 98 (k:Int)->qq a4 11 kv'->(∀ a6,Ag [0,1,2,3,8,9,96,97] aL a6->qq a6 98 (.int .i64 ((k+1:Nat):Int))->qq a6 11 kv'->FI t raw f x g v gr want w W R aL (k+1) a6 w6)->qw (R88 19) K a4 w6:=by
  intro a4 w6 kv' u4 sz e98 e11 h;refine rW ?_;iterate 2 refine lv ?_
  refine lE2 (v:=.int .i64 ((k+1:Nat):Int)) (v':=kv') a4 [0,1,2,3,8,9,96,97,11] 98 11 ?_ (he:=by simp [*]) (he':=by simp [*]);intro a6 u6 q1 q2;exact hK _ _ (h a6 (u4.trans (u6.mono rfl)) q1 q2)
 have hkids:=(cJ hE.hg hE.hi).1;rw [hE.hx] at hkids;have hs2:=hF2.size;have hs4:=xv.size;cases want with
 | false =>
  have hkn:=hN rfl;refine wp_cond_false e107 (wp_skip ?_);exact last a3 w4 kv uB sz e98 e11 (fun a6 h1 h2 h3=>Bc (kv:=kv) (xs:=xs) hE h1 h2 h3 hlt hF hb hng hB hsz hR hbd hz I I hS2 hF2 hb2 hv2 xv (au _ _) (fun q hq=>by rw [hkn] at hq;cases hq) (fun h=>by cases h) (fun h=>by cases h) hN)
 | true =>
  obtain ⟨hown,hrv,hdl,hkv⟩:=hT rfl;have v0:=Bv.cell' (u:=↑y.kind) 0 rfl;have v1':=Bv.cell' (u:=↑y.n) 1 rfl;have v2':=Bv.cell' (u:=y.s) 2 rfl;have v3':=Bv.cell' (u:=.slice A y.kids d) 3 rfl;have hown4:=(cP hown hF2 (fun q hq=>hkv q hq)).ext_ xv;refine wp_cond_true e107 (rW ?_);refine lv ?_;refine lv (v:=cN y A d) ?_ (hrun:=by simp [execOp,go_sem, *];try rfl);refine lv (w1:=w4.alloc (qk (cellsOf y A d).toArray 58)) (v:=.slice (qp w4) 1 1) ?_ (hrun:=by simp [execOp,go_sem,cellsOf, *];try rfl);have hxa:=(aq w4).alloc' (qk (cellsOf y A d).toArray 58);refine la (v:=kv) (m:=1) (c:=1) Tryz.underlying56 Tryz.info58 (hown4.alloc _) (T:=fun _=>True) (Sl.new w4 (cellsOf y A d) 58 1 4 rfl) I I bh (by simp [cellsOf,Value.oneCell']) ?_;intro v5 w5 ho5 hf5 hb5;refine lv ?_;refine lE2 (v:=↑(k:Int)) (v':=v5) a3 [0,1,2,3,8,9,96,97] 98 11 ?_ (he:=by simp [*]) (he':=by simp [*]);intro a4 u4 q1 q2;exact last a4 w5 v5 (uB.trans u4) (u4.sz.trans sz) q1 q2 (fun a6 h1 h2 h3=>Bc hE h1 h2 h3 hlt hF hb hng hB hsz hR hbd hz I I hS2 hF2 hb2 hv2 (xv.trans' hxa) hf5 (fun q hq=>⟨hown.block_ge hq,hown.block_lt hq,hkv q hq⟩) (fun _=>⟨hrv,hdl⟩) (fun _=>⟨ho5,hb5⟩) (fun h=>by cases h))
theorem Dt (hE:JE t raw s v vr g f i bn on cn gr x na want w W a0 Q R)(hu:Ag [0,1,2,3,8,9] a0 a)(e9:qq a 9 (qt bn (on+i*12)))(hl:(aI t).getD i 0 ≠ 0)(k1:x.kind ≠ 1)(k2:x.kind ≠ 2)(k4:x.kind ≠ 4):qw xg Q a W:=by
 have sz:=hu.sz.trans hE.sz;have hR:=hE.step' hl;rw [if_neg k1,if_neg k2,if_neg k4] at hR;have hkids:=(cJ hE.hg hE.hi).1;have hlb:=bJ hE.hg i hE.hi;have hbd:=hE.bd
 have hls:gJ (aI t) x.kids=(aI t).getD i 0:=by
  have h0:=hlb.leaf;have h3:=hlb.seq;rw [hE.hx] at h0 h3;have hk:=hE.node.kind;have:x.kind ≠ 0:=fun h=>hl (h0 h)
  exact (h3 I).symm
 rw [hE.hx] at hkids;have c7:=hE.nc.c7;have hn:=hE.node;refine rS ?_;refine lv ?_;refine lE a [0,1,2,3,8,9] 11 ?_;intro a1 u1 e11;refine u1.b1 sz e9 fun sz e9=>?_
 replace hu:=hu.trans (u1.mono rfl);refine wp_seq (rS ?_);iterate 6 refine lv ?_
 refine k9 (v:=.slice na.kA x.kids na.kc) (v':=.int .i64 (x.kids:Int)) (v2:=.int .i64 ((0:Nat):Int)) a1 [0,1,2,3,8,9,11] 96 97 98 ?_;intro a2 u2 e96 e97 e98;have hu2:=hu.trans (u2.mono (l':=[0,1,2,3,8,9]) rfl);replace e9:=u2.get 9 e9;replace e11:=u2.get 11 e11;have sz2:=u2.sz.trans sz;clear sz u1 u2 c7;refine wp_block (wp_loop (fun a' w'=>∃ k,FI t raw f x g v gr want w W R a2 k a' w') (fun a' _=>x.kids.length - (intOf (Ev a' (.tmp 98))).toNat) ⟨0,s,v,↑qn,[],[],.rf,e98,e11,af _,hE.st,au _ _,.inl rfl,qD hE (W':=W) (.inl rfl) hE.res.lt,hE.res,ab _,hR,by rw [List.drop_zero,hls];exact hbd,fun _=>⟨aT _ _ _ _,j6,rfl,fun q hq=>by cases hq⟩,fun _=>rfl⟩ ?_);rintro a3 w3 ⟨k,hI⟩;have hI0:=hI;obtain ⟨s1,v1,kv,done,xs,ag,e98',e11',hk,-⟩:=hI0;have sz3:=ag.sz.trans sz2;have f97:=ag.get 97 e97;refine rS ?_;refine lv ?_;refine lE a3 [0,1,2,3,8,9,96,97,98,11] 99 ?_;intro a4 u4 e99
 have hI4:FI t raw f x g v gr want w W R a2 k a4 w3:=by
  obtain ⟨s1,v1,kv,done,xs,ag,e98',e11',hk,hrest⟩:=hI;exact ⟨s1,v1,kv,done,xs,ag.trans (u4.mono rfl),u4.get 98 e98',u4.get 11 e11',hk,hrest⟩
 by_cases hlt:k<x.kids
 ·obtain ⟨bk,ok,hK,hqk,-,gk⟩:=hE.nd.kids.get hlt
  have hzz:=hn.kids _ (aC (d:=0) hlt);obtain ⟨zn,hzn⟩:∃ zn:Nat,x.kids.getD k 0=(zn:Int):=⟨(x.kids.getD k 0).toNat,I⟩;rw [hzn] at gk;rw [hK] at e96;refine wp_seq (wp_cond_true (e99.trans ff) (wp_skip (EA hE hu2 e96 hqk hI4 hlt gk hzn (fun a6 w6 h=>⟨⟨k+1,h⟩,?_⟩))));obtain ⟨-,-,-,-,-,-,e,-⟩:=h;rw [e,e98'];simp only [intOf];omega
 ·refine wp_seq (wp_cond_false (e99.trans ff) (wp_exit ?_))
  obtain rfl:k=x.kids:=I;exact Fp hE hu2 e9 hI4
end
noncomputable abbrev c88:Code:=.seq (R88 0) (.seq (.seq (R88 1) (.cond (.tmp 22) (.seq (R88 2) .ret) .skip)) (.seq (R88 3) (.seq (.seq (R88 4) (.block 0 (.seq (R88 5) (.cond (.tmp 43) (.seq (R88 6) .ret) (.seq (R88 7) (.cond (.tmp 54) (.seq (R88 8) .ret) (.seq (R88 9) (.cond (.tmp 69) (.seq (R88 10) (.seq (R88 11) .ret)) .skip)))))))) xg)))
theorem b88:Tryz.f88.body=some c88:=av
theorem DG {t:List GN}{raw:List Int}{vn vr:Value}{g:KA}{f:Nat}(hg:aO t t)(ih:wU t raw vn vr g f):wU t raw vn vr g (f+1):=by
 intro i s v w want hif hi hE hS hbd;obtain ⟨An,cn,rfl,-,-⟩:=hE.walk.nodes.form;obtain ⟨bn,on,na,rfl,-,hxx,hnn⟩:=hE.walk.nodes.get hi;obtain ⟨x,hx⟩:∃ x,x=t.getD i default:=⟨_,rfl⟩;rw [<- hx] at hxx hnn;have HX:=aYf hx;clear hx;refine gD Tryz.func88 b88 rfl U (fun a Q sz df ea hQ=>?_);have e0:=ea 0 (qp g.w) rfl;have e1:=ea 1 (↑i) rfl;have e2:=ea 2 want rfl;have e3:=ea 3 (kfn g) rfl;clear ea;replace sz:a.tmps.size=116:=sz;have hszw:=hE.sz;refine rS ?_;refine lv (w1:=w.alloc (qk eR.toArray 58)) (v:=qp w) ?_ (hrun:=by simp [execOp,go_sem];try rfl);obtain ⟨Bq,xq,nq⟩:=nw w 58 eR.toArray;generalize w.alloc (qk eR.toArray 58)=W at *;refine lE a [0,1,2,3] 8 ?_;intro a1 u1 e8;refine u1.c4 sz df e0 e1 e2 e3 fun sz df e0 e1 e2 e3=>?_
 have hEW:=hE.ext xq;have mkJ:∀ (a0:Act) (K:Exit->Act->World->Prop),(∀ a' w',Q .ret a' w'->K .ret a' w')->Ag [0,1,2,3,8] a1 a0->JE t raw s v vr g f i bn on cn w x na want w W a0 K (ftR t raw (f+1) i s):=fun a0 K hK u=>⟨u.sz.trans sz,u.df.trans df,u.get 0 e0,u.get 1 e1,u.get 2 e2,u.get 3 e3,u.get 8 e8,Bq,xq,rfl,hEW,hS.ext xq,hS,hszw,hxx.ext xq,hnn.ext xq,ih,hif,hi,HX.out.symm,hg,hbd,rfl,fun a' w' y A c v' d hr h1 h2 h3 h4=>hK _ _ (hQ a' w' _ d hr ⟨y,A,c,v',rfl,h1,h2,h3,h4⟩)⟩
 have hJ:=mkJ a1 Q (fun _ _ h=>h) .rf;have hbx:=hEW.walk.box;have w0:=hbx.cell' (u:=qp g.s) 0 rfl;have w1:=hbx.cell' (u:=.slice (qp g.l) t t) 1 rfl;have w2:=hbx.cell' (u:=.slice (qp g.f) t t) 2 rfl;have ws:=hEW.walk.sets;have wl:qc W g.l i (.int .i64 ((aI t).getD i 0)):=hEW.walk.lens.cell' i (iE (by rw [mK];exact hi));have hfl:(oM t).length=t:=by rw [<- pE,vX (ab _)]
 have i0:(0:Int)<=(i:Int):=I;have i1:(i:Int)<(t:Int):=I;clear u1 hE hS;obtain ⟨L,hL⟩:∃ L,L=(aI t).getD i 0:=⟨_,rfl⟩;rw [<- hL] at wl;have HL:=aYf hL;have HJ:=aYf hJ;have HM:=aYf mkJ;have HW:=aYf hEW;clear hL hbd hJ mkJ hEW hxx hnn ih;refine wp_seq (rS ?_);by_cases hl:L=0
 ·iterate 8 refine lv ?_
  refine lE (v:=true) a1 [0,1,2,3,8] 22 ?_ (he:=by simp [*]);intro a2 u2 e22;refine u2.b3 sz e0 e1 e8 fun sz e0 e1 e8=>?_
  obtain ⟨bf,of,cf,Af,df',ef,hPf,-,-,hvf,f0,f1,f2,f3⟩:=HW.out.walk.fixed.at_ (i:=i) (by rw [hfl];exact hi);injection ef with ef ef2 ef3;clear ef2 ef3 hfl
  cases ef;rw [Nat.zero_add] at f0 f1 f2 f3
  have hR:=aYf (show ftR t raw (f+1) i s=((oM t).getD i default,s) by
   simp only [ftR,Int.toNat_natCast];unfold ftS;rw [Int.toNat_natCast,if_pos (HL.out.symm.trans hl)])
  have hJ:=HJ.out;have hst:=hJ.st;have hnk:=aYf (show ∀ q,q<g.base->¬ KM g v q from fun q hq=>hJ.nkm hq hst);have hB:=hJ.res;have hh:=hJ.env.hh;have hng:=qD hJ (W':=W) (.inl rfl) hB.lt;have HN:=aYf hng;have HH:=aYf hh;clear hJ;have HS:=aYf hst;have HV:=aYf hvf;clear hst hvf;refine wp_cond_true e22 (rS ?_);generalize (oM t).getD i default=y at *;clear hng hh hPf;have HF:=aYf (And.intro f0 (And.intro f1 (And.intro f2 f3)));clear f0 f1 f2 f3;iterate 4 refine lv ?_
  refine lv ?_;refine lv (v:=qt g.f (i*4)) ?_ (hrun:=by simp [execOp,go_sem, *];try rfl);obtain ⟨f0,f1,f2,f3⟩:=HF.out;refine lv (v:=cN y Af df') ?_ (hrun:=by simp [execOp,go_sem, *];try rfl);refine ls (w1:=W.setCells w 0 (cellsOf y Af df')) ?_ (hrun:=by simp [execOp,go_sem,hB.cell,hB.frozen,e8,sz];try rfl);refine lN a2 [8] ?_;intro a6 u6;exact wp_ret (vY HJ.out ((u2.mono rfl).trans u6) hB rfl (by rw [hR.out];exact HS.out) (ar xq) (.inl rfl) HN.out (fun _=>⟨by rw [hR.out],HV.out.carry (fun _ _ _=>rfl) (fun q _ h=>⟨⟨.inl h,hnk.out q h⟩,by have:=HH.out;omega⟩)⟩))
 ·iterate 8 refine lv ?_
  refine lE (v:=false) a1 [0,1,2,3,8] 22 ?_ (he:=by simp [*]);intro a2 u2 e22;refine u2.b2 sz e0 e1 fun sz e0 e1=>?_
  refine wp_cond_false e22 (wp_skip (rS ?_));iterate 10 refine lv ?_
  refine lE (v:=qt bn (on+i*12)) a2 [0,1,2,3,8] 9 ?_ (he:=by simp [*]);intro a3 u3 e9;replace sz:=u3.sz.trans sz;have c0:=HJ.out.nc.c0;have uu:=u2.trans u3;clear u2 u3 e22;refine wp_seq (rS ?_);iterate 4 refine lv ?_
  refine lE a3 [0,1,2,3,8,9] 42 ?_;intro a4 u4 e42;replace sz:=u4.sz.trans sz;clear e0 e1 e2 e3 e8 w0 w1 w2 ws wl hbx df HW;have uu2:=uu.trans (u4.mono rfl);have E9:=u4.get 9 e9;have HN:=HL.out ▸ hl;refine wp_block (rS ?_);iterate 2 refine lv ?_
  refine lE a4 [0,1,2,3,8,9,42] 43 ?_;intro a5 u5 e43;refine u5.b1 sz e42 fun sz e42=>?_
  by_cases k1:x.kind=1
  ·refine wp_cond_true (e43.trans ir) ?_
   exact Df (HM.out a5 _ (fun _ _ h=>h) (uu2.trans (u5.mono rfl))) .rf (u5.get 9 E9) HN k1
  ·refine wp_cond_false (e43.trans ir) (rS ?_)
   iterate 2 refine lv ?_
   refine lE a5 [0,1,2,3,8,9,42] 54 ?_;intro a6 u6 e54;refine u6.b1 sz e42 fun sz e42=>?_
   by_cases k2:x.kind=2
   ·refine wp_cond_true (e54.trans (by simp [k2])) ?_
    exact Gl (HM.out a6 _ (fun _ _ h=>h) ((uu2.trans (u5.mono rfl)).trans (u6.mono rfl))) .rf (u6.get 9 (u5.get 9 E9)) HN k2
   ·refine wp_cond_false (e54.trans (by simp [k2])) (rS ?_)
    iterate 2 refine lv ?_
    refine lE a6 [0,1,2,3,8,9] 69 ?_;intro a7 u7 e69;by_cases k4:x.kind=4
    ·refine wp_cond_true (e69.trans jf) ?_
     exact Ku (HM.out a7 _ (fun _ _ h=>h) (((uu2.trans (u5.mono rfl)).trans (u6.mono rfl)).trans (u7.mono rfl))) .rf (u7.get 9 (u6.get 9 (u5.get 9 E9))) HN k4
    ·refine wp_cond_false (e69.trans jf) (wp_skip ?_)
     exact Dt (HM.out a7 _ (fun _ _ h=>h) (((uu2.trans (u5.mono rfl)).trans (u6.mono rfl)).trans (u7.mono rfl))) .rf (u7.get 9 (u6.get 9 (u5.get 9 E9))) HN k1 k2 k4
theorem tI {t:List GN}{raw:List Int}{vn vr:Value}{g:KA}(hg:aO t t):∀ f,wU t raw vn vr g f
 | 0=>fun i s v w want h=>absurd h (Nat.not_lt_zero _)
 | f+1=>DG hg (tI hg f)
def Sm (s:List Int):Prop:=∀ c ∈ s,0<=c∧c<=1099511627776
theorem Sm.add {s:List Int}{c:Int}(h:Sm s)(hc:0<=c∧c<=1099511627776):Sm (s ++ [c]):=fun d hd=>by
 rcases ap.1 hd with h1 | h1
 ·exact h d h1
 ·rw [List.mem_singleton.1 h1];exact hc
theorem sq {r:Int->List Int->GV × List Int}{name:ByteArray}(h:∀ i s,Sm s->Sm (r i s).2):∀ (zs:List Int)(s:List Int)(acc:List GV),Sm s->Sm (ftP r name s acc zs).2
 | [],s,acc,hs=>hs
 | z :: zs,s,acc,hs=>sq h zs _ _ (h z s hs)
theorem yt {t:List GN}(hg:aO t t)(raw:List Int):∀ (f:Nat)(i:Int)(s:List Int),Sm s->Sm (ftR t raw f i s).2
 | 0,i,s,h=>h
 | f+1,i,s,h=>by
  have ih:=yt hg raw f;simp only [ftR];unfold ftS;by_cases hl:(aI t).getD i.toNat 0=0
  ·rw [if_pos hl];exact h
  rw [if_neg hl]
  have hlt:i.toNat<t:=by
   by_cases hq:i.toNat<t
   ·exact hq
   ·exact absurd (qO (by rw [mK];omega)) hl
  have hn:=(hg.at_ hlt).node;have hopt:=dA hn;have hnum:=aZ hn.numbers;have hch:=hn.choice;generalize t.getD i.toNat default=x at *
  have hc:x.kind=1∨x.kind=2->0<=ftC raw x s∧ftC raw x s<=1099511627776:=fun hk=>by
   have hob:1<=aP x∧aP x<=1099511627777:=by
    rw [hopt];split
    ·rename_i k1;omega
    ·have:=hch I;omega
   have:=tH (raw:=raw) (s:=s) (x:=x) hob.1;omega
  by_cases k1:x.kind=1
  ·rw [if_pos k1];exact h.add (hc (.inl k1))
  rw [if_neg k1];by_cases k2:x.kind=2
  ·rw [if_pos k2];exact ih _ _ (h.add (hc (.inr k2)))
  rw [if_neg k2];by_cases k4:x.kind=4
  ·rw [if_pos k4];exact ih _ _ (ih _ _ h)
  rw [if_neg k4];exact sq ih _ _ _ h
theorem Br {t:List GN}(hg:aO t t)(raw:List Int)(y:Int):Sm (oB t y raw):=yt hg raw _ _ _ (fun c h=>by cases h)
def zg (l:List Int)(w:World)(e:Ending)(w':World):Prop:=∃ v,e=.returned v∧bL w' (fun q=>w.heap.size<=q) v l∧w'.ownsRow w 3 1 v l (l.map (Value.int .i64))∧Ext w w'
noncomputable def R97:=RG Tryz.f97
noncomputable abbrev c97:Code:=.seq (R97 0) (.seq (R97 1) (.seq (R97 2) (.seq (R97 3) .ret)))
theorem b97:Tryz.f97.body=some c97:=av
theorem ww {t:List GN}{raw:List Int}{vn vr:Value}{gw gs gl gf:Nat}{P R:Nat->Prop}{w:World}{y:Nat}(hg:aO t t)(hy:y<t)(hP:∀ b,P b->b<w)(hR:∀ b,R b->b<w)(hW:dY t vn gw gs gl gf P w)(hr:bL w R vr raw) :
  qg 97 #[qp gw,↑y,vr] w (zg (oB t y raw) w):=by
 obtain ⟨Ar,cr,rfl,-,-⟩:=hr.form;refine gD Tryz.func97 b97 rfl U (fun a Q sz df ea hQ=>?_);have e0:=ea 0 (qp gw) rfl;have e1:=ea 1 (↑y) rfl;have e2:=ea 2 (.slice Ar raw cr) rfl;clear ea;replace sz:a.tmps.size=13:=sz;refine rS ?_;refine lv (w1:=w.alloc (qk #[qp gw] 76)) (v:=qp w) ?_ (hrun:=by simp [execOp,go_sem, *];try rfl);obtain ⟨B1,x1,n1⟩:=nw w 76 #[qp gw];generalize w.alloc (qk #[qp gw] 76)=w1 at *;refine lv (w1:=w1.alloc (qk #[(.slice Ar raw cr)] 22)) (v:=qp w1) ?_ (hrun:=by simp [execOp,go_sem, *];try rfl);obtain ⟨B2,x2,n2⟩:=nw w1 22 #[(.slice Ar raw cr)];generalize w1.alloc (qk #[(.slice Ar raw cr)] 22)=w2 at *;refine lv ?_;refine lE2 (v:=qp w) (v':=qp w1) a [1] 3 5 ?_ (he:=by simp [*]) (he':=by simp [*]);intro a1 u1 e3 e5;replace sz:=u1.sz.trans sz;replace e1:=u1.get 1 e1;replace df:=u1.df.trans df;refine rS ?_;refine lv (w1:=w2.alloc (qk #[qn] 22)) (v:=qp w2) ?_ (hrun:=by simp [execOp,go_sem];try rfl);obtain ⟨B3,x3,n3⟩:=nw w2 22 #[qn];generalize w2.alloc (qk #[qn] 22)=w3 at *;refine lE a1 [1,3,5] 7 ?_;intro a2 u2 e7;replace sz:=u2.sz.trans sz;replace e1:=u2.get 1 e1;replace e3:=u2.get 3 e3;replace e5:=u2.get 5 e5;replace df:=u2.df.trans df;have c1:=(B1.ext (x2.trans' x3)).cell' (u:=qp gw) 0 rfl;have c2:=(B2.ext x3).cell' (u:=(.slice Ar raw cr)) 0 rfl;have hxx:=x1.trans' (x2.trans' x3)
 let g:KA:=⟨gw,gs,gl,gf,w2.heap.size,w1.heap.size,w.heap.size,w.heap.size,w3.heap.size⟩
 have hE:kt t raw vn (.slice Ar raw cr) g w3:=⟨(hW.carry (Q:=fun q=>q<w.heap.size) (fun _ _ _=>rfl) (fun b hb _=>hb)).carry (aB.of_ext hxx) (fun _ _ h=>h),c2,c1,(hr.carry (Q:=fun q=>q<w.heap.size) (fun _ _ _=>rfl) (fun b hb _=>hb)).carry (aB.of_ext hxx) (fun _ _ h=>h),by show w.heap.size<=w2;omega,by show w1.heap.size ≠ w2;omega,by show w.heap.size ≠ w2;omega,by show w1.heap.size<w3;omega,by show w.heap.size<w3;omega,n3,by show w.heap.size<=w3;omega,ab _⟩;have hS:KSt g [] qn w3:=⟨B3,aT _ _ _ _⟩;have hlb:=(bJ hg y hy).bd;have hcall:=tI hg t y [] qn w3 false hy hy hE hS (by simp only [List.length_nil];omega);have hkf:kfn g=.func (.func 118) #[] #[qp w2,qp w1,qp w]:=rfl;have hlen:=kO hg (y:=y) I I raw;rw [Int.toNat_natCast] at hlen;have hsm:=Br hg raw y;refine rS ?_;iterate 3 refine lv ?_
 refine lc (vs:=#[qp gw,↑y,false,kfn g]) Tryz.func88 hcall ?_ (hv:=by simp [*]);rintro e w4 ⟨z,A,d,v4,rfl,hS4,hF4,hb4,-⟩;refine ⟨_,rfl,?_⟩;refine lN a2 [7] ?_;intro a3 u3;replace sz:=u3.sz.trans sz;replace e7:=u3.get 7 e7;replace df:=u3.df.trans df;have c4:=hS4.box.cell' (u:=v4) 0 rfl;have hR4:=hS4.row;change w4.cell? (qp w2)=some v4 at c4;refine rS ?_;iterate 2 refine lv ?_
 refine lE (v:=v4) a3 [] 6 ?_ (he:=by simp [*]);intro a4 u4 e6
 have hx:Ext w w4:=((ar hxx).trans hF4).new_ext (fun q hq=>by
  rcases hq with h | h
  ·have:q=w2.heap.size:=h
   omega
  ·exact absurd h dr)
 have hro:w4.ownsRow w 3 1 v4 (oB t y raw) ((oB t y raw).map (Value.int .i64)):=by
  exact World.ownsRow.base_le hR4 (show w.heap.size<=w3 by omega)
 refine wp_ret (hQ _ _ v4 (u4.df.trans df) (by simp [results,Tryz.results97,go_sem,evT e6]) ⟨v4,rfl,bL.of_own hro (fun c hc=>by have:=hsm c hc;unfold I64;omega) I (fun b hb=>hro.block_ge hb),hro,hx⟩)
theorem nj {f n:Nat}{fn:Func}{c:Code}{args:Array Value}{w:World}{R:Ending->World->Prop}(hf:Tryz.prog.funcs[f]?=some fn)(hb:fn.body=some c)(hn:fn.ntmps=n)(hs:args.size<=n)
  (h:∀ (a:Act)(Q:Exit->Act->World->Prop),a.tmps.size=n->a.defers=[]->(∀ i v,args[i]?=some v->qq a i v)->(∀ (a':Act)(w':World)(v:Value),a'.defers=[]->(results fn a'.tmps).run Tryz.prog w'=.ok v w'->R (.returned v) w'->Q .ret a' w'∧Q .normal a' w')->qw c Q a w):qg f args w R:=by
 refine calls_of_wp hf hb (h _ _ ?_ rfl ?_ (fun a' w' v hd hr hR=>⟨bodyPost_ret hr hd hR,bodyPost_end hr hd hR⟩))
 ·simp [hn];omega
 ·intro i v hv
  obtain ⟨hi,rfl⟩:=Array.getElem?_eq_some_iff.1 hv;simp [Ev,Act.eval,Array.getElem?_append,hi]
structure CK where
 wa:Nat
 wb:Nat
 c:Nat
 n:Nat
 e:Nat
 base:Nat
 hi:Nat
def kw (g:CK):Value:=.func (.func 65) #[] #[qp g.n,qp g.e]
def CM (g:CK)(pv nv:Value):Nat->Prop:=fun q=>q=g.c∨q=g.n∨some q=pv.ownBlock∨some q=nv.ownBlock
structure CSt (g:CK)(p:List Int)(pv:Value)(m:Nat)(nv:Value)(w:World):Prop where
 box:Blk w g.c 127 #[qp g.wa,qp g.wb,pv,kw g]
 nbox:Blk w g.n 41 #[nv]
 ebox:qc w g.e 0 (qp g.c)
 row:w.ownsRow g.hi 3 1 pv p (p.map (Value.int .i64))
 nrow:∃ xs,w.ownsRow g.hi 129 3 nv m xs
 two:∀ q,pv.ownBlock=some q->nv.ownBlock ≠ some q
 cn:g.c ≠ g.n
 ce:g.c ≠ g.e
 ne:g.n ≠ g.e
 bc:g.base<=g.c
 bn:g.base<=g.n
 hc:g.c<g.hi
 hn:g.n<g.hi
 he:g.e<g.hi
 hh:g.base<=g.hi
 sz:g.hi<=w
theorem CSt.ext {g:CK}{p:List Int}{pv nv:Value}{m:Nat}{w w':World}(h:CSt g p pv m nv w)(hx:Ext w w'):CSt g p pv m nv w' :=
 ⟨h.box.ext hx,h.nbox.ext hx,aA hx h.ebox,h.row.ext_ hx,h.nrow.imp fun _ h=>h.ext_ hx,h.two,h.cn,h.ce,h.ne,h.bc,h.bn,h.hc,h.hn,h.he,h.hh,ae h.sz hx.size⟩
theorem G5:(Tryz.prog.info? 129).map (fun i=>(i.zero,i.size,i.bytes))=some (some (.agg #[qz,qz,qz]),3,24):=av
theorem KS:Tryz.prog.underlying 41=some (.slice 129):=av
noncomputable def R65:=RG Tryz.f65
theorem b65:Tryz.f65.body=some (R65 0):=av
theorem CC {g:CK}{p:List Int}{pv nv:Value}{m:Nat}{w:World}{k1 k2:Int}(h:CSt g p pv m nv w)(hm:m<=1000000)(hp:p.length<=1000000) :
  Calls Tryz.prog 65 #[↑k1,↑k2,qp g.n,qp g.e] w fun e w'=>∃ v nv',e=.returned v∧CSt g p pv (m+1) nv' w'∧Fr (CM g pv nv) w w'∧fQ w nv nv':=by
 refine nj Tryz.func65 b65 rfl U (fun a Q sz df ea hQ=>?_);have e0:=ea 0 (↑k1) rfl;have e1:=ea 1 (↑k2) rfl;have e2:=ea 2 (qp g.n) rfl;have e3:=ea 3 (qp g.e) rfl;clear ea;replace sz:a.tmps.size=17:=sz;obtain ⟨xs,hnr⟩:=h.nrow;obtain ⟨Ap,cp,rfl,-,-,-⟩:=Sl.of_own h.row;obtain ⟨An,cn,rfl,-,-,-⟩:=Sl.of_own hnr;have c0:=h.nbox.cell' (u:=.slice An m cn) 0 rfl;have c1:=h.ebox;have c2:=h.box.cell' (u:=.slice Ap p cp) 2 rfl;have hx0:Ext w w.drew:=(aq w).drew';refine rD (fun V=>qc V g.n 0 (.slice An m cn)∧qc V g.e 0 (qp g.c)∧qc V g.c 2 (.slice Ap p cp)) (fun q=>q != 11) 12 ?_;have h0:=h.ext hx0;generalize w.drew=V0 at *;have hS0:∀ V,Ext V0 V->qc V g.n 0 (.slice An m cn)∧qc V g.e 0 (qp g.c)∧qc V g.c 2 (.slice Ap p cp):=fun V hx=>⟨aA (hx0.trans' hx) c0,aA (hx0.trans' hx) c1,aA (hx0.trans' hx) c2⟩
 refine dt 3 [0,1,2,3,4,5,6,7,8] (hS:=hS0 V0 (aq V0)) ?_;iterate 9 refine tv ?_
 refine t_e ?_;have hxa:=(aq V0).alloc' (qk #[p.length,↑k1,↑k2] 129);have hszh:=h.sz;have hhn:=h.hn;have hhc:=h.hc;have hhe:=h.he;have hs0:=hx0.size;refine dv 9 (w1:=V0.alloc (qk #[p.length,↑k1,↑k2] 129)) (v:=.slice (qp V0) 1 1) ?_ (hS:=fun _=>hS0 _ hxa) (hrun:=by simp [execOp,go_sem, *];try rfl);refine da (v:=.slice An m cn) (m:=1) (c:=1) 10 KS G5 ((hnr.ext_ hx0).alloc _) (T:=fun _=>True) (Sl.new V0 [p.length,.int .i64 k1,.int .i64 k2] 129 1 3 rfl) I I bh ci ?_;intro v5 w5 ho5 hf5 hb5;have hge:∀ q,some q=(Value.slice An m cn).ownBlock->g.hi<=q:=fun q hq=>hnr.block_ge hq.symm
 have h1:=h0.ext hxa
 have hS5:qc w5 g.n 0 (.slice An m cn)∧qc w5 g.e 0 (qp g.c)∧qc w5 g.c 2 (.slice Ap p cp):=by
  obtain ⟨r0,r1,r2⟩:=hS0 _ hxa;exact ⟨aH hf5 (fun hq=>by have:=hge _ hq;omega) r0,aH hf5 (fun hq=>by have:=hge _ hq;omega) r1,aH hf5 (fun hq=>by have:=hge _ hq;omega) r2⟩
 refine ⟨fun _=>hS5,?_⟩;have B5:=h1.nbox.fr hf5 (fun hq=>by have:=hge _ hq;omega);have bf:=B5.frozen 0;clear h0 h1;obtain ⟨A5,c5,rfl,-,-,-⟩:=Sl.of_own ho5;refine dq 11 (w1:=w5.setCell (qp g.n) (.slice A5 (m+1) c5)) ?_ (hrun:=by simp [execOp,go_sem, *];try rfl);refine d_E a [] ?_;intro a6 u6;have h1:=h.ext (hx0.trans' hxa);have hsa:=hxa.size;have hs5:=hf5.size;have hf6:Fr (fun q=>q=g.n) w5 (w5.setCell (qp g.n) (.slice A5 (m+1) c5)):=(au (fun q=>q=g.n) w5).setCell (p:=qp g.n) (.inl rfl) (.slice A5 (m+1) c5);have hs6:=hf6.size;refine And.right (hQ a6 _ (.tuple #[]) (u6.df.trans df) (by simp [results,Tryz.results65,go_sem]) ⟨_,.slice A5 (m+1) c5,rfl,⟨(h1.box.fr hf5 (fun hq=>by have:=hge _ hq;omega)).fr hf6 h.cn,by simpa using B5.set_ 0 (.slice A5 (m+1) c5),aH hf6 (fun e=>h.ne e.symm) hS5.2.1,cP (cP h1.row hf5 (fun q hq e=>h.two q hq e.symm)) hf6 (fun q hq e=>by have:=h1.row.block_ge hq;omega),⟨_,cP ho5 hf6 (fun q hq e=>by have:=ho5.block_ge hq;omega)⟩,fun q hq e=>?_,h.cn,h.ce,h.ne,h.bc,h.bn,h.hc,h.hn,h.he,h.hh,I⟩,?_,?_⟩)
 ·have hlt:=h1.row.block_lt hq
  rcases hb5 with e5 | e5
  ·exact h.two q hq (e5.symm.trans e)
  ·rw [e5] at e;cases e;omega
 ·exact ((ar (hx0.trans' hxa)).trans (hf5.mono fun q hq=>.inr (.inr (.inr hq)))).trans (hf6.mono fun q hq=>.inr (.inl hq))
 ·rcases hb5 with e5 | e5
  ·exact .inl e5
  ·exact .inr ⟨_,e5,I⟩
def nC (g:CK)(r:List Int × Nat)(p:List Int)(pv:Value)(m:Nat)(nv:Value)(w:World)(e:Ending)(w':World):Prop :=
 ∃ v pv' nv',e=.returned v∧CSt g (p ++ r.1) pv' (m+r.2) nv' w'∧Fr (CM g pv nv) w w'∧fQ w pv pv'∧fQ w nv nv'
noncomputable def R95:=RG Tryz.f95
theorem b95:Tryz.f95.body=some (R95 0):=av
theorem Bi {g:CK}{b:List GN}{vb:Value}{sb lb fb y:Nat}{p:List Int}{pv nv:Value}{m:Nat}{w:World}(hg:aO b b)(hy:y<b)(hW:dY b vb g.wb sb lb fb (fun q=>q<g.base) w)(h:CSt g p pv m nv w)(hp:(p:Int)+(aI b).getD y 0<=1000000) :
  qg 95 #[qp g.c,↑y] w (nC g (oB b y [],0) p pv m nv w):=by
 refine nj Tryz.func95 b95 rfl U (fun a Q sz df ea hQ=>?_);have e0:=ea 0 (qp g.c) rfl;have e1:=ea 1 (↑y) rfl;clear ea;replace sz:a.tmps.size=18:=sz;obtain ⟨xs,hnr⟩:=h.nrow;obtain ⟨Ap,cp,rfl,-,-,-⟩:=Sl.of_own h.row;have c1:=h.box.cell' (u:=qp g.wb) 1 rfl;have c2:=h.box.cell' (u:=.slice Ap p cp) 2 rfl;have hx0:Ext w w.drew:=(aq w).drew';refine rD (fun V=>qc V g.c 1 (qp g.wb)∧qc V g.c 2 (.slice Ap p cp)) (fun q=>q != 14) 15 ?_;generalize w.drew=V0 at *;have hS0:∀ V,Ext V0 V->qc V g.c 1 (qp g.wb)∧qc V g.c 2 (.slice Ap p cp):=fun V hx=>⟨aA (hx0.trans' hx) c1,aA (hx0.trans' hx) c2⟩
 have hsz:=h.sz;have hhh:=h.hh;have hs0:=hx0.size;have hcall:=ww (raw:=[]) (R:=fun _=>False) hg hy (fun q hq=>by omega) (fun _ h=>h.elim) (hW.carry (aB.of_ext hx0) (fun _ _ h=>h)) (show bL V0 (fun _=>False) qn [] from ⟨none,0,rfl,ab _,⟨U,I⟩,U,U,fun h=>absurd h U⟩);have hlen:=kO hg (y:=y) I I [];rw [Int.toNat_natCast] at hlen;refine dt 5 [0,1,2,3,4,5,6,7,8,9] (hS:=hS0 V0 (aq V0)) ?_;iterate 10 refine tv ?_
 refine t_e ?_;refine dc (vs:=#[qp g.wb,↑y,qn]) 10 Tryz.func97 hcall ?_;rintro e w3 ⟨v3,rfl,-,hro3,hx3⟩;refine ⟨_,rfl,fun _=>hS0 _ hx3,?_⟩;obtain ⟨A3,c3,rfl,-,-,-⟩:=Sl.of_own hro3;have hx:=hx0.trans' hx3;have h3:=h.ext hx;have hs3:=hx.size;refine da (v:=.slice Ap p cp) (m:=(oB b y []).length) (c:=c3) 11 Tryz.underlying22 Tryz.info3 h3.row (T:=fun _=>True) (m9 hro3) I I I im ?_;intro v5 w5 ho5 hf5 hb5;have hge:∀ q,some q=(Value.slice Ap p cp).ownBlock->g.hi<=q:=fun q hq=>h3.row.block_ge hq.symm
 have hhc:=h.hc;have hhn:=h.hn;have hhe:=h.he
 have hS5:qc w5 g.c 1 (qp g.wb)∧qc w5 g.c 2 (.slice Ap p cp):=by
  obtain ⟨r0,r1⟩:=hS0 _ hx3;exact ⟨aH hf5 (fun hq=>by have:=hge _ hq;omega) r0,aH hf5 (fun hq=>by have:=hge _ hq;omega) r1⟩
 refine ⟨fun _=>hS5,?_⟩;have B5:=h3.box.fr hf5 (fun hq=>by have:=hge _ hq;omega);have bf:=B5.frozen 2;obtain ⟨A5,c5,rfl,-,-,-⟩:=Sl.of_own ho5;have H3:=aYf h3;have HH:=aYf h;clear h3 h;refine dv 12 ?_ (hS:=fun _=>hS5);refine dv 13 ?_ (hS:=fun _=>hS5);refine dq 14 (w1:=w5.setCell (qt g.c 2) (.slice A5 (p.length+(oB b y [])) c5)) ?_ (hrun:=by simp [execOp,go_sem, *];try rfl);refine d_E a [] ?_;intro a6 u6;have h3:=H3.out;have h:=HH.out;have hs5:=hf5.size;have hf6:Fr (fun q=>q=g.c) w5 (w5.setCell (qt g.c 2) (.slice A5 (p.length+(oB b y [])) c5)):=(au (fun q=>q=g.c) w5).setCell (p:=qt g.c 2) (.inl rfl) _;have hs6:=hf6.size;obtain ⟨ys,hnr3⟩:=h3.nrow;refine And.right (hQ a6 _ (.tuple #[]) (u6.df.trans df) (by simp [results,Tryz.results95,go_sem]) ⟨_,.slice A5 (p.length+(oB b y [])) c5,nv,rfl,⟨by simpa using B5.set_ 2 (.slice A5 (p.length+(oB b y [])) c5),(h3.nbox.fr hf5 (fun hq=>by have:=hge _ hq;omega)).fr hf6 (fun e=>h.cn e.symm),aH hf6 (fun e=>h.ce e.symm) (aH hf5 (fun hq=>by have:=hge _ hq;omega) h3.ebox),(cP ho5 hf6 (fun q hq e=>by have:=ho5.block_ge hq;omega)).len_cast U U,⟨ys,cP (cP hnr3 hf5 (fun q hq e=>h.two q e.symm hq)) hf6 (fun q hq e=>by have:=hnr3.block_ge hq;omega)⟩,fun q hq e=>?_,h.cn,h.ce,h.ne,h.bc,h.bn,h.hc,h.hn,h.he,h.hh,I⟩,?_,?_,.inl rfl⟩)
 ·have hlt:=hnr3.block_lt e
  rcases hb5 with e5 | e5
  ·exact h.two q (e5.symm.trans hq) e
  ·rw [e5] at hq;cases hq;omega
 ·exact ((ar hx).trans (hf5.mono fun q hq=>.inr (.inr (.inl hq)))).trans (hf6.mono fun q hq=>.inl hq)
 ·rcases hb5 with e5 | e5
  ·exact .inl e5
  ·exact .inr ⟨_,e5,I⟩
theorem uE {P:Program}{w w':World}{n:String}{cs:Array Value}(h:w.var? P n=some cs)(hk:∀ b,b<w.heap.size->w'.heap[b]?=w.heap[b]?):w'.var? P n=some cs:=by
 unfold World.var? at h ⊢;cases hg:P.globalNamed n with
 | none=>rw [hg] at h;cases h
 | some g =>
  rw [hg] at h;simp only [aj] at h ⊢
  have hlt:g<w:=by
   refine Nat.lt_of_not_le fun hl=>?_
   rw [Array.getElem?_eq_none hl] at h;cases h
  rw [hk g hlt];exact h
theorem sP.keep {w w':World}(h:sP w)(hk:∀ b,b<w.heap.size->w'.heap[b]?=w.heap[b]?):sP w':=⟨uE h.tab hk,let ⟨a,b,c⟩:=h.sx;⟨a,b,uE c hk⟩,let ⟨a,b,c⟩:=h.rg;⟨a,b,uE c hk⟩⟩
structure zV (a b:List GN)(va vb:Value)(sa la fa sb lb fb:Nat)(g:CK)(w:World):Prop where
 wa:dY a va g.wa sa la fa (fun q=>q<g.base) w
 wb:dY b vb g.wb sb lb fb (fun q=>q<g.base) w
 lib:∃ w0,sP w0∧w0<=g.base∧∀ q,q<w0.heap.size->w.heap[q]?=w0.heap[q]?
section
variable {a b:List GN}{va vb pv nv:Value}{sa la fa sb lb fb m:Nat}{g:CK}{w w':World}{p:List Int}
theorem zV.libT (h:zV a b va vb sa la fa sb lb fb g w):sP w:=let ⟨_,h1,_,h3⟩:=h.lib;h1.keep h3
theorem CM.old (h:CSt g p pv m nv w){q:Nat}(hq:CM g pv nv q):g.base<=q:=by
 have h1:=h.bc;have h2:=h.bn;have h3:=h.hh;obtain ⟨xs,hn⟩:=h.nrow;rcases hq with e | e | e | e
 ·omega
 ·omega
 ·have:=h.row.block_ge e.symm;omega
 ·have:=hn.block_ge e.symm;omega
theorem CM.lt (h:CSt g p pv m nv w){q:Nat}(hq:CM g pv nv q):q<w:=by
 obtain ⟨xs,hn⟩:=h.nrow;rcases hq with e | e | e | e
 ·rw [e];exact h.box.lt
 ·rw [e];exact h.nbox.lt
 ·exact h.row.block_lt e.symm
 ·exact hn.block_lt e.symm
theorem CM.mono {pv' nv':Value}(hp:fQ w pv pv')(hn:fQ w nv nv'){q:Nat}(hq:CM g pv' nv' q):CM g pv nv q∨w<=q:=by
 rcases hq with e | e | e | e
 ·exact .inl (.inl e)
 ·exact .inl (.inr (.inl e))
 ·rcases hp with h | ⟨x,h,hx⟩
  ·exact .inl (.inr (.inr (.inl (by rw [e,h]))))
  ·rw [h] at e;cases e;exact .inr hx
 ·rcases hn with h | ⟨x,h,hx⟩
  ·exact .inl (.inr (.inr (.inr (by rw [e,h]))))
  ·rw [h] at e;cases e;exact .inr hx
theorem zV.keep (h:zV a b va vb sa la fa sb lb fb g w)(hs:w.heap.size<=w')(hk:aB (fun q=>q<g.base) w w'):zV a b va vb sa la fa sb lb fb g w':=by
 obtain ⟨h1,h2,w0,h3,h4,h5⟩:=h;refine ⟨h1.carry hk (fun _ _ h=>h),h2.carry hk (fun _ _ h=>h),w0,h3,h4,fun q hq=>?_⟩
 have hlt:q<w.heap.size:=by
  refine Nat.lt_of_not_le fun hl=>?_
  have h6:=h5 q hq;rw [Array.getElem?_eq_none hl,Array.getElem?_eq_getElem hq] at h6;cases h6
 rw [hk q hlt (by show q<g.base;omega)];exact h5 q hq
theorem zV.ext (h:zV a b va vb sa la fa sb lb fb g w)(hx:Ext w w'):zV a b va vb sa la fa sb lb fb g w':=h.keep hx.size (aB.of_ext hx)
theorem zV.fr (h:zV a b va vb sa la fa sb lb fb g w)(hS:CSt g p pv m nv w)(hf:Fr (CM g pv nv) w w'):zV a b va vb sa la fa sb lb fb g w':=h.keep hf.size (aB.of_fr hf (fun q hq hm=>by have:=CM.old hS hm;omega))
end
def kH (a b:List GN)(va vb:Value)(sa la fa sb lb fb:Nat)(g:CK)(f:Nat):Prop:=∀ (x y:Nat)(ch p:List Int)(vr pv nv:Value)(m:Nat)(w:World),x<f->ch.length<=1000000000->x<a->y<b->zV a b va vb sa la fa sb lb fb g w->CSt g p pv m nv w->bL w (fun q=>q<g.base) vr ch->Whl a x ch->(p:Int)+(aI b).getD y 0<=1000000->(m:Int)+(aI b).getD y 0<=1000000 ->
 qg 66 #[qp g.c,↑x,↑y,vr] w (nC g (jG a b f x y ch) p pv m nv w)
theorem EU {a:List GN}{i:Nat}{ch:List Int}(hi:i<a)(hg:aO a a)(hk:(a.getD i default).kind=1∨(a.getD i default).kind=2)(hw:Whl a i ch):∃ (c:Nat)(rest:List Int),ch=(c:Int) :: rest∧(c:Int)<gY (a.getD i default):=by
 have hn:=(hg.at_ hi).node;have hopt:=dA hn;rcases hk with k1 | k2
 ·have hL:=(bJ hg i hi).range k1
  have hw0:=hw;unfold Whl at hw;rw [kD a i ch I] at hw;unfold eG at hw;rw [Int.toNat_natCast,if_neg I,if_pos k1] at hw;obtain ⟨h1,h2⟩:=hw;obtain ⟨_,c,e,hp,c0,c1⟩:=iH (k:=0) h1;have hlen:=hp.1;have hc0:=hp.2 0 U;rw [if_pos k1] at hopt;cases ch with
  | nil=>simp at hlen
  | cons d r =>
   simp at hc0;refine ⟨c.toNat,r,by rw [Int.toNat_of_nonneg c0,hc0],?_⟩;unfold gY;rw [if_pos k1];omega
 ·obtain ⟨c,r,e,c0,c1,-⟩:=sR hi hg k2 hw
  refine ⟨c.toNat,r,by rw [Int.toNat_of_nonneg c0];exact e,?_⟩;unfold gY;rw [if_neg I,if_pos k2];omega
theorem aR.all {w:World}{b o:Nat}{x:GN}{a:NA}(h:aR w b o x a):qc w b o x.kind∧qc w b (o+1) x.name∧qc w b (o+2) x.lo∧qc w b (o+3) x.hi∧qc w b (o+4) (.slice a.wA x.weights a.wc)∧qc w b (o+5) (.slice a.lA x.labels a.lc)∧qc w b (o+6) (.slice a.vA x.values a.vc)∧qc w b (o+7) (.slice a.kA x.kids a.kc)∧qc w b (o+8) x.value.kind∧qc w b (o+9) x.value.n∧qc w b (o+10) x.value.s∧qc w b (o+11) (.slice a.xA x.value.kids a.xc) :=
 ⟨h 0 _ rfl,h 1 _ rfl,h 2 _ rfl,h 3 _ rfl,h 4 _ rfl,h 5 _ rfl,h 6 _ rfl,h 7 _ rfl,h 8 _ rfl,h 9 _ rfl,h 10 _ rfl,h 11 _ rfl⟩
noncomputable def R94:=RG Tryz.f94
section
variable {Q:Exit->Act->World->Prop}{a:Act}{w:World}
theorem Jy {x y:GN}{nx ny:NA}{i j n bx ox by_ oy bk ok nk ck:Nat}{P1 P2:Nat->Prop}(sz:a.tmps.size=83)(e1:qq a 1 (qt bx ox))(e2:qq a 2 (qt by_ oy))(e3:qq a 3 (.slice (qt bk ok) nk ck))(hnk:0<nk)
  (ax:NAt w P1 x nx)(ay:NAt w P2 y ny)(cx:aR w bx ox x nx)(cy:aR w by_ oy y ny)(ck0:qc w bk ok n)(okx:cR i x)(oky:cR j y)(hkx:x.kind=1∨x.kind=2)(hky:y.kind=1∨y.kind=2)(hk1:(n:Int)<gY x)(hl:∀ s ∈ x.labels,s.size<=281474976710656)(ht:sP w)
  (h:∀ a' w',Ag [0,1,2,3] a a'->qq a' 8 (.int .i64 (iJ x y n).1)->qq a' 9 (.bool (iJ x y n).2)->Ext w w'->Q .normal a' w'):qw (R94 0) Q a w:=by
 have hx0:Ext w w.drew:=(aq w).drew';have hcall:=Ky (ax.ext hx0) (ay.ext hx0) okx oky hkx hky hk1 hl (ht.ext hx0);generalize (iJ x y n).1=r1 at *;generalize (iJ x y n).2=r2 at *;refine rD (fun V=>aR V bx ox x nx∧aR V by_ oy y ny∧qc V bk ok n) (fun _=>true) 15 ?_;generalize w.drew=V0 at *;have hS0:∀ V,Ext V0 V->aR V bx ox x nx∧aR V by_ oy y ny∧qc V bk ok n:=fun V hx=>⟨cx.ext (hx0.trans' hx),cy.ext (hx0.trans' hx),aA (hx0.trans' hx) ck0⟩
 clear ax ay cx cy ck0 okx oky hkx hky hk1 hl ht;refine dt 6 [0,1,2,3,4,5,6,7,8] (hS:=hS0 V0 (aq V0)) ?_;iterate 2 refine tv ?_
 refine tv (v:=fE x nx) ?_ (hy:=by intro V hV;obtain ⟨q0,q1,q2,q3,q4,q5,q6,q7,q8,q9,q10,q11⟩:=hV.1.all;simp [execOp,go_sem,fE, *];try rfl);iterate 2 refine tv ?_
 refine tv (v:=fE y ny) ?_ (hy:=by intro V hV;obtain ⟨q0,q1,q2,q3,q4,q5,q6,q7,q8,q9,q10,q11⟩:=hV.2.1.all;simp [execOp,go_sem,fE, *];try rfl);iterate 3 refine tv ?_
 refine t_e ?_;refine dc (vs:=#[fE x nx,fE y ny,↑n]) 9 Tryz.func116 hcall ?_;rintro e w3 ⟨rfl,hx3⟩;have hS3:=hS0 w3 hx3;refine ⟨_,rfl,fun _=>hS3,?_⟩;refine dt 0 [10,11,12,13,14] (hS:=hS3) ?_;iterate 5 refine tv ?_
 refine t_e ?_;refine kF av (h _ _ O ba ba (hx0.trans' hx3))
end
