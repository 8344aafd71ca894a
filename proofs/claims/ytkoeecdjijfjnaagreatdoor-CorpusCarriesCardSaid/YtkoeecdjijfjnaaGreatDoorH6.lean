/- Contracts and laws. Conditions: none. -/
import Derived.Test.YtkoeecdjijfjnaaGreatDoorH4
set_option linter.all false
set_option maxRecDepth 100000
set_option maxHeartbeats 8000000
namespace Go.Proofs.YtkoeecdjijfjnaaGreatDoor
open Go.RowKit
def yx (g:FA)(r:GF)(w:World)(e:Ending)(w':World):Prop:=∃ A c,e=.returned (cN r.val A c)∧VAt w' g.Q r.val A c∧Fr g.M w w'∧FSt g r.at_ r.good w'
def sh (t:List GN)(path:List Int)(vn vp:Value)(f:Nat):Prop:=∀ (g:FA)(i:Nat)(at_:Int)(good:Bool)(w:World),i<f->i<t->kf t path vn vp g w->FSt g at_ good w->0<=at_->at_<=path ->
 qg 88 #[qp g.w,↑i,true,.func (.func 89) #[] #[qp g.a,qp g.p,qp g.b,qp g.g]] w (yx g (dF t path f i at_ good) w)
theorem qR {g:FA}{w w1:World}{y:GV}{A:Option Addr}{c gr:Nat}{at_:Int}{good:Bool}{cs:List Value}(hgr:w<=gr)(hm:∀ b,g.M b->b<w)(hF:Fr g.M w w1)(hB:Blk w1 gr 58 cs.toArray)(hcs:cs.length=4)(hv:VAt w1 (fun b=>g.Q b∧b ≠ gr) y A c)(hS:FSt g at_ good w1) :
  (w1.setCells gr 0 (cellsOf y A c)).cell? (qp gr)=some (↑y.kind)∧(w1.setCells gr 0 (cellsOf y A c)).cell? (qt gr 1)=some (↑y.n)∧(w1.setCells gr 0 (cellsOf y A c)).cell? (qt gr 2)=some ↑y.s∧(w1.setCells gr 0 (cellsOf y A c)).cell? (qt gr 3)=some (.slice A y.kids c) ∧
   VAt (w1.setCells gr 0 (cellsOf y A c)) g.Q y A c∧Fr g.M w (w1.setCells gr 0 (cellsOf y A c))∧FSt g at_ good (w1.setCells gr 0 (cellsOf y A c)):=by
 have hb:=aF (cellsOf y A c) 0 hB i6
 have e:(cs.take 0 ++ cellsOf y A c ++ cs.drop (0+(cellsOf y A c).length)).toArray=(cellsOf y A c).toArray:=by
  rw [List.take_zero,List.nil_append,Nat.zero_add,List.drop_eq_nil_of_le i6,List.append_nil]
 rw [e] at hb;have n1:¬ g.M gr:=fun h=>by have:=hm _ h;omega
 refine ⟨hb.cell' 0 rfl,hb.cell' 1 rfl,hb.cell' 2 rfl,hb.cell' 3 rfl,hv.carry (aB.setCells (fun h=>h.2 rfl) _ 0 (fun _ _ _=>rfl)) (fun b _ h=>h.1),hF.setCells _ 0 (.inr hgr),hS.1.farCells (fun e=>n1 (.inl e.symm)) _ 0,hS.2.farCells (fun e=>n1 (.inr e.symm)) _ 0⟩
theorem uj {a b:Prop}:¬ (a∨b) ↔ ¬ a∧¬ b:=⟨fun h=>⟨fun ha=>h (.inl ha),fun hb=>h (.inr hb)⟩,fun h hab=>hab.elim h.1 h.2⟩
theorem cV {w:World}{g b off:Nat}{u u0 u1 u2 u3:Value}(hne:¬ b=g)(h:qc w b off u):((((w.setCell (qp g) u0).setCell (qt g 1) u1).setCell (qt g 2) u2).setCell (qt g 3) u3).cell? (qt b off)=some u:=fY (o:=0) hne h
theorem cK {w:World}{g b off:Nat}{u u0 u1 u2 u3:Value}(hne:¬ b=g)(h:qc w b off u):((((w.setCell (qp g) u0).setCell (qt g 1) u1).setCell (qt g 2) u2).setCell (qt g 3) u3).drew.cell? (qt b off)=some u:=by rw [fK];exact cV hne h
theorem Ga {path:List Int}{x:GN}{j:Nat}{at_:Int}{good:Bool}(hn:cR j x)(h0:0<=at_)(h1:at_<=path):at_<=(bD path x at_ good).2.1∧(bD path x at_ good).2.1<=path∧0<=(bD path x at_ good).1∧(x.kind=1->x.lo+(bD path x at_ good).1<=x.hi)∧(x.kind=2->(bD path x at_ good).1<x.kids):=by
 unfold bD;have hnum:=aZ hn.numbers;have hopt:=dA hn;split
 ·exact ⟨Int.le_refl _,h1,Int.le_refl _,fun _=>by show x.lo+0<=_;omega,fun h2=>by have:=hn.choice h2;show (0:Int)<_;omega⟩
 ·next h =>
  rw [uj,uj] at h;refine ⟨by show at_<=at_+1;omega,by show at_+1<=_;omega,ja,fun hk=>?_,fun hk=>?_⟩
  ·rw [if_pos hk] at hopt;show x.lo+path.getD at_.toNat 0<=_;omega
  ·rw [if_neg I] at hopt;show path.getD at_.toNat 0<_;omega
theorem _root_.Go.World.ownsRow.fr_ {w w':World}{base:Nat}{e:TypeId}{size:Nat}{v:Value}{n:Nat}{xs:List Value}{M:Nat->Prop}(h:w.ownsRow base e size v n xs)(hf:Fr M w w')(hm:∀ b,M b->b<base):w'.ownsRow base e size v n xs:=by
 refine ⟨h.1,?_⟩;rcases h.2 with h | ⟨g,cap,cur,h1,h2,h3,h4⟩
 ·exact .inl h
 ·exact .inr ⟨g,cap,cur,h1,h2,(Blk.fr (t:=e) h3 hf (fun hb=>by have:=hm _ hb;omega)),h4⟩
def ul (r:Int->Int->Bool->GF)(path:List Int)(name:ByteArray)(kids:List Int)(g:FA)(w W:World)(R0:GF)(v i:Value)(wr:World):Prop :=
 ∃ (k:Nat) (at_:Int) (good:Bool) (done:List GV) (xs:List Value),k<=kids∧i=↑k∧wr.ownsRow W 58 4 v k xs∧RVs wr (Off (fun b=>g.Q b∧b<w) W wr v) done xs∧Fr g.M w wr∧W.heap.size<=wr∧FSt g at_ good wr∧0<=at_∧at_<=path∧done=k ∧
  Blk wr w 58 #[qz,qz,qe,qn]∧R0=bR r name at_ good done (kids.drop k)
theorem Gd {g:FA}{w W wr wu:World}{v:Value}{done:List GV}{xs:List Value}(hm:∀ b,g.M b->b<w)(hW:w.heap.size<W)(hr:RVs wr (Off (fun b=>g.Q b∧b<w) W wr v) done xs)(hf:Fr g.M wr wu):RVs wu (Off (fun b=>g.Q b∧b<w) W wu v) done xs :=
 RVs.carry (aB.of_fr hf (fun b hb hM=>by have:=hm b hM;rcases hb.1 with h | h;exact h.1.1 hM;omega)) (fun b hb h=>⟨h.1,ac hb hf.size,h.2.2⟩) hr
theorem Jp {r:Int->Int->Bool->GF}{path:List Int}{name:ByteArray}{kids:List Int}{g:FA}{w W wu w5 w6:World}{R0:GF}{v v6:Value}{k:Nat}{at_ at2:Int}{good gd2:Bool}{done:List GV}{xs:List Value}{y:GV}{A2:Option Addr}{d2:Nat}(hm:∀ b,g.M b->b<w)(hW:w.heap.size<W)(hxX:∀ b,g.X b->b<w)
  (hk:k<kids)(ho:wu.ownsRow W 58 4 v k xs)(hr:RVs wu (Off (fun b=>g.Q b∧b<w) W wu v) done xs)(hF:Fr g.M w wu)(hsz:W.heap.size<=wu)(hS:FSt g at2 gd2 wu)(h0:0<=at2)(h1:at2<=path)(hd:done=k)(hB:Blk wu w 58 #[qz,qz,qe,qn])
  (hR:R0=bR r name at_ good done (kids.drop k))(hy:r (kids.getD k 0) at_ good=⟨y,at2,gd2⟩)(h5:Ext wu w5)(hv:VAt w5 (fun b=>((g.Q b∧b<w)∨W<=b)∧some b ≠ v.ownBlock) y A2 d2)
  (ho6:w6.ownsRow W 58 4 v6 (k+1) (xs ++ [.int .i64 y.kind,.int .i64 y.n,.string y.s,.slice A2 y.kids d2]))(hf6:Fr (fun k=>some k=v.ownBlock) (w5.alloc (qk (qh y A2 d2) 58)) w6)
  (hb6:v6.ownBlock=v.ownBlock∨v6.ownBlock=some (w5.alloc (qk (qh y A2 d2) 58)).heap.size):ul r path name kids g w W R0 v6 (.int .i64 ((k:Int)+1)) w6:=by
 have hrow:∀ b,some b=v.ownBlock->W<=b:=fun b hb=>ho.block_ge hb.symm
 have hx5:Ext wu (w5.alloc (qk (qh y A2 d2) 58)):=h5.alloc' _;have hF6:Fr g.M w w6:=(hF.trans (ar hx5)).trans_new (hf6.mono (fun b hb=>.inr (by have:=hrow b hb;omega)));refine ⟨k+1,at2,gd2,done ++ [y],_,I,U,ho6,yM ho hr h5 hv hf6 hb6,hF6,?_,?_,h0,h1,by simp [hd],?_,?_⟩
 ·exact ae (ae hsz hx5.size) hf6.size
 ·exact ⟨(hS.1.ext hx5).fr hf6 (fun e=>by have h1:=hrow _ e;have h2:=hm _ (.inl rfl);omega),(hS.2.ext hx5).fr hf6 (fun e=>by have h1:=hrow _ e;have h2:=hm _ (.inr rfl);omega)⟩
 ·exact (hB.ext hx5).fr hf6 (fun e=>by have h1:=hrow _ e;omega)
 ·rw [hR,aJ 0 hk]
  simp only [bR,hy]
theorem LN (t:List GN)(path:List Int)(vn vp:Value)(f:Nat)(hg:aO t t)(hpl:path.length<=1000000000)(ih:sh t path vn vp f):sh t path vn vp (f+1):=by
 intro g i at_ good w hif hit hE hS h0 h1;have HIH:=aYf ih;have htl:t.length<=4096:=hg.2.1;have HMX:=aYf (show ∀ b,g.M b->b<w from fun b hb=>hb.elim (fun e=>e ▸ hS.1.lt) (fun e=>e ▸ hS.2.lt));have HFR:=aYf (show dF t path (f+1) i at_ good=eG (dF t path f) t path i (t.getD i default) at_ good by simp only [dF,Int.toNat_natCast]);have hcheck:=hg.at_ hit;have hfew:=cJ hg hit;have HFO:=aYf (fun (z:Nat) (k:Int) (gd:Bool) (hz:z<i) (a0:0<=k) (a1:k<=path)=>qS hg path hpl f z k gd I I a0 a1);obtain ⟨An,dn,en,hn1,hn2⟩:=hE.walk.nodes.form;subst en;obtain ⟨bn,on,a,rfl,hqn,hxx,hnn⟩:=hE.walk.nodes.get hit;obtain ⟨x,hxd⟩:∃ x,x=t.getD i default:=⟨_,rfl⟩;have HXD:=aYf hxd;rw [<- hxd] at hxx hnn hfew HFR;have HOK:=aYf (show cR i x from hxd ▸ hcheck.node);have HCV:=aYf (show x.kind=4->((aE t).getD (x.kids.getD 0 0).toNat default).many=false∧((aE t).getD (x.kids.getD 0 0).toNat default).vals=x.values from fun h4=>by rw [hxd] at h4 ⊢;exact ⟨hcheck.many h4,hcheck.vals h4⟩);have HQN:=aYf hqn;have HEW:=aYf hE;have HSW:=aYf hS;have hii:(i:Int)<(t:Int):=by omega
 have hi0:(0:Int)<=(i:Int):=I;have HNW:=aYf hnn;have HXW:=aYf hxx;have HX0:=aYf ((aq w).alloc' (qk #[qz,qz,qe,qn] 58));have HB0:=aYf (aw w 58 #[qz,qz,qe,qn]);have HS0:=aYf (show w.heap.size<(w.alloc (qk #[qz,qz,qe,qn] 58)) by simp);clear hcheck hqn hE hS hnn hxx hxd ih hg;go_enter Tryz.func88,Tryz.ntmps88;go_upto_region 1 with fail;generalize w.alloc (qk #[qz,qz,qe,qn] 58)=W at *;have HE:=aYf (HEW.out.ext HX0.out);have HS:=aYf (HSW.out.ext HX0.out);have HN:=aYf (HNW.out.ext HX0.out);have hll:(aI t).length=t:=by unfold aI;rw [dU];simp
 have w0:=HE.out.walk.box.cell' (u:=qp g.s) 0 rfl;have w1:=HE.out.walk.box.cell' (u:=.slice (qp g.l) t t) 1 rfl;have w2:=HE.out.walk.box.cell' (u:=.slice (qp g.f) t t) 2 rfl;have ws:=HE.out.walk.sets;have wl:=HE.out.walk.lens.cell' i (iE (l:=aI t) I);have c0:=HN.out.c0;have c2:=HN.out.c2;have c7:=HN.out.c7;have HLR:=aYf (show ∃ lr,lr=(aI t).getD i 0 from ⟨_,rfl⟩);obtain ⟨lr,hlr⟩:=HLR.out;have HLE:=aYf hlr;rw [<- hlr] at wl;obtain ⟨r0,r1,r2,r3⟩:=aU HB0.out;have f0:=HB0.out.frozen 0;have f1:=HB0.out.frozen 1;have f2:=HB0.out.frozen 2;have f3:=HB0.out.frozen 3;clear hlr hll HLR;by_cases hz:lr=0
 ·subst hz
  have hfl:(oM t).length=t:=by rw [<- pE,vX (ab _)]
  have HFF:=aYf (show dF t path (f+1) i at_ good=⟨(oM t).getD i default,at_,good⟩ by rw [HFR.out];unfold eG;rw [Int.toNat_natCast,if_pos HLE.out.symm]);obtain ⟨bf,of,Af,df,ef,-,hvf,q0,q1,q2,q3⟩:=HEW.out.walk.fixed.get (i:=i) I;injection ef with ef;injection ef with ef1 ef2;subst ef1 ef2;rw [Nat.zero_add] at q0 q1 q2 q3;have HVF:=aYf (hvf.carry (Q:=fun b=>g.Q b∧b ≠ w) (aB.of_ext HX0.out) (fun b hb h=>⟨h,I⟩));have q0':=aA HX0.out q0;have q1':=aA HX0.out q1;have q2':=aA HX0.out q2;have q3':=aA HX0.out q3;clear hvf hfl q0 q1 q2 q3;generalize (oM t).getD i default=y at *;go_wp2_with fail;obtain ⟨z0,z1,z2,z3,hvz,hFz,hSz⟩:=qR (gr:=w.heap.size) (cs:=[qz,qz,qe,qn]) (ab _) HMX.out (ar HX0.out) HB0.out rfl HVF.out HS.out;have hgen:((((W.setCell (qp w) (↑y.kind)).setCell (qt w 1) (↑y.n)).setCell (qt w 2) y.s).setCell (qt w 3) (.slice Af y.kids df))=W.setCells w 0 (cellsOf y Af df):=rfl;rw [hgen];generalize W.setCells w 0 (cellsOf y Af df)=WF at *;exact bodyPost_ret (v:=cN y Af df) (by simp [results,Tryz.results88,go_sem,z0,z1,z2,z3]) rfl (by rw [HFF.out];exact ⟨Af,df,rfl,hvz,hFz,hSz⟩)
 have tz:(lr == 0)=false:=aYg hz
 have HFZ:=aYf (show dF t path (f+1) i at_ good=if x.kind=1 then ⟨.mk 0 (x.lo+(bD path x at_ good).1) ByteArray.empty [],(bD path x at_ good).2.1,(bD path x at_ good).2.2⟩
   else if x.kind=2 then dF t path f (x.kids.getD (bD path x at_ good).1.toNat 0) (bD path x at_ good).2.1 (bD path x at_ good).2.2
   else if x.kind=4 then dF t path f (x.kids.getD ((bK x.values (dF t path f (x.kids.getD 0 0) at_ good).val).1+1) 0) (dF t path f (x.kids.getD 0 0) at_ good).at_ (dF t path f (x.kids.getD 0 0) at_ good).good
   else bR (dF t path f) x.name at_ good [] x.kids by rw [HFR.out];unfold eG;rw [Int.toNat_natCast,if_neg (by rw [<- HLE.out];exact hz)])
 have HNM:=aYf (show ¬ g.M w.heap.size from fun h=>by have:=HMX.out _ h;omega);have lbn:=HNW.out.lt;have hbr:¬ bn=w:=by omega
 have HCHO:=aYf (show ∀ W',Ext W W'->qg 89 #[↑i,qp g.a,qp g.p,qp g.b,qp g.g] W' (AW g (bD path x at_ good) W') from fun W' h=>by
  rw [HXD.out];exact Kh t path _ vp g i at_ good W' (HE.out.ext h) (HS.out.ext h) hit h0 h1 hpl I)
 have HBD:=aYf (Ga (good:=good) HOK.out h0 h1);by_cases k1:x.kind=1
 ·have tk1:(x.kind == 1)=true:=aYh k1
  rw [if_pos k1] at HFZ;have hb1:=HBD.out.2.2.1;have hb2:=HBD.out.2.2.2.1 k1;have hnum:=aZ HOK.out.numbers;generalize bD path x at_ good=rc at *;obtain ⟨c,at2,gd2⟩:=rc;simp only at hb1 hb2 HFZ;have HVY:=aYf (show ∀ W' Q,VAt W' Q (.mk 0 (x.lo+c) ByteArray.empty []) none 0 from fun W' Q=>⟨jm,by unfold I64;simp only [GV.n];omega,by simp [GV.s],ab _,⟨dm,I⟩,⟨none,0,[],rfl,ab _,⟨dm,I⟩,⟨rfl,fun h=>absurd h dm⟩,rfl⟩⟩);have hwr:IntKind.i64.wrap (x.lo+c)=x.lo+c:=IntWalk.i64_in _ I;clear k1 c7;go_wp2_with fail
  go_region_held3 (fun w'=>qc w' bn (on+i*12+2) x.lo)
   (first
    | with_reducible exact cV hbr c2'
    | with_reducible exact cK hbr c2'
    | with_reducible exact c2'
    | go_keep)
   (first
    | (go_at_call 89;refine (HCHO.out _ (aq _).drew').mono ?_;rintro e wv ⟨rfl,hfc,hst⟩;have c2':=kW hfc HQN.out.1 c2;have hBv:=(HB0.out.drew).fr hfc HNM.out;obtain ⟨z0,z1,z2,z3⟩:=aU hBv;have zf0:=hBv.frozen 0;have zf1:=hBv.frozen 1;have zf2:=hBv.frozen 2;have zf3:=hBv.frozen 3))
  go_wp2_with fail;have hFw:Fr g.M w wv:=(ar HX0.out.drew').trans hfc;clear z0 z1 z2 z3;obtain ⟨z0,z1,z2,z3,hvz,hFz,hSz⟩:=qR (gr:=w.heap.size) (cs:=[qz,qz,qe,qn]) (ab _) HMX.out hFw hBv rfl (HVY.out _ _) hst;have hgen:((((wv.setCell (qp w) qz).setCell (qt w 1) (.int .i64 (x.lo+c))).setCell (qt w 2) qe).setCell (qt w 3) qn)=wv.setCells w 0 (cellsOf (GV.mk 0 (x.lo+c) ByteArray.empty []) none 0):=rfl;rw [hgen];generalize wv.setCells w 0 (cellsOf (GV.mk 0 (x.lo+c) ByteArray.empty []) none 0)=WF at *;exact bodyPost_ret (v:=cN (GV.mk 0 (x.lo+c) ByteArray.empty []) none 0) (by simp [results,Tryz.results88,go_sem,z0,z1,z2,z3]) rfl (by rw [HFZ.out];exact ⟨none,0,rfl,hvz,hFz,hSz⟩)
 have HREC:=aYf (show ∀ (zn:Nat) (at3:Int) (gd3:Bool) (W':World),zn<i->Fr g.M w W'->FSt g at3 gd3 W'->0<=at3->at3<=path->qg 88 #[qp g.w,.int .i64 zn,true,.func (.func 89) #[] #[qp g.a,qp g.p,qp g.b,qp g.g]] W' (yx (g.more w W') (dF t path f zn at3 gd3) W') from fun zn at3 gd3 W' hz hF hSt a0 a1 =>
  HIH.out (g.more w W'.heap.size) zn at3 gd3 W' I I (HEW.out.more hF) hSt a0 a1)
 have HQQ:=aYf (show ∀ (lo hi b:Nat),(g.more lo hi).Q b->g.Q b∧¬ (lo<=b∧b<hi) from fun lo hi b h=>⟨⟨h.1,fun hx=>h.2 (.inl hx)⟩,fun hx=>h.2 (.inr hx)⟩);by_cases k2:x.kind=2
 ·have tk1:(x.kind == 1)=false:=aYg k1
  have tk2:(x.kind == 2)=true:=aYh k2;rw [if_neg k1,if_pos k2] at HFZ;have hb0:=HBD.out.1;have hb3:=HBD.out.2.1;have hb1:=HBD.out.2.2.1;have hb2:=HBD.out.2.2.2.2 k2;generalize bD path x at_ good=rc at *;obtain ⟨c,at2,gd2⟩:=rc;simp only at hb0 hb1 hb2 hb3 HFZ;obtain ⟨hkl1,hkl2⟩:=HXW.out.kids.le;obtain ⟨bk,ok,ek,hqk,-,gk⟩:=HXW.out.kids.get (i:=c.toNat) I;have hzz:=HOK.out.kids _ (aC (d:=0) (show c.toNat<x.kids by omega));obtain ⟨zn,hzn⟩:∃ zn:Nat,x.kids.getD c.toNat 0=(zn:Int):=⟨(x.kids.getD c.toNat 0).toNat,I⟩;rw [hzn] at gk HFZ hzz;rw [ek] at c7;have lbk:=bB gk;have hbk:¬ bk=w:=by omega
  have ck:=aA HX0.out gk;have HQK:=aYf hqk;have hzi:zn<i:=by omega
  clear hzn hzz gk ek hqk k1 k2;go_wp2_with fail
  go_region_held3 (fun w'=>qc w' bn (on+i*12+7) (.slice (qt bk ok) x.kids a.kc)∧qc w' bk (ok+c.toNat) (.int .i64 zn))
   (first
    | with_reducible exact ⟨cV hbr c7'',cV hbk ck''⟩
    | with_reducible exact ⟨cK hbr c7'',cK hbk ck''⟩
    | with_reducible exact ⟨c7'',ck''⟩
    | with_reducible exact ⟨c7',ck'⟩
    | go_keep)
   (first
    | (go_at_call 89;refine (HCHO.out _ (aq _).drew').mono ?_;rintro e wv ⟨rfl,hfc,hst⟩;have hFw:Fr g.M w wv:=(ar HX0.out.drew').trans hfc;have hszv:w.heap.size<wv:=ac HS0.out hfc.size;have c7':=kW hfc HQN.out.1 c7;have ck':=kW hfc HQK.out.1 ck)
    | (go_at_call 88;refine (HREC.out zn at2 gd2 wv hzi hFw hst (by omega) hb3).mono ?_;rintro e wu ⟨A2,c2,rfl,hv2,hfu,hsu⟩;have c7'':=aH hfu HQN.out.1 c7';have ck'':=aH hfu HQK.out.1 ck';have hBu:=((HB0.out.drew).fr hfc HNM.out).fr hfu HNM.out;obtain ⟨z0,z1,z2,z3⟩:=aU hBu;have zf0:=hBu.frozen 0;have zf1:=hBu.frozen 1;have zf2:=hBu.frozen 2;have zf3:=hBu.frozen 3))
  generalize dF t path f zn at2 gd2=rr at *;obtain ⟨y,at3,gd3⟩:=rr;simp only at hv2 hsu HFZ;go_wp2_with fail;have hFu:Fr g.M w wu:=hFw.trans hfu;have hVu:VAt wu (fun b=>g.Q b∧b ≠ w) y A2 c2:=hv2.carry (fun _ _ _=>rfl) (fun b _ h=>⟨(HQQ.out _ _ _ h).1,fun e=>(HQQ.out _ _ _ h).2 I⟩);clear z0 z1 z2 z3;obtain ⟨z0,z1,z2,z3,hvz,hFz,hSz⟩:=qR (gr:=w.heap.size) (cs:=[qz,qz,qe,qn]) (ab _) HMX.out hFu hBu rfl hVu hsu;have hgen:((((wu.setCell (qp w) (↑y.kind)).setCell (qt w 1) (↑y.n)).setCell (qt w 2) y.s).setCell (qt w 3) (.slice A2 y.kids c2))=wu.setCells w 0 (cellsOf y A2 c2):=rfl;rw [hgen];generalize wu.setCells w 0 (cellsOf y A2 c2)=WF at *;exact bodyPost_ret (v:=cN y A2 c2) (by simp [results,Tryz.results88,go_sem,z0,z1,z2,z3]) rfl (by rw [HFZ.out];exact ⟨A2,c2,rfl,hvz,hFz,hSz⟩)
 by_cases k4:x.kind=4
 ·have tk1:(x.kind == 1)=false:=aYg k1
  have tk2:(x.kind == 2)=false:=aYg k2;have tk4:(x.kind == 4)=true:=aYh k4;rw [if_neg k1,if_neg k2,if_pos k4] at HFZ;have hbd:=HOK.out.bind k4;obtain ⟨hm1,hm2⟩:=HCV.out k4;have hinc:=HOK.out.inc;obtain ⟨hkl1,hkl2⟩:=HXW.out.kids.le;obtain ⟨bk,ok,ek,hqk,-,gk⟩:=HXW.out.kids.get (i:=0) I;rw [Nat.add_zero] at gk;have hzz:=HOK.out.kids _ (aC (d:=0) (show 0<x.kids.length by omega));obtain ⟨zn,hzn⟩:∃ zn:Nat,x.kids.getD 0 0=(zn:Int):=⟨(x.kids.getD 0 0).toNat,I⟩;rw [hzn] at gk HFZ hzz hm1 hm2;rw [Int.toNat_natCast] at hm1 hm2;rw [ek] at c7;have lbk:=bB gk;have hbk:¬ bk=w:=by omega
  have ck:=aA HX0.out gk;have HQK:=aYf hqk;have hzi:zn<i:=by omega
  have hfo:=HFO.out zn at_ good hzi h0 h1;have HRC:=aYf (HREC.out zn at_ good W hzi (ar HX0.out) HS.out h0 h1);generalize cA t path f (zn:Int) at_=rd at *;generalize dF t path f (zn:Int) at_ good=rr at *;obtain ⟨y,at2,gd2⟩:=rr;have hat:=hfo.at0;have hmem:=hfo.mem hm1;rw [hm2] at hmem;simp only at hat hmem HFZ;have hfi:=eN hinc hmem;have HCS:=aYf (show ∀ (A:Option Addr) (c:Nat) (W':World),aR W' bn (on+i*12) x a->NAt W' g.Q x a->VAt W' g.Q y A c->qg 96 #[qt bn (on+i*12),cN y A c] W' (dE (.int .i64 ((bK x.values y).1+1)) W') from fun A c W' q1 q2 q3=>fT x a bn (on+i*12) y A c g.Q g.Q W' q1 q2 q3 hinc I);generalize (bK x.values y).1=q at *;have hql:q+1<x.kids:=by omega
  obtain ⟨bk2,ok2,ek2,-,-,gk2⟩:=HXW.out.kids.get (i:=q+1) hql;rw [ek] at ek2;injection ek2 with ek2;injection ek2 with ek21 ek22;subst ek21 ek22;have hz2:=HOK.out.kids _ (aC (d:=0) hql);obtain ⟨zq,hzq⟩:∃ zq:Nat,x.kids.getD (q+1) 0=(zq:Int):=⟨(x.kids.getD (q+1) 0).toNat,I⟩;rw [hzq] at gk2 HFZ hz2;have hzqi:zq<i:=by omega
  have ck2:=aA HX0.out gk2;have hk1:(0:Int)<(x.kids:Int):=by omega
  have hq0:(0:Int)<=(q:Int)+1:=I;have hq1:(q:Int)+1<(x.kids:Int):=I;have hqt:((q:Int)+1).toNat=q+1:=I;have HQT:=aYf hqt;have HAT:=aYf hat;clear hzn hzz gk ek hqk k1 k2 k4 hm1 hm2 hinc hfo hmem hfi hqt hz2 hzq gk2 hbd;go_wp2_with fail;refine HRC.out.mono ?_;rintro e wu ⟨A2,d2,rfl,hv2,hfu,hsu⟩;have hFu:Fr g.M w wu:=(ar HX0.out).trans hfu;have d7:=aH hfu HQN.out.1 c7;have dk:=aH hfu HQK.out.1 ck2;have HVU:=aYf (hv2.carry (Q:=g.Q) (fun _ _ _=>rfl) (fun b _ h=>(HQQ.out _ _ _ h).1));have HNU:=aYf (show aR wu bn (on+i*12) x a from fun j u hu=>aH hfu HQN.out.1 (HN.out j u hu));have HXU:=aYf (HXW.out.carry (Q:=g.Q) (aB.of_fr hFu (fun b h=>h.1)) (fun _ _ h=>h));have HBU:=aYf (HB0.out.fr hfu HNM.out);have HFU:=aYf hFu;have HSU:=aYf hsu;simp only at HVU HSU;have lu:w.heap.size<wu:=ac HS0.out hfu.size;clear hv2 hfu hsu hFu HRC c7 ck ck2 c0 c2 r0 r1 r2 r3 f0 f1 f2 f3 w0 w1 w2 ws wl;go_wp2_with fail;have HXQ:=aYf ((aq wu).alloc' (qk (qh y A2 d2) 58));have HBQ:=aYf (aw wu 58 (qh y A2 d2));generalize wu.alloc (qk (qh y A2 d2) 58)=Wq at *;have e7:=aA HXQ.out d7;have eK:=aA HXQ.out dk;obtain ⟨y0,y1,y2,y3⟩:=aU HBQ.out;have ngq:¬ wu.heap.size=w:=by omega
  have NMQ:¬ g.M wu.heap.size:=fun h=>by have:=HMX.out _ h;omega
  have hqt:=HQT.out;clear d7 dk
  go_region_held3 (fun w'=>qc w' bn (on+i*12+7) (.slice (qt bk ok) x.kids a.kc)∧qc w' bk (ok+(q+1)) zq∧qc w' wu 0 y.kind∧qc w' wu 1 y.n∧qc w' wu 2 y.s∧qc w' wu 3 (.slice A2 y.kids d2))
   (first
    | with_reducible exact ⟨cV hbr e7'',cV hbk eK'',cV ngq y0'',cV ngq y1'',cV ngq y2'',cV ngq y3''⟩
    | with_reducible exact ⟨cK hbr e7'',cK hbk eK'',cK ngq y0'',cK ngq y1'',cK ngq y2'',cK ngq y3''⟩
    | with_reducible exact ⟨e7'',eK'',y0'',y1'',y2'',y3''⟩
    | with_reducible exact ⟨e7',eK',y0',y1',y2',y3'⟩
    | go_keep)
   (first
    | (go_at_call 96;refine (HCS.out A2 d2 _ ((HNU.out.ext HXQ.out).ext (aq _).drew') ((HXU.out.ext HXQ.out).ext (aq _).drew') ((HVU.out.ext HXQ.out).ext (aq _).drew')).mono ?_;rintro e wv ⟨rfl,hx5⟩;have hx6:Ext Wq wv:=(aq _).drew'.trans' hx5;have e7':=aA hx6 e7;have eK':=aA hx6 eK;have y0':=aA hx6 y0;have y1':=aA hx6 y1;have y2':=aA hx6 y2;have y3':=aA hx6 y3;have hFv:Fr g.M w wv:=HFU.out.trans (ar (HXQ.out.trans' hx6));have hSv:FSt g at2 gd2 wv:=HSU.out.ext (HXQ.out.trans' hx6))
    | (go_at_call 88;refine (HREC.out zq at2 gd2 wv hzqi hFv hSv (by have:=HAT.out;omega) HAT.out.2).mono ?_;rintro e wz ⟨A3,c3,rfl,hv3,hfz,hsz⟩;have e7'':=aH hfz HQN.out.1 e7';have eK'':=aH hfz HQK.out.1 eK';have y0'':=aH hfz NMQ y0';have y1'':=aH hfz NMQ y1';have y2'':=aH hfz NMQ y2';have y3'':=aH hfz NMQ y3';have hBz:=(HBU.out.ext (HXQ.out.trans' hx6)).fr hfz HNM.out;obtain ⟨z0,z1,z2,z3⟩:=aU hBz;have zf0:=hBz.frozen 0;have zf1:=hBz.frozen 1;have zf2:=hBz.frozen 2;have zf3:=hBz.frozen 3))
  clear hqt;generalize dF t path f (zq:Int) at2 gd2=rr3 at *;obtain ⟨yz,at4,gd4⟩:=rr3;simp only at hv3 hsz HFZ;go_wp2_with fail;have hFz':Fr g.M w wz:=hFv.trans hfz;have hwz:w.heap.size<wv:=ac lu (HXQ.out.trans' hx6).size;have hVz:VAt wz (fun b=>g.Q b∧b ≠ w) yz A3 c3:=hv3.carry (fun _ _ _=>rfl) (fun b _ h=>⟨(HQQ.out _ _ _ h).1,fun e=>(HQQ.out _ _ _ h).2 I⟩);clear z0 z1 z2 z3;obtain ⟨z0,z1,z2,z3,hvz,hFz,hSz⟩:=qR (gr:=w.heap.size) (cs:=[qz,qz,qe,qn]) (ab _) HMX.out hFz' hBz rfl hVz hsz;have hgen:((((wz.setCell (qp w) (↑yz.kind)).setCell (qt w 1) (↑yz.n)).setCell (qt w 2) yz.s).setCell (qt w 3) (.slice A3 yz.kids c3))=wz.setCells w 0 (cellsOf yz A3 c3):=rfl;rw [hgen];generalize wz.setCells w 0 (cellsOf yz A3 c3)=WF at *;exact bodyPost_ret (v:=cN yz A3 c3) (by simp [results,Tryz.results88,go_sem,z0,z1,z2,z3]) rfl (by rw [HFZ.out];exact ⟨A3,c3,rfl,hvz,hFz,hSz⟩)
 have tk1:(x.kind == 1)=false:=aYg k1;have tk2:(x.kind == 2)=false:=aYg k2;have tk4:(x.kind == 4)=false:=aYg k4;rw [if_neg k1,if_neg k2,if_neg k4] at HFZ;have HKV:=aYf HXW.out.kids;have HKI:=aYf HOK.out.kids;have HNM2:=aYf HXW.out.name;have HXL:=aYf HEW.out.xlt;obtain ⟨hkl1,hkl2⟩:=HXW.out.kids.le;obtain ⟨i0,hi,hz0,hz1,hz2⟩:=info_parts Tryz.info58;have HI:=aYf hi;clear hi k1 k2 k4;generalize a.kA=Ak at *;generalize a.kc=kc at *;go_wp2_with fail;go_loopw [11,98] (fun v ix wr=>ul (dF t path f) path x.name x.kids g w W (dF t path (f+1) i at_ good) v ix wr) (fun _ ix _=>x.kids.length - (intOf ix).toNat)
 case atStart=>exact ⟨0,at_,good,[],[],af _,rfl,World.ownsRow_nil _ _ _ _,j6,ar HX0.out,ab _,HS.out,h0,h1,rfl,HB0.out,HFZ.out⟩
 case round =>
  obtain ⟨k,at1,gd1,done,xs,hk,rfl,ho,hr,hF,hsz,hSt,a0,a1,hdl,hB,hR⟩:=hrel;obtain ⟨Av,cv,ev,-,-,-⟩:=Sl.of_own ho;subst ev;have HO:=aYf ho;have HR:=aYf hr;have HF:=aYf hF;have HST:=aYf hSt;have HDL:=aYf hdl;have HB:=aYf hB;have HRR:=aYf hR;have HSZ:=aYf hsz;clear ho hr hF hSt hdl hB hR hsz;by_cases hlt:k<x.kids
  ·obtain ⟨bk,ok,rfl,hqk,-,gk⟩:=HKV.out.get hlt
   have hzz:=HKI.out _ (aC (d:=0) hlt);obtain ⟨zn,hzn⟩:∃ zn:Nat,x.kids.getD k 0=(zn:Int):=⟨(x.kids.getD k 0).toNat,I⟩;rw [hzn] at gk hzz;have ck:=aH HF.out hqk.1 gk;have hzi:zn<i:=by omega
   have HRC:=aYf (HREC.out zn at1 gd1 wr hzi HF.out HST.out a0 a1);have hfo:=HFO.out zn at1 gd1 hzi a0 a1;have HHY:=aYf (show dF t path f (x.kids.getD k 0) at1 gd1=dF t path f (zn:Int) at1 gd1 by rw [hzn]);generalize cA t path f (zn:Int) at1=rd at *;generalize dF t path f (zn:Int) at1 gd1=rr at *;obtain ⟨y,at2,gd2⟩:=rr;have hat:=hfo.at0;simp only at hat;have HAT:=aYf hat;have hkk:(k:Int)<(x.kids:Int):=by omega
   clear hzn hzz gk hqk hfo hat;go_wp2_with fail;refine HRC.out.mono ?_;rintro e wu ⟨A2,d2,rfl,hv2,hfu,hsu⟩;simp only at hv2 hsu;have HOU:=aYf (HO.out.fr_ hfu (fun b hb=>by have h1:=HMX.out b hb;have h2:=HS0.out;omega));have HRU:=aYf (Gd HMX.out HS0.out HR.out hfu);have HFU:=aYf (HF.out.trans hfu);have HSU:=aYf hsu;have HBU:=aYf (HB.out.fr hfu HNM.out);have HZU:=aYf (ae HSZ.out hfu.size)
   have HVU:=aYf (hv2.carry (Q:=fun b=>((g.Q b∧b<w)∨W<=b)∧some b ≠ (Value.slice Av k cv).ownBlock) (fun _ _ _=>rfl) (fun b hb h=>by
    have h1:=HQQ.out _ _ _ h;have h2:=HSZ.out;have h3:=HS0.out;refine ⟨?_,fun e=>?_⟩
    ·by_cases hbw:b<w.heap.size
     ·exact .inl ⟨h1.1,hbw⟩
     ·exact .inr (by have:=h1.2;omega)
    ·have h4:=HO.out.block_ge e.symm
     have h5:=HO.out.block_lt e.symm;exact h1.2 I))
   clear hv2 hfu hsu HRC;go_upto_region 17 with fail;have HX5:=aYf ((aq wu).alloc' (qk (qh y A2 d2) 58));have HB5:=aYf (aw wu 58 (qh y A2 d2));generalize wu.alloc (qk (qh y A2 d2) 58)=w5 at *;obtain ⟨y0,y1,y2,y3⟩:=aU HB5.out;have HZ5:=aYf (ae HZU.out HX5.out.size);go_wp2_with (at_builtin;go_must (refine aS _ rfl (.tmp 108) (.tmp 110) 56 dd W 58 i0 _ 4 56 Tryz.underlying56 HI.out hz0 hz1 hz2 rfl I (.slice Av k cv) _ _ rfl ((HOU.out.ext_ HX5.out).alloc _) (fun _=>True) (qp w5) 1 1 (qh y A2 d2) rfl (Sl.new w5 _ _ _ _ rfl) ci I I (by have:=HZ5.out;simp;omega) ?_);intro v6 w6 ho6 hf6 hb6);go_roundw
   case rel=>exact Jp HMX.out HS0.out HXL.out hlt HOU.out HRU.out HFU.out HZU.out HSU.out (by have:=HAT.out;omega) HAT.out.2 HDL.out HBU.out HRR.out HHY.out HX5.out (HVU.out.ext HX5.out) ho6 hf6 hb6
   case measure=>simp [intOf];omega
  ·obtain rfl:k=x.kids:=by omega
   have HRE:=aYf (show dF t path (f+1) i at_ good=⟨cB x.name done,at1,gd1⟩ by rw [HRR.out,drop_nil (ab _)];rfl);have HNR:=aYf (show aR wr bn (on+i*12) x a from fun j u hu=>aH HF.out HQN.out.1 (HNW.out j u hu))
   have HMD:=aYf (show Calls Tryz.prog 62 #[qt bn (on+i*12),.slice Av x.kids cv] wr fun e w'=>e=.returned (cN (cB x.name done) Av cv)∧Ext wr w' by
    have h:=iD x a bn (on+i*12) done Av cv wr HNR.out;rw [HDL.out] at h;exact h)
   have HVD:=aYf (show bZ wr (fun b=>g.Q b∧b ≠ w) (.slice Av done cv) done by
    have h:=bZ.of_own (Q:=fun b=>g.Q b∧b ≠ w) (HO.out.len_cast HDL.out.symm rfl) (RVs.carry (fun _ _ _=>rfl) (fun b hb h=>?_) HR.out) (by rw [HDL.out];omega) (fun b hb=>?_)
    ·rw [HDL.out];exact h
    ·have h3:=HS0.out
     rcases h.1 with h1 | h1
     ·exact ⟨h1.1,I⟩
     ·exact ⟨⟨fun hm=>by have:=HMX.out _ hm;omega,fun hx=>by have:=HXL.out _ hx;omega⟩,I⟩
    ·have h1:=HO.out.block_ge hb
     have h3:=HS0.out;exact ⟨⟨fun hm=>by have:=HMX.out _ hm;omega,fun hx=>by have:=HXL.out _ hx;omega⟩,I⟩)
   have HVM:=aYf (VAt.made HNM2.out HVD.out);generalize cB x.name done=ym at *;go_wp2_with fail;refine HMD.out.mono ?_;rintro e w7 ⟨rfl,hx7⟩;have hB7:=HB.out.ext hx7;obtain ⟨z0,z1,z2,z3⟩:=aU hB7;have zf0:=hB7.frozen 0;have zf1:=hB7.frozen 1;have zf2:=hB7.frozen 2;have zf3:=hB7.frozen 3;have HX7:=aYf hx7;have HB7:=aYf hB7;clear hx7 hB7;go_wp2_with fail;clear z0 z1 z2 z3;obtain ⟨z0,z1,z2,z3,hvz,hFz,hSz⟩:=qR (gr:=w.heap.size) (cs:=[qz,qz,qe,qn]) (ab _) HMX.out (HF.out.trans (ar HX7.out)) HB7.out rfl (HVM.out.ext HX7.out) (HST.out.ext HX7.out);have hgen:((((w7.setCell (qp w) (↑ym.kind)).setCell (qt w 1) (↑ym.n)).setCell (qt w 2) ym.s).setCell (qt w 3) (.slice Av ym.kids cv))=w7.setCells w 0 (cellsOf ym Av cv):=rfl;rw [hgen];generalize w7.setCells w 0 (cellsOf ym Av cv)=WF at *;exact bodyPost_ret (v:=cN ym Av cv) (by simp [results,Tryz.results88,go_sem,z0,z1,z2,z3]) rfl (by rw [HRE.out];exact ⟨Av,cv,rfl,hvz,hFz,hSz⟩)
theorem Mp (t:List GN)(path:List Int)(vn vp:Value)(hg:aO t t)(hpl:path.length<=1000000000)(f:Nat):sh t path vn vp f:=by
 induction f with
 | zero=>intro g i at_ good w hif;omega
 | succ f ih=>exact LN t path vn vp f hg hpl ih
theorem uT (t:List GN)(vn:Value)(gw gs gl gf:Nat)(P:Nat->Prop)(w:World)(h:dY t vn gw gs gl gf P w)(htl:t.length<=100000) :
  Calls Tryz.prog 63 #[qp gw] w fun e w'=>e=.returned (.int .i64 ((t:Int) - 1))∧w=w':=by
 have c0:=h.box.cell' (u:=qp gs) 0 rfl;have c1:=h.sets;obtain ⟨An,cn,en,hn1,hn2⟩:=h.nodes.form;subst en;clear h;go_enter Tryz.func63,Tryz.ntmps63;go_wp2_with fail;go_ret;exact ⟨rfl,rfl⟩
def tY (X:Nat->Prop)(r:GF)(w:World)(e:Ending)(w':World):Prop:=∃ A c,e=.returned (.tuple #[cN r.val A c,r.at_,r.good])∧VAt w' (fun b=>¬ X b) r.val A c∧Ext w w'
structure CE (w W:World)(gw:Nat)(vp:Value):Prop where
 b0:Blk W w 76 #[qp gw]
 b1:Blk W (w+1) 22 #[vp]
 b2:Blk W (w.heap.size+1+1) 58 #[qz,qz,qe,qn]
 b3:Blk W (w.heap.size+1+1+1) 3 #[qz]
 b4:Blk W (w.heap.size+1+1+1+1) 4 #[true]
 ext:Ext w W
 sz:W.heap.size=w+5
theorem DK (w:World)(gw:Nat)(vp:Value):CE w (((((w.alloc (qk #[qp gw] 76)).alloc (qk #[vp] 22)).alloc (qk #[qz,qz,qe,qn] 58)).alloc (qk #[qz] 3)).alloc (qk #[true] 4)) gw vp :=
 ⟨((((aw w 76 _).alloc _).alloc _).alloc _).alloc _,(((az (w.alloc _) 22 _ U).alloc _).alloc _).alloc _,((az ((w.alloc _).alloc _) 58 _ U).alloc _).alloc _,(az (((w.alloc _).alloc _).alloc _) 3 _ U).alloc _,az ((((w.alloc _).alloc _).alloc _).alloc _) 4 _ U,(((((aq w).alloc' _).alloc' _).alloc' _).alloc' _).alloc' _,U⟩
def vfa (gw gs gl gf B:Nat)(X:Nat->Prop):FA:=⟨gw,gs,gl,gf,B+1,B,B+1+1+1,B+1+1+1+1,fun b=>b=B+1+1∨X b⟩
theorem DJ {t:List GN}{path:List Int}{vn vp:Value}{gw gs gl gf:Nat}{P Pp X:Nat->Prop}{w W:World}(hX:∀ b,P b->¬ X b)(hXp:∀ b,Pp b->¬ X b)(hXl:∀ b,X b->b<w)(h:dY t vn gw gs gl gf P w)(hp:bL w Pp vp path)(hW:CE w W gw vp):kf t path vn vp (vfa gw gs gl gf w X) W∧FSt (vfa gw gs gl gf w X) 0 true W:=by
 have hQ:∀ b,b<w.heap.size->¬ X b->(vfa gw gs gl gf w X).Q b:=fun b hb hn=>by
  refine ⟨fun h=>?_,fun h=>?_⟩
  ·rcases h with h | h <;> (simp only [vfa] at h;omega)
  ·rcases h with h | h
   ·omega
   ·exact hn h
 have hN:∀ b,w.heap.size<=b->b<=w.heap.size+1->(vfa gw gs gl gf w X).Q b:=fun b hb hb2=>by
  refine ⟨fun h=>?_,fun h=>?_⟩
  ·rcases h with h | h <;> (simp only [vfa] at h;omega)
  ·rcases h with h | h
   ·omega
   ·have:=hXl _ h;omega
 refine ⟨⟨h.carry (aB.of_ext hW.ext) (fun b hb hp=>hQ b hb (hX b hp)),hW.b1.cell' 0 rfl,hW.b0.cell' 0 rfl,hp.carry (aB.of_ext hW.ext) (fun b hb hp=>hQ b hb (hXp b hp)),?_,?_,?_,?_⟩,hW.b3,hW.b4⟩
 ·exact hN _ iz iz
 ·exact hN _ iz iz
 ·simp only [vfa];omega
 ·intro b hb
  have:=hW.sz;rcases hb with hb | hb
  ·omega
  ·have:=hXl b hb;omega
theorem lT (t:List GN)(path:List Int)(vn vp:Value)(gw gs gl gf i:Nat)(P Pp X:Nat->Prop)(w:World)(hX:∀ b,P b->¬ X b)(hXp:∀ b,Pp b->¬ X b)(hXl:∀ b,X b->b<w)(h:dY t vn gw gs gl gf P w)(hp:bL w Pp vp path)(hg:aO t t)(hi:i<t)(hpl:path.length<=1000000000) :
  qg 64 #[qp gw,↑i,vp] w (tY X (dF t path t i 0 true) w):=by
 have HQ:=aYf (And.intro hX (And.intro hXp hXl));have HH:=aYf h;have HPP:=aYf hp;have HG:=aYf hg;obtain ⟨Ap,cp,ep,hp1,hp2⟩:=hp.form;subst ep;clear h hp hg hX hXp hXl;go_enter Tryz.func64,Tryz.ntmps64;go_wp2_with fail;have HW:=aYf (DK w gw (.slice Ap path cp));generalize ((((w.alloc (qk #[qp gw] 76)).alloc (qk #[.slice Ap path cp] 22)).alloc (qk #[qz,qz,qe,qn] 58)).alloc (qk #[qz] 3)).alloc (qk #[true] 4)=W at *;have HEV:=aYf (DJ HQ.out.1 HQ.out.2.1 HQ.out.2.2 HH.out HPP.out HW.out);refine (Mp t path vn _ HG.out hpl t (vfa gw gs gl gf w X) i 0 true W hi hi HEV.out.1 HEV.out.2 I I).mono ?_;rintro e wu ⟨A2,d2,rfl,hv2,hfu,hsu⟩;have hX:Ext w wu:=((ar (M:=fun b=>w.heap.size<=b) HW.out.ext).trans (hfu.mono (fun b hb=>by rcases hb with hb | hb <;> (simp only [vfa] at hb;omega)))).new_ext (fun b hb=>hb);have hB2:=HW.out.b2.fr hfu (fun hb=>by rcases hb with hb | hb <;> (simp only [vfa] at hb;omega));generalize dF t path t (i:Int) 0 true=rr at *;obtain ⟨y,at2,gd2⟩:=rr;simp only at hv2 hsu;have ca:qc wu (w.heap.size+1+1+1) 0 at2:=hsu.1.cell' 0 rfl;have cg:qc wu (w.heap.size+1+1+1+1) 0 gd2:=hsu.2.cell' 0 rfl;have lg:=bB cg;have HV2:=aYf hv2;have HXU:=aYf hX;have HBR:=aYf hB2;clear hv2 hfu hsu hX hB2;go_wp2_with fail;have HXQ:=aYf ((aq wu).alloc' (qk (qh y A2 d2) 58));have HBQ:=aYf (aw wu 58 (qh y A2 d2));generalize wu.alloc (qk (qh y A2 d2) 58)=Wq at *;obtain ⟨y0,y1,y2,y3⟩:=aU HBQ.out;have ea:=aA HXQ.out ca;have eg:=aA HXQ.out cg;have hBQ:=HBR.out.ext HXQ.out;obtain ⟨r0,r1,r2,r3⟩:=aU hBQ;have f0:=hBQ.frozen 0;have f1:=hBQ.frozen 1;have f2:=hBQ.frozen 2;have f3:=hBQ.frozen 3;have HRQ:=aYf hBQ;have n1:¬ wu.heap.size=w+1+1:=by omega
 have n2:¬ w.heap.size+1+1+1=w+1+1:=I;have n3:¬ w.heap.size+1+1+1+1=w+1+1:=I;clear hBQ ca cg
 go_region_held3 (fun w'=>qc w' wu 0 y.kind∧qc w' wu 1 y.n∧qc w' wu 2 y.s∧qc w' wu 3 (.slice A2 y.kids d2)∧qc w' (w.heap.size+1+1+1) 0 at2∧qc w' (w.heap.size+1+1+1+1) 0 gd2)
  (first
   | with_reducible exact ⟨cK n1 y0,cK n1 y1,cK n1 y2,cK n1 y3,cK n2 ea,cK n3 eg⟩
   | with_reducible exact ⟨cV n1 y0,cV n1 y1,cV n1 y2,cV n1 y3,cV n2 ea,cV n3 eg⟩
   | go_keep)
  (first
   | fail)
 go_wp2_with fail;clear r0 r1 r2 r3;have hb:=aF (cellsOf y A2 d2) (cs:=[qz,qz,qe,qn]) 0 HRQ.out fs;have e:(([↑qz,↑qz,↑qe,↑qn]:List Value).take 0 ++ cellsOf y A2 d2 ++ ([↑qz,↑qz,↑qe,↑qn]:List Value).drop (0+(cellsOf y A2 d2).length)).toArray=(cellsOf y A2 d2).toArray:=by simp [cellsOf]
 rw [e] at hb;have z0:=hb.cell' (u:=↑y.kind) 0 rfl;have z1:=hb.cell' (u:=↑y.n) 1 rfl;have z2:=hb.cell' (u:=y.s) 2 rfl;have z3:=hb.cell' (u:=.slice A2 y.kids d2) 3 rfl;have hXF:Ext w (Wq.setCells (w.heap.size+1+1) 0 (cellsOf y A2 d2)):=((ar (M:=fun _=>False) (HXU.out.trans' HXQ.out)).setCells _ 0 (.inr I)).ext;have hVF:VAt (Wq.setCells (w.heap.size+1+1) 0 (cellsOf y A2 d2)) (fun b=>¬ X b) y A2 d2:=(HV2.out.ext HXQ.out).carry (aB.setCells (fun h=>h.2 (.inl rfl)) _ 0 (fun _ _ _=>rfl)) (fun _ _ h hx=>h.2 (.inr hx));have hgen:(((Wq.setCell (qp (w.heap.size+1+1)) (↑y.kind)).setCell (qt (w.heap.size+1+1) 1) (↑y.n)).setCell (qt (w.heap.size+1+1) 2) y.s).setCell (qt (w.heap.size+1+1) 3) (.slice A2 y.kids d2)=Wq.setCells (w.heap.size+1+1) 0 (cellsOf y A2 d2):=rfl;rw [hgen];generalize Wq.setCells (w.heap.size+1+1) 0 (cellsOf y A2 d2)=WF at *;exact bodyPost_ret (v:=.tuple #[cN y A2 d2,↑at2,gd2]) (by simp [results,Tryz.results64,go_sem,z0,z1,z2,z3]) rfl ⟨A2,d2,rfl,hVF.ext (aq _).drew',hXF.drew'⟩
def GQ (b:Bool)(w:World)(e:Ending)(w':World):Prop:=∃ (y:GV)(A:Option Addr)(c:Nat),e=.returned (.tuple #[cN y A c,b])∧Ext w w'
theorem xG (t:List GN)(path:List Int)(vn vp:Value)(gw gs gl gf:Nat)(P Pp:Nat->Prop)(w:World)(h:dY t vn gw gs gl gf P w)(hp:bL w Pp vp path)(hg:aO t t)(hpl:path.length<=1000000000) :
  qg 36 #[qp gw,vp] w (GQ (aQ t path) w):=by
 have htl:t.length<=4096:=hg.2.1;have HRT:=aYf (show ∀ W,Ext w W->Calls Tryz.prog 63 #[qp gw] W fun e w'=>e=.returned (.int .i64 ((t:Int) - 1))∧W=w' from fun W hx=>uT t vn gw gs gl gf P W (h.carry (aB.of_ext hx) (fun _ _ h=>h)) I);have HWB:=aYf (show aQ t path=(decide (0<t.length) && (dF t path t ((t:Int) - 1) 0 true).good && decide ((dF t path t ((t:Int) - 1) 0 true).at_=path)) from rfl);obtain ⟨Ap,cp,ep,hp1,hp2⟩:=hp.form;subst ep;by_cases h0:t.length=0
 ·have HF:=aYf (show aQ t path=false by rw [HWB.out,aYj I];rfl)
  have HZ:=aYf (show ((t:Int) - 1)=-1 by omega);rw [HZ.out] at HRT;clear h hp hg h0;go_enter Tryz.func36,Tryz.ntmps36;go_wp2_with fail;have HX:=aYf ((aq w).alloc' (qk #[qz,qz,qe,qn] 58));have HB:=aYf (aw w 58 #[qz,qz,qe,qn]);generalize w.alloc (qk #[qz,qz,qe,qn] 58)=W at *;obtain ⟨r0,r1,r2,r3⟩:=aU HB.out;have f0:=HB.out.frozen 0;have f1:=HB.out.frozen 1;have f2:=HB.out.frozen 2;have f3:=HB.out.frozen 3;refine (HRT.out W HX.out).mono ?_;rintro e w1 ⟨rfl,rfl⟩;go_wp2_with fail;have hb:=aF [qz,qz,qe,qn] (cs:=[qz,qz,qe,qn]) 0 HB.out U;have z0:=hb.cell' (u:=qz) 0 rfl;have z1:=hb.cell' (u:=qz) 1 rfl;have z2:=hb.cell' (u:=qe) 2 rfl;have z3:=hb.cell' (u:=qn) 3 rfl;have hXF:Ext w (W.setCells w 0 [qz,qz,qe,qn]):=((ar (M:=fun _=>False) HX.out).setCells _ 0 (.inr (ab _))).ext;have hgen:(((W.setCell (qp w) qz).setCell (qt w 1) qz).setCell (qt w 2) qe).setCell (qt w 3) qn=W.setCells w 0 [qz,qz,qe,qn]:=rfl;rw [hgen];generalize W.setCells w 0 [qz,qz,qe,qn]=WF at *;exact bodyPost_ret (v:=.tuple #[cN (.mk 0 0 ⟨#[]⟩ []) none 0,false]) (by simp [results,Tryz.results36,go_sem,z0,z1,z2,z3];exact ⟨rfl,rfl,rfl,rfl⟩) rfl ⟨.mk 0 0 ⟨#[]⟩ [],none,0,by rw [HF.out],hXF⟩
 ·obtain ⟨n,hn⟩:∃ n:Nat,t.length=n+1:=⟨t.length - 1,I⟩
  have HZ:=aYf (show ((t:Int) - 1)=(n:Int) by omega);rw [HZ.out] at HRT HWB;have HVA:=aYf (show ∀ W,Ext w W->qg 64 #[qp gw,↑n,.slice Ap path cp] W (tY (fun _=>False) (dF t path t n 0 true) W) from fun W hx=>lT t path vn _ gw gs gl gf n P Pp _ W (fun _ _ h=>h) (fun _ _ h=>h) (fun _ h=>h.elim) (h.carry (aB.of_ext hx) (fun _ _ h=>h)) (hp.ext hx) hg I hpl);have HF:=aYf (show aQ t path=((dF t path t (n:Int) 0 true).good && decide ((dF t path t (n:Int) 0 true).at_=path)) by rw [HWB.out,aYi I];simp);generalize dF t path t (n:Int) 0 true=rr at *;obtain ⟨y,at2,gd2⟩:=rr;simp only at HF;clear h hp hg h0 hn;go_enter Tryz.func36,Tryz.ntmps36;go_wp2_with fail;have HX:=aYf ((aq w).alloc' (qk #[qz,qz,qe,qn] 58));have HB:=aYf (aw w 58 #[qz,qz,qe,qn]);generalize w.alloc (qk #[qz,qz,qe,qn] 58)=W at *;refine (HRT.out W HX.out).mono ?_;rintro e w1 ⟨rfl,rfl⟩;go_wp2_with fail;refine (HRT.out W HX.out).mono ?_;rintro e w1 ⟨rfl,rfl⟩;go_wp2_with fail;refine (HVA.out W HX.out).mono ?_;rintro e w2 ⟨A2,d2,rfl,hv2,hx2⟩;have hB2:=HB.out.ext hx2;obtain ⟨r0,r1,r2,r3⟩:=aU hB2;have f0:=hB2.frozen 0;have f1:=hB2.frozen 1;have f2:=hB2.frozen 2;have f3:=hB2.frozen 3;have lr:=hB2.lt;have HB2:=aYf hB2;have HX2:=aYf (HX.out.trans' hx2);clear hB2 hx2 hv2;cases gd2
  ·have HF2:=aYf (show aQ t path=false by rw [HF.out];rfl)
   go_wp2_with fail;have hb:=aF (cellsOf y A2 d2) (cs:=[qz,qz,qe,qn]) 0 HB2.out fs;have z0:=(hb.alloc (qk (qh y A2 d2) 58)).cell' (u:=↑y.kind) 0 rfl;have z1:=(hb.alloc (qk (qh y A2 d2) 58)).cell' (u:=↑y.n) 1 rfl;have z2:=(hb.alloc (qk (qh y A2 d2) 58)).cell' (u:=y.s) 2 rfl;have z3:=(hb.alloc (qk (qh y A2 d2) 58)).cell' (u:=.slice A2 y.kids d2) 3 rfl;have hXF:Ext w (w2.setCells w 0 (cellsOf y A2 d2)):=((ar (M:=fun _=>False) HX2.out).setCells _ 0 (.inr (ab _))).ext;have hgen:(((w2.setCell (qp w) (↑y.kind)).setCell (qt w 1) (↑y.n)).setCell (qt w 2) y.s).setCell (qt w 3) (.slice A2 y.kids d2)=w2.setCells w 0 (cellsOf y A2 d2):=rfl;rw [hgen];generalize w2.setCells w 0 (cellsOf y A2 d2)=WF at *;exact bodyPost_ret (v:=.tuple #[cN y A2 d2,false]) (by simp [results,Tryz.results36,go_sem,z0,z1,z2,z3]) rfl ⟨y,A2,d2,by rw [HF2.out],hXF.alloc' _⟩
  ·have HF2:=aYf (show aQ t path=decide (at2=path) by rw [HF.out];rfl)
   obtain ⟨bb,hbb⟩:∃ bb,bb=(at2 == (path:Int)):=⟨_,rfl⟩;have tb:(at2 == (path:Int))=bb:=hbb.symm;have HBB:=aYf (show aQ t path=bb by rw [HF2.out,hbb];rfl);clear hbb;go_wp2_with fail;have hb:=aF (cellsOf y A2 d2) (cs:=[qz,qz,qe,qn]) 0 HB2.out fs;have z0:=(hb.alloc (qk (qh y A2 d2) 58)).cell' (u:=↑y.kind) 0 rfl;have z1:=(hb.alloc (qk (qh y A2 d2) 58)).cell' (u:=↑y.n) 1 rfl;have z2:=(hb.alloc (qk (qh y A2 d2) 58)).cell' (u:=y.s) 2 rfl;have z3:=(hb.alloc (qk (qh y A2 d2) 58)).cell' (u:=.slice A2 y.kids d2) 3 rfl;have hXF:Ext w (w2.setCells w 0 (cellsOf y A2 d2)):=((ar (M:=fun _=>False) HX2.out).setCells _ 0 (.inr (ab _))).ext;have hgen:(((w2.setCell (qp w) (↑y.kind)).setCell (qt w 1) (↑y.n)).setCell (qt w 2) y.s).setCell (qt w 3) (.slice A2 y.kids d2)=w2.setCells w 0 (cellsOf y A2 d2):=rfl;rw [hgen];generalize w2.setCells w 0 (cellsOf y A2 d2)=WF at *;exact bodyPost_ret (v:=.tuple #[cN y A2 d2,.bool bb]) (by simp [results,Tryz.results36,go_sem,z0,z1,z2,z3]) rfl ⟨y,A2,d2,by rw [HBB.out],hXF.alloc' _⟩
