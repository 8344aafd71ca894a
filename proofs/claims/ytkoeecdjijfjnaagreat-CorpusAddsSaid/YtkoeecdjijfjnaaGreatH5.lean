/- Contracts of functions, plain laws. Conditions: none. -/
import Derived.Test.YtkoeecdjijfjnaaGreatH4
set_option maxRecDepth 100000
set_option maxHeartbeats 8000000
namespace Go.Proofs.YtkoeecdjijfjnaaGreat
open Go.RowKit
def aJy (g:FA)(r:GF)(w:World)(e:Ending)(w':World):Prop:=∃ A c,e=.returned (eI r.val A c)∧VAt w' g.Q r.val A c∧Fr g.M w w'∧FSt g r.at_ r.good w'
def aV2 (g:FA):Value:=.func (.func 146) #[] #[.pointer (some ⟨g.a,0,none⟩),.pointer (some ⟨g.p,0,none⟩),.pointer (some ⟨g.b,0,none⟩),.pointer (some ⟨g.g,0,none⟩)]
def yS (t:List GN)(path:List Int)(vn vp:Value)(f:Nat):Prop:=∀ (g:FA)(i:Nat)(at_:Int)(good:Bool)(w:World),i<f->i<t.length->aCa t path vn vp g w->FSt g at_ good w->0<=at_->at_<=path.length ->
 Calls Tryz.prog 145 #[.pointer (some ⟨g.w,0,none⟩),.int .i64 i,.bool true,.func (.func 146) #[] #[.pointer (some ⟨g.a,0,none⟩),.pointer (some ⟨g.p,0,none⟩),.pointer (some ⟨g.b,0,none⟩),.pointer (some ⟨g.g,0,none⟩)]] w (aJy g (iT t path f i at_ good) w)
theorem pX {g:FA}{w w1:World}{y:GV}{A:Option Addr}{c gr:Nat}{at_:Int}{good:Bool}{cs:List Value}(hgr:w.heap.size<=gr)(hm:∀ b,g.M b->b<w.heap.size)(hF:Fr g.M w w1)(hB:Blk w1 gr 85 cs.toArray)(hcs:cs.length=4)(hv:VAt w1 (fun b=>g.Q b∧b ≠ gr) y A c)(hS:FSt g at_ good w1) :
  (w1.setCells gr 0 (cellsOf y A c)).cell? ⟨gr,0,none⟩=some (.int .i64 y.kind)∧(w1.setCells gr 0 (cellsOf y A c)).cell? ⟨gr,1,none⟩=some (.int .i64 y.n)∧(w1.setCells gr 0 (cellsOf y A c)).cell? ⟨gr,2,none⟩=some (.string y.s)∧(w1.setCells gr 0 (cellsOf y A c)).cell? ⟨gr,3,none⟩=some (.slice A y.kids.length c) ∧
   VAt (w1.setCells gr 0 (cellsOf y A c)) g.Q y A c∧Fr g.M w (w1.setCells gr 0 (cellsOf y A c))∧FSt g at_ good (w1.setCells gr 0 (cellsOf y A c)):=by
 have hb:=aR (cellsOf y A c) 0 hB (by simp [cellsOf];omega)
 have e:(cs.take 0 ++ cellsOf y A c ++ cs.drop (0+(cellsOf y A c).length)).toArray=(cellsOf y A c).toArray:=by
  rw [List.take_zero,List.nil_append,Nat.zero_add,List.drop_eq_nil_of_le (by simp [cellsOf];omega),List.append_nil]
 rw [e] at hb;have n1:¬ g.M gr:=fun h=>by have:=hm _ h;omega
 refine ⟨hb.cell' 0 rfl,hb.cell' 1 rfl,hb.cell' 2 rfl,hb.cell' 3 rfl,hv.carry (aD.setCells (fun h=>h.2 rfl) _ 0 (fun _ _ _=>rfl)) (fun b _ h=>h.1),hF.setCells _ 0 (.inr hgr),hS.1.farCells (fun e=>n1 (.inl e.symm)) _ 0,hS.2.farCells (fun e=>n1 (.inr e.symm)) _ 0⟩
theorem aJf {a b:Prop}:¬ (a∨b) ↔ ¬ a∧¬ b:=⟨fun h=>⟨fun ha=>h (.inl ha),fun hb=>h (.inr hb)⟩,fun h hab=>hab.elim h.1 h.2⟩
theorem cS {w:World}{g b off:Nat}{u u0 u1 u2 u3:Value}(hne:¬ b=g)(h:w.cell? ⟨b,off,none⟩=some u):((((w.setCell ⟨g,0,none⟩ u0).setCell ⟨g,1,none⟩ u1).setCell ⟨g,2,none⟩ u2).setCell ⟨g,3,none⟩ u3).cell? ⟨b,off,none⟩=some u:=fX (o:=0) hne h
theorem cK {w:World}{g b off:Nat}{u u0 u1 u2 u3:Value}(hne:¬ b=g)(h:w.cell? ⟨b,off,none⟩=some u):((((w.setCell ⟨g,0,none⟩ u0).setCell ⟨g,1,none⟩ u1).setCell ⟨g,2,none⟩ u2).setCell ⟨g,3,none⟩ u3).drew.cell? ⟨b,off,none⟩=some u:=by rw [fN];exact cS hne h
theorem aB2 {path:List Int}{x:GN}{j:Nat}{at_:Int}{good:Bool}(hn:dP j x)(_:0<=at_)(h1:at_<=path.length):at_<=(cJ path x at_ good).2.1∧(cJ path x at_ good).2.1<=path.length∧0<=(cJ path x at_ good).1∧(x.kind=1->x.lo+(cJ path x at_ good).1<=x.hi)∧(x.kind=2->(cJ path x at_ good).1<x.kids.length):=by
 unfold cJ;have hnum:=cY hn.numbers;have hopt:=eR hn
 split
 ·exact ⟨Int.le_refl _,h1,Int.le_refl _,fun _=>by show x.lo+0<=_;omega,fun h2=>by have:=hn.choice h2;show (0:Int)<_;omega⟩
 ·next h =>
  rw [aJf,aJf] at h;refine ⟨by show at_<=at_+1;omega,by show at_+1<=_;omega,by show 0<=_;omega,fun hk=>?_,fun hk=>?_⟩
  ·rw [if_pos hk] at hopt;show x.lo+path.getD at_.toNat 0<=_;omega
  ·rw [if_neg (by omega)] at hopt;show path.getD at_.toNat 0<_;omega
theorem _root_.Go.World.ownsRow.fr_ {w w':World}{base:Nat}{e:TypeId}{size:Nat}{v:Value}{n:Nat}{xs:List Value}{M:Nat->Prop}(h:w.ownsRow base e size v n xs)(hf:Fr M w w')(hm:∀ b,M b->b<base):w'.ownsRow base e size v n xs:=by
 refine ⟨h.1,?_⟩;rcases h.2 with h | ⟨g,cap,cur,h1,h2,h3,h4⟩
 ·exact .inl h
 ·exact .inr ⟨g,cap,cur,h1,h2,(Blk.fr (t:=e) h3 hf (fun hb=>by have:=hm _ hb;omega)),h4⟩
def aFo (r:Int->Int->Bool->GF)(path:List Int)(name:ByteArray)(kids:List Int)(g:FA)(w W:World)(R0:GF)(v i:Value)(wr:World):Prop :=
 ∃ (k:Nat) (at_:Int) (good:Bool) (done:List GV) (xs:List Value),k<=kids.length∧i=.int .i64 k∧wr.ownsRow W.heap.size 85 4 v k xs∧RVs wr (Off (fun b=>g.Q b∧b<w.heap.size) W.heap.size wr v) done xs∧Fr g.M w wr∧W.heap.size<=wr.heap.size∧FSt g at_ good wr∧0<=at_∧at_<=path.length∧done.length=k ∧
  Blk wr w.heap.size 85 #[.int .i64 0,.int .i64 0,.string ⟨#[]⟩,.slice none 0 0]∧R0=fF r name at_ good done (kids.drop k)
theorem aHz {g:FA}{w W wr wu:World}{v:Value}{done:List GV}{xs:List Value}(hm:∀ b,g.M b->b<w.heap.size)(hW:w.heap.size<W.heap.size)(hr:RVs wr (Off (fun b=>g.Q b∧b<w.heap.size) W.heap.size wr v) done xs)(hf:Fr g.M wr wu):RVs wu (Off (fun b=>g.Q b∧b<w.heap.size) W.heap.size wu v) done xs :=
 RVs.carry (aD.of_fr hf (fun b hb hM=>by have:=hm b hM;rcases hb.1 with h | h;exact h.1.1 hM;omega)) (fun b hb h=>⟨h.1,Nat.lt_of_lt_of_le hb hf.size,h.2.2⟩) hr
theorem aEj {r:Int->Int->Bool->GF}{path:List Int}{name:ByteArray}{kids:List Int}{g:FA}{w W wu w5 w6:World}{R0:GF}{v v6:Value}{k:Nat}{at_ at2:Int}{good gd2:Bool}{done:List GV}{xs:List Value}{y:GV}{A2:Option Addr}{d2:Nat}(hm:∀ b,g.M b->b<w.heap.size)(hW:w.heap.size<W.heap.size)(_:∀ b,g.X b->b<w.heap.size)
  (hk:k<kids.length)(ho:wu.ownsRow W.heap.size 85 4 v k xs)(hr:RVs wu (Off (fun b=>g.Q b∧b<w.heap.size) W.heap.size wu v) done xs)(hF:Fr g.M w wu)(hsz:W.heap.size<=wu.heap.size)(hS:FSt g at2 gd2 wu)(h0:0<=at2)(h1:at2<=path.length)(hd:done.length=k)(hB:Blk wu w.heap.size 85 #[.int .i64 0,.int .i64 0,.string ⟨#[]⟩,.slice none 0 0])
  (hR:R0=fF r name at_ good done (kids.drop k))(hy:r (kids.getD k 0) at_ good=⟨y,at2,gd2⟩)(h5:Ext wu w5)(hv:VAt w5 (fun b=>((g.Q b∧b<w.heap.size)∨W.heap.size<=b)∧some b ≠ v.ownBlock) y A2 d2)
  (ho6:w6.ownsRow W.heap.size 85 4 v6 (k+1) (xs ++ [.int .i64 y.kind,.int .i64 y.n,.string y.s,.slice A2 y.kids.length d2]))(hf6:Fr (fun k=>some k=v.ownBlock) (w5.alloc (.cells #[.int .i64 y.kind,.int .i64 y.n,.string y.s,.slice A2 y.kids.length d2] 85)) w6)
  (hb6:v6.ownBlock=v.ownBlock∨v6.ownBlock=some (w5.alloc (.cells #[.int .i64 y.kind,.int .i64 y.n,.string y.s,.slice A2 y.kids.length d2] 85)).heap.size):aFo r path name kids g w W R0 v6 (.int .i64 ((k:Int)+1)) w6:=by
 have hrow:∀ b,some b=v.ownBlock->W.heap.size<=b:=fun b hb=>ho.block_ge hb.symm
 have hx5:Ext wu (w5.alloc (.cells #[.int .i64 y.kind,.int .i64 y.n,.string y.s,.slice A2 y.kids.length d2] 85)):=h5.alloc' _;have hF6:Fr g.M w w6:=(hF.trans (Fr.of_ext hx5)).trans_new (hf6.mono (fun b hb=>.inr (by have:=hrow b hb;omega)));refine ⟨k+1,at2,gd2,done ++ [y],_,by omega,by simp,ho6,wC ho hr h5 hv hf6 hb6,hF6,?_,?_,h0,h1,by simp [hd],?_,?_⟩
 ·exact Nat.le_trans (Nat.le_trans hsz hx5.size) hf6.size
 ·exact ⟨(hS.1.ext hx5).fr hf6 (fun e=>by have h1:=hrow _ e;have h2:=hm _ (.inl rfl);omega),(hS.2.ext hx5).fr hf6 (fun e=>by have h1:=hrow _ e;have h2:=hm _ (.inr rfl);omega)⟩
 ·exact (hB.ext hx5).fr hf6 (fun e=>by have h1:=hrow _ e;omega)
 ·rw [hR,aH 0 hk]
  simp only [fF,hy]
theorem aH0 (t:List GN)(path:List Int)(vn vp:Value)(f:Nat)(hg:bJ t t.length)(hpl:path.length<=1000000)(ih:yS t path vn vp f):yS t path vn vp (f+1):=by
 intro g i at_ good w hif hit hE hS h0 h1;have HIH:=aV4 ih;have HG:=aV4 hg;have htl:t.length<=4096:=hg.2.1;have HMX:=aV4 (show ∀ b,g.M b->b<w.heap.size from fun b hb=>hb.elim (fun e=>e ▸ hS.1.lt) (fun e=>e ▸ hS.2.lt));have HFR:=aV4 (show iT t path (f+1) i at_ good=nA (iT t path f) t path i (t.getD i default) at_ good by simp only [iT,Int.toNat_natCast]);have hlenok:=kC hg i hit;have hcheck:=hg.at_ hit;have hfew:=fE hg hit;have HFO:=aV4 (fun (z:Nat) (k:Int) (gd:Bool) (hz:z<i) (a0:0<=k) (a1:k<=path.length)=>aEk hg path hpl f z k gd (by omega) (by omega) a0 a1);obtain ⟨An,dn,en,hn1,hn2⟩:=hE.walk.nodes.form;subst en;obtain ⟨bn,on,a,rfl,hqn,hxx,hnn⟩:=hE.walk.nodes.get hit;obtain ⟨x,hxd⟩:∃ x,x=t.getD i default:=⟨_,rfl⟩;have HXD:=aV4 hxd;rw [<- hxd] at hxx hnn hfew HFR;have HOK:=aV4 (show dP i x from hxd ▸ hcheck.node);have HCV:=aV4 (show x.kind=4->((aI t).getD (x.kids.getD 0 0).toNat default).many=false∧((aI t).getD (x.kids.getD 0 0).toNat default).vals=x.values from fun h4=>by rw [hxd] at h4 ⊢;exact ⟨hcheck.many h4,hcheck.vals h4⟩);have HLK:=aV4 hlenok;have HQN:=aV4 hqn;have HEW:=aV4 hE;have HSW:=aV4 hS;have hii:(i:Int)<(t.length:Int):=by omega
 have hi0:(0:Int)<=(i:Int):=by omega
 have HNW:=aV4 hnn;have HXW:=aV4 hxx;have HX0:=aV4 ((Ext.refl w).alloc' (.cells #[.int .i64 0,.int .i64 0,.string ⟨#[]⟩,.slice none 0 0] 85));have HB0:=aV4 (Blk.new w 85 #[.int .i64 0,.int .i64 0,.string ⟨#[]⟩,.slice none 0 0]);have HS0:=aV4 (show w.heap.size<(w.alloc (.cells #[.int .i64 0,.int .i64 0,.string ⟨#[]⟩,.slice none 0 0] 85)).heap.size by simp);clear hlenok hcheck hqn hE hS hnn hxx hxd ih hg;go_enter Tryz.func145,Tryz.ntmps145;go_upto_region 1 with fail;generalize w.alloc (.cells #[.int .i64 0,.int .i64 0,.string ⟨#[]⟩,.slice none 0 0] 85)=W at *;have HE:=aV4 (HEW.out.ext HX0.out);have HS:=aV4 (HSW.out.ext HX0.out);have HN:=aV4 (HNW.out.ext HX0.out);have HX:=aV4 (HXW.out.carry (Q:=fun b=>g.Q b∧b<w.heap.size) (aD.of_ext HX0.out) (fun b hb h=>⟨h,hb⟩));have hll:(aT t).length=t.length:=by unfold aT;rw [eM];simp
 have w0:=HE.out.walk.box.cell' (u:=.pointer (some ⟨g.s,0,none⟩)) 0 rfl;have w1:=HE.out.walk.box.cell' (u:=.slice (some ⟨g.l,0,none⟩) t.length t.length) 1 rfl;have w2:=HE.out.walk.box.cell' (u:=.slice (some ⟨g.f,0,none⟩) t.length t.length) 2 rfl;have ws:=HE.out.walk.sets;have wl:=HE.out.walk.lens.cell' i (kQ (l:=aT t) (by omega));have c0:=HN.out.c0;have c2:=HN.out.c2;have c7:=HN.out.c7;have HLR:=aV4 (show ∃ lr,lr=(aT t).getD i 0 from ⟨_,rfl⟩);obtain ⟨lr,hlr⟩:=HLR.out;have HLE:=aV4 hlr;rw [<- hlr] at wl;obtain ⟨r0,r1,r2,r3⟩:=aY HB0.out;have f0:=HB0.out.frozen 0;have f1:=HB0.out.frozen 1;have f2:=HB0.out.frozen 2;have f3:=HB0.out.frozen 3;clear hlr hll HLR
 by_cases hz:lr=0
 ·subst hz
  have hfl:(sA t).length=t.length:=by rw [<- uG,zT (Nat.le_refl _)]
  have HFF:=aV4 (show iT t path (f+1) i at_ good=⟨(sA t).getD i default,at_,good⟩ by rw [HFR.out];unfold nA;rw [Int.toNat_natCast,if_pos HLE.out.symm]);obtain ⟨bf,of,Af,df,ef,-,hvf,q0,q1,q2,q3⟩:=HEW.out.walk.fixed.get (i:=i) (by omega);injection ef with ef;injection ef with ef1 ef2;subst ef1 ef2;rw [Nat.zero_add] at q0 q1 q2 q3;have hne:=aP q0;have HVF:=aV4 (hvf.carry (Q:=fun b=>g.Q b∧b ≠ w.heap.size) (aD.of_ext HX0.out) (fun b hb h=>⟨h,by omega⟩));have q0':=aB HX0.out q0;have q1':=aB HX0.out q1;have q2':=aB HX0.out q2;have q3':=aB HX0.out q3;clear hvf hfl q0 q1 q2 q3;generalize (sA t).getD i default=y at *;go_wp2_with fail;obtain ⟨z0,z1,z2,z3,hvz,hFz,hSz⟩:=pX (gr:=w.heap.size) (cs:=[.int .i64 0,.int .i64 0,.string ⟨#[]⟩,.slice none 0 0]) (Nat.le_refl _) HMX.out (Fr.of_ext HX0.out) HB0.out rfl HVF.out HS.out;have hgen:((((W.setCell ⟨w.heap.size,0,none⟩ (.int .i64 y.kind)).setCell ⟨w.heap.size,1,none⟩ (.int .i64 y.n)).setCell ⟨w.heap.size,2,none⟩ (.string y.s)).setCell ⟨w.heap.size,3,none⟩ (.slice Af y.kids.length df))=W.setCells w.heap.size 0 (cellsOf y Af df):=rfl;rw [hgen];generalize W.setCells w.heap.size 0 (cellsOf y Af df)=WF at *;exact bodyPost_ret (v:=eI y Af df) (by simp [results,Tryz.results145,go_sem,z0,z1,z2,z3]) rfl (by rw [HFF.out];exact ⟨Af,df,rfl,hvz,hFz,hSz⟩)
 have tz:(lr == 0)=false:=aV5 hz
 have HFZ:=aV4 (show iT t path (f+1) i at_ good=if x.kind=1 then ⟨.mk 0 (x.lo+(cJ path x at_ good).1) ByteArray.empty [],(cJ path x at_ good).2.1,(cJ path x at_ good).2.2⟩
   else if x.kind=2 then iT t path f (x.kids.getD (cJ path x at_ good).1.toNat 0) (cJ path x at_ good).2.1 (cJ path x at_ good).2.2
   else if x.kind=4 then iT t path f (x.kids.getD ((cR x.values (iT t path f (x.kids.getD 0 0) at_ good).val).1+1) 0) (iT t path f (x.kids.getD 0 0) at_ good).at_ (iT t path f (x.kids.getD 0 0) at_ good).good
   else fF (iT t path f) x.name at_ good [] x.kids by rw [HFR.out];unfold nA;rw [Int.toNat_natCast,if_neg (by rw [<- HLE.out];exact hz)])
 have hk0:¬ x.kind=0:=fun e=>hz (by rw [HLE.out];exact HLK.out.leaf (by rw [<- HXD.out];exact e))
 have hkd:=HOK.out.kind;have HNM:=aV4 (show ¬ g.M w.heap.size from fun h=>by have:=HMX.out _ h;omega);have lbn:=HNW.out.lt;have hbr:¬ bn=w.heap.size:=by omega
 have HCHO:=aV4 (show ∀ W',Ext W W'->Calls Tryz.prog 146 #[.int .i64 i,.pointer (some ⟨g.a,0,none⟩),.pointer (some ⟨g.p,0,none⟩),.pointer (some ⟨g.b,0,none⟩),.pointer (some ⟨g.g,0,none⟩)] W' (aSi g (cJ path x at_ good) W') from fun W' h=>by
  rw [HXD.out];exact aB1 t path _ vp g i at_ good W' (HE.out.ext h) (HS.out.ext h) hit h0 h1 hpl (by omega))
 have HBD:=aV4 (aB2 (good:=good) HOK.out h0 h1)
 by_cases k1:x.kind=1
 ·have tk1:(x.kind == 1)=true:=aV6 k1
  rw [if_pos k1] at HFZ;have hb1:=HBD.out.2.2.1;have hb2:=HBD.out.2.2.2.1 k1;have hnum:=cY HOK.out.numbers;generalize cJ path x at_ good=rc at *;obtain ⟨c,at2,gd2⟩:=rc;simp only at hb1 hb2 HFZ;have HVY:=aV4 (show ∀ W' Q,VAt W' Q (.mk 0 (x.lo+c) ByteArray.empty []) none 0 from fun W' Q=>⟨by unfold I64;simp [GV.kind],by unfold I64;simp only [GV.n];omega,by simp [GV.s],Nat.le_refl _,⟨by simp [GV.kids],by omega⟩,⟨none,0,[],rfl,Nat.le_refl _,⟨by simp [GV.kids],by omega⟩,⟨rfl,fun h=>absurd h (by simp [GV.kids])⟩,rfl⟩⟩);have hwr:IntKind.i64.wrap (x.lo+c)=x.lo+c:=IntWalk.i64_in _ (by omega);clear k1 hkd hk0 c7;go_wp2_with fail
  go_region_held3 (fun w'=>w'.cell? ⟨bn,on+i*12+2,none⟩=some (.int .i64 x.lo))
   (first
    | with_reducible exact cS hbr c2'
    | with_reducible exact cK hbr c2'
    | with_reducible exact c2'
    | go_keep)
   (first
    | (go_at_call 146;refine (HCHO.out _ (Ext.refl _).drew').mono ?_;rintro e wv ⟨rfl,hfc,hst⟩;have c2':=kX hfc HQN.out.1 c2;have hBv:=(HB0.out.drew).fr hfc HNM.out;obtain ⟨z0,z1,z2,z3⟩:=aY hBv;have zf0:=hBv.frozen 0;have zf1:=hBv.frozen 1;have zf2:=hBv.frozen 2;have zf3:=hBv.frozen 3))
  go_wp2_with fail;have hFw:Fr g.M w wv:=(Fr.of_ext HX0.out.drew').trans hfc;clear z0 z1 z2 z3;obtain ⟨z0,z1,z2,z3,hvz,hFz,hSz⟩:=pX (gr:=w.heap.size) (cs:=[.int .i64 0,.int .i64 0,.string ⟨#[]⟩,.slice none 0 0]) (Nat.le_refl _) HMX.out hFw hBv rfl (HVY.out _ _) hst;have hgen:((((wv.setCell ⟨w.heap.size,0,none⟩ (.int .i64 0)).setCell ⟨w.heap.size,1,none⟩ (.int .i64 (x.lo+c))).setCell ⟨w.heap.size,2,none⟩ (.string ⟨#[]⟩)).setCell ⟨w.heap.size,3,none⟩ (.slice none 0 0))=wv.setCells w.heap.size 0 (cellsOf (GV.mk 0 (x.lo+c) ByteArray.empty []) none 0):=rfl;rw [hgen];generalize wv.setCells w.heap.size 0 (cellsOf (GV.mk 0 (x.lo+c) ByteArray.empty []) none 0)=WF at *;exact bodyPost_ret (v:=eI (GV.mk 0 (x.lo+c) ByteArray.empty []) none 0) (by simp [results,Tryz.results145,go_sem,z0,z1,z2,z3]) rfl (by rw [HFZ.out];exact ⟨none,0,rfl,hvz,hFz,hSz⟩)
 have HREC:=aV4 (show ∀ (zn:Nat) (at3:Int) (gd3:Bool) (W':World),zn<i->Fr g.M w W'->FSt g at3 gd3 W'->0<=at3->at3<=path.length->Calls Tryz.prog 145 #[.pointer (some ⟨g.w,0,none⟩),.int .i64 zn,.bool true,.func (.func 146) #[] #[.pointer (some ⟨g.a,0,none⟩),.pointer (some ⟨g.p,0,none⟩),.pointer (some ⟨g.b,0,none⟩),.pointer (some ⟨g.g,0,none⟩)]] W' (aJy (g.more w.heap.size W'.heap.size) (iT t path f zn at3 gd3) W') from fun zn at3 gd3 W' hz hF hSt a0 a1 =>
  HIH.out (g.more w.heap.size W'.heap.size) zn at3 gd3 W' (by omega) (by omega) (HEW.out.more hF) hSt a0 a1)
 have HQQ:=aV4 (show ∀ (lo hi b:Nat),(g.more lo hi).Q b->g.Q b∧¬ (lo<=b∧b<hi) from fun lo hi b h=>⟨⟨h.1,fun hx=>h.2 (.inl hx)⟩,fun hx=>h.2 (.inr hx)⟩)
 by_cases k2:x.kind=2
 ·have tk1:(x.kind == 1)=false:=aV5 k1
  have tk2:(x.kind == 2)=true:=aV6 k2;rw [if_neg k1,if_pos k2] at HFZ;have hb0:=HBD.out.1;have hb3:=HBD.out.2.1;have hb1:=HBD.out.2.2.1;have hb2:=HBD.out.2.2.2.2 k2;generalize cJ path x at_ good=rc at *;obtain ⟨c,at2,gd2⟩:=rc;simp only at hb0 hb1 hb2 hb3 HFZ;obtain ⟨hkl1,hkl2⟩:=HXW.out.kids.le;obtain ⟨bk,ok,ek,hqk,-,gk⟩:=HXW.out.kids.get (i:=c.toNat) (by omega);have hzz:=HOK.out.kids _ (aG (d:=0) (show c.toNat<x.kids.length by omega));obtain ⟨zn,hzn⟩:∃ zn:Nat,x.kids.getD c.toNat 0=(zn:Int):=⟨(x.kids.getD c.toNat 0).toNat,by omega⟩;rw [hzn] at gk HFZ hzz;rw [ek] at c7;have lbk:=aP gk;have hbk:¬ bk=w.heap.size:=by omega
  have ck:=aB HX0.out gk;have HQK:=aV4 hqk;have hzi:zn<i:=by omega
  clear hzn hzz gk ek hqk k1 k2 hkd hk0;go_wp2_with fail
  go_region_held3 (fun w'=>w'.cell? ⟨bn,on+i*12+7,none⟩=some (.slice (some ⟨bk,ok,none⟩) x.kids.length a.kc)∧w'.cell? ⟨bk,ok+c.toNat,none⟩=some (.int .i64 zn))
   (first
    | with_reducible exact ⟨cS hbr c7'',cS hbk ck''⟩
    | with_reducible exact ⟨cK hbr c7'',cK hbk ck''⟩
    | with_reducible exact ⟨c7'',ck''⟩
    | with_reducible exact ⟨c7',ck'⟩
    | go_keep)
   (first
    | (go_at_call 146;refine (HCHO.out _ (Ext.refl _).drew').mono ?_;rintro e wv ⟨rfl,hfc,hst⟩;have hFw:Fr g.M w wv:=(Fr.of_ext HX0.out.drew').trans hfc;have hszv:w.heap.size<wv.heap.size:=Nat.lt_of_lt_of_le HS0.out hfc.size;have c7':=kX hfc HQN.out.1 c7;have ck':=kX hfc HQK.out.1 ck)
    | (go_at_call 145;refine (HREC.out zn at2 gd2 wv hzi hFw hst (by omega) hb3).mono ?_;rintro e wu ⟨A2,c2,rfl,hv2,hfu,hsu⟩;have c7'':=bG hfu HQN.out.1 c7';have ck'':=bG hfu HQK.out.1 ck';have hBu:=((HB0.out.drew).fr hfc HNM.out).fr hfu HNM.out;obtain ⟨z0,z1,z2,z3⟩:=aY hBu;have zf0:=hBu.frozen 0;have zf1:=hBu.frozen 1;have zf2:=hBu.frozen 2;have zf3:=hBu.frozen 3))
  generalize iT t path f zn at2 gd2=rr at *;obtain ⟨y,at3,gd3⟩:=rr;simp only at hv2 hsu HFZ;go_wp2_with fail;have hFu:Fr g.M w wu:=hFw.trans hfu;have hVu:VAt wu (fun b=>g.Q b∧b ≠ w.heap.size) y A2 c2:=hv2.carry (fun _ _ _=>rfl) (fun b _ h=>⟨(HQQ.out _ _ _ h).1,fun e=>(HQQ.out _ _ _ h).2 (by omega)⟩);clear z0 z1 z2 z3;obtain ⟨z0,z1,z2,z3,hvz,hFz,hSz⟩:=pX (gr:=w.heap.size) (cs:=[.int .i64 0,.int .i64 0,.string ⟨#[]⟩,.slice none 0 0]) (Nat.le_refl _) HMX.out hFu hBu rfl hVu hsu;have hgen:((((wu.setCell ⟨w.heap.size,0,none⟩ (.int .i64 y.kind)).setCell ⟨w.heap.size,1,none⟩ (.int .i64 y.n)).setCell ⟨w.heap.size,2,none⟩ (.string y.s)).setCell ⟨w.heap.size,3,none⟩ (.slice A2 y.kids.length c2))=wu.setCells w.heap.size 0 (cellsOf y A2 c2):=rfl;rw [hgen];generalize wu.setCells w.heap.size 0 (cellsOf y A2 c2)=WF at *;exact bodyPost_ret (v:=eI y A2 c2) (by simp [results,Tryz.results145,go_sem,z0,z1,z2,z3]) rfl (by rw [HFZ.out];exact ⟨A2,c2,rfl,hvz,hFz,hSz⟩)
 by_cases k4:x.kind=4
 ·have tk1:(x.kind == 1)=false:=aV5 k1
  have tk2:(x.kind == 2)=false:=aV5 k2;have tk4:(x.kind == 4)=true:=aV6 k4;rw [if_neg k1,if_neg k2,if_pos k4] at HFZ;have hbd:=HOK.out.bind k4;obtain ⟨hm1,hm2⟩:=HCV.out k4;have hinc:=HOK.out.inc;obtain ⟨hkl1,hkl2⟩:=HXW.out.kids.le;obtain ⟨bk,ok,ek,hqk,-,gk⟩:=HXW.out.kids.get (i:=0) (by omega);rw [Nat.add_zero] at gk;have hzz:=HOK.out.kids _ (aG (d:=0) (show 0<x.kids.length by omega));obtain ⟨zn,hzn⟩:∃ zn:Nat,x.kids.getD 0 0=(zn:Int):=⟨(x.kids.getD 0 0).toNat,by omega⟩;rw [hzn] at gk HFZ hzz hm1 hm2;rw [Int.toNat_natCast] at hm1 hm2;rw [ek] at c7;have lbk:=aP gk;have hbk:¬ bk=w.heap.size:=by omega
  have ck:=aB HX0.out gk;have HQK:=aV4 hqk;have hzi:zn<i:=by omega
  have hfo:=HFO.out zn at_ good hzi h0 h1;have HRC:=aV4 (HREC.out zn at_ good W hzi (Fr.of_ext HX0.out) HS.out h0 h1);generalize aW t path f (zn:Int) at_=rd at *;generalize iT t path f (zn:Int) at_ good=rr at *;obtain ⟨y,at2,gd2⟩:=rr;have hat:=hfo.at0;have hmem:=hfo.mem hm1;rw [hm2] at hmem;simp only at hat hmem HFZ;have hfi:=kD hinc hmem;have HCS:=aV4 (show ∀ (A:Option Addr) (c:Nat) (W':World),cC W' bn (on+i*12) x a->NAt W' g.Q x a->VAt W' g.Q y A c->Calls Tryz.prog 185 #[.pointer (some ⟨bn,on+i*12,none⟩),eI y A c] W' (dC (.int .i64 ((cR x.values y).1+1)) W') from fun A c W' q1 q2 q3=>vG x a bn (on+i*12) y A c g.Q g.Q W' q1 q2 q3 hinc (by omega));generalize (cR x.values y).1=q at *;have hql:q+1<x.kids.length:=by omega
  obtain ⟨bk2,ok2,ek2,-,-,gk2⟩:=HXW.out.kids.get (i:=q+1) hql;rw [ek] at ek2;injection ek2 with ek2;injection ek2 with ek21 ek22;subst ek21 ek22;have hz2:=HOK.out.kids _ (aG (d:=0) hql);obtain ⟨zq,hzq⟩:∃ zq:Nat,x.kids.getD (q+1) 0=(zq:Int):=⟨(x.kids.getD (q+1) 0).toNat,by omega⟩;rw [hzq] at gk2 HFZ hz2;have hzqi:zq<i:=by omega
  have ck2:=aB HX0.out gk2;have hk1:(0:Int)<(x.kids.length:Int):=by omega
  have hq0:(0:Int)<=(q:Int)+1:=by omega
  have hq1:(q:Int)+1<(x.kids.length:Int):=by omega
  have hqt:((q:Int)+1).toNat=q+1:=by omega
  have HQT:=aV4 hqt;have HAT:=aV4 hat;clear hzn hzz gk ek hqk k1 k2 k4 hkd hk0 hm1 hm2 hinc hfo hmem hfi hqt hz2 hzq gk2 hbd;go_wp2_with fail;refine HRC.out.mono ?_;rintro e wu ⟨A2,d2,rfl,hv2,hfu,hsu⟩;have hFu:Fr g.M w wu:=(Fr.of_ext HX0.out).trans hfu;have d7:=bG hfu HQN.out.1 c7;have dk:=bG hfu HQK.out.1 ck2;have HVU:=aV4 (hv2.carry (Q:=g.Q) (fun _ _ _=>rfl) (fun b _ h=>(HQQ.out _ _ _ h).1));have HNU:=aV4 (show cC wu bn (on+i*12) x a from fun j u hu=>bG hfu HQN.out.1 (HN.out j u hu));have HXU:=aV4 (HXW.out.carry (Q:=g.Q) (aD.of_fr hFu (fun b h=>h.1)) (fun _ _ h=>h));have HBU:=aV4 (HB0.out.fr hfu HNM.out);have HFU:=aV4 hFu;have HSU:=aV4 hsu;simp only at HVU HSU;have lu:w.heap.size<wu.heap.size:=Nat.lt_of_lt_of_le HS0.out hfu.size;have lb7:=aP d7;have lbk7:=aP dk;clear hv2 hfu hsu hFu HRC c7 ck ck2 c0 c2 r0 r1 r2 r3 f0 f1 f2 f3 w0 w1 w2 ws wl;go_wp2_with fail;have HXQ:=aV4 ((Ext.refl wu).alloc' (.cells #[.int .i64 y.kind,.int .i64 y.n,.string y.s,.slice A2 y.kids.length d2] 85));have HBQ:=aV4 (Blk.new wu 85 #[.int .i64 y.kind,.int .i64 y.n,.string y.s,.slice A2 y.kids.length d2]);generalize wu.alloc (.cells #[.int .i64 y.kind,.int .i64 y.n,.string y.s,.slice A2 y.kids.length d2] 85)=Wq at *
  have e7:=aB HXQ.out d7;have eK:=aB HXQ.out dk;obtain ⟨y0,y1,y2,y3⟩:=aY HBQ.out;have ngq:¬ wu.heap.size=w.heap.size:=by omega
  have NMQ:¬ g.M wu.heap.size:=fun h=>by have:=HMX.out _ h;omega
  have hqt:=HQT.out;clear d7 dk
  go_region_held3 (fun w'=>w'.cell? ⟨bn,on+i*12+7,none⟩=some (.slice (some ⟨bk,ok,none⟩) x.kids.length a.kc)∧w'.cell? ⟨bk,ok+(q+1),none⟩=some (.int .i64 zq)∧w'.cell? ⟨wu.heap.size,0,none⟩=some (.int .i64 y.kind)∧w'.cell? ⟨wu.heap.size,1,none⟩=some (.int .i64 y.n)∧w'.cell? ⟨wu.heap.size,2,none⟩=some (.string y.s)∧w'.cell? ⟨wu.heap.size,3,none⟩=some (.slice A2 y.kids.length d2))
   (first
    | with_reducible exact ⟨cS hbr e7'',cS hbk eK'',cS ngq y0'',cS ngq y1'',cS ngq y2'',cS ngq y3''⟩
    | with_reducible exact ⟨cK hbr e7'',cK hbk eK'',cK ngq y0'',cK ngq y1'',cK ngq y2'',cK ngq y3''⟩
    | with_reducible exact ⟨e7'',eK'',y0'',y1'',y2'',y3''⟩
    | with_reducible exact ⟨e7',eK',y0',y1',y2',y3'⟩
    | go_keep)
   (first
    | (go_at_call 185;refine (HCS.out A2 d2 _ ((HNU.out.ext HXQ.out).ext (Ext.refl _).drew') ((HXU.out.ext HXQ.out).ext (Ext.refl _).drew') ((HVU.out.ext HXQ.out).ext (Ext.refl _).drew')).mono ?_;rintro e wv ⟨rfl,hx5⟩;have hx6:Ext Wq wv:=(Ext.refl _).drew'.trans' hx5;have e7':=aB hx6 e7;have eK':=aB hx6 eK;have y0':=aB hx6 y0;have y1':=aB hx6 y1;have y2':=aB hx6 y2;have y3':=aB hx6 y3;have hFv:Fr g.M w wv:=HFU.out.trans (Fr.of_ext (HXQ.out.trans' hx6));have hSv:FSt g at2 gd2 wv:=HSU.out.ext (HXQ.out.trans' hx6))
    | (go_at_call 145;refine (HREC.out zq at2 gd2 wv hzqi hFv hSv (by have:=HAT.out;omega) HAT.out.2).mono ?_;rintro e wz ⟨A3,c3,rfl,hv3,hfz,hsz⟩;have e7'':=bG hfz HQN.out.1 e7';have eK'':=bG hfz HQK.out.1 eK';have y0'':=bG hfz NMQ y0';have y1'':=bG hfz NMQ y1';have y2'':=bG hfz NMQ y2';have y3'':=bG hfz NMQ y3';have hBz:=(HBU.out.ext (HXQ.out.trans' hx6)).fr hfz HNM.out;obtain ⟨z0,z1,z2,z3⟩:=aY hBz;have zf0:=hBz.frozen 0;have zf1:=hBz.frozen 1;have zf2:=hBz.frozen 2;have zf3:=hBz.frozen 3))
  clear hqt;generalize iT t path f (zq:Int) at2 gd2=rr3 at *;obtain ⟨yz,at4,gd4⟩:=rr3;simp only at hv3 hsz HFZ;go_wp2_with fail;have hFz':Fr g.M w wz:=hFv.trans hfz;have hwz:w.heap.size<wv.heap.size:=Nat.lt_of_lt_of_le lu (HXQ.out.trans' hx6).size;have hVz:VAt wz (fun b=>g.Q b∧b ≠ w.heap.size) yz A3 c3:=hv3.carry (fun _ _ _=>rfl) (fun b _ h=>⟨(HQQ.out _ _ _ h).1,fun e=>(HQQ.out _ _ _ h).2 (by omega)⟩);clear z0 z1 z2 z3;obtain ⟨z0,z1,z2,z3,hvz,hFz,hSz⟩:=pX (gr:=w.heap.size) (cs:=[.int .i64 0,.int .i64 0,.string ⟨#[]⟩,.slice none 0 0]) (Nat.le_refl _) HMX.out hFz' hBz rfl hVz hsz;have hgen:((((wz.setCell ⟨w.heap.size,0,none⟩ (.int .i64 yz.kind)).setCell ⟨w.heap.size,1,none⟩ (.int .i64 yz.n)).setCell ⟨w.heap.size,2,none⟩ (.string yz.s)).setCell ⟨w.heap.size,3,none⟩ (.slice A3 yz.kids.length c3))=wz.setCells w.heap.size 0 (cellsOf yz A3 c3):=rfl;rw [hgen];generalize wz.setCells w.heap.size 0 (cellsOf yz A3 c3)=WF at *;exact bodyPost_ret (v:=eI yz A3 c3) (by simp [results,Tryz.results145,go_sem,z0,z1,z2,z3]) rfl (by rw [HFZ.out];exact ⟨A3,c3,rfl,hvz,hFz,hSz⟩)
 have tk1:(x.kind == 1)=false:=aV5 k1;have tk2:(x.kind == 2)=false:=aV5 k2;have tk4:(x.kind == 4)=false:=aV5 k4;rw [if_neg k1,if_neg k2,if_neg k4] at HFZ;have HKV:=aV4 HXW.out.kids;have HKI:=aV4 HOK.out.kids;have HNM2:=aV4 HXW.out.name;have HXL:=aV4 HEW.out.xlt;obtain ⟨hkl1,hkl2⟩:=HXW.out.kids.le;have hkf:=hfew.1;obtain ⟨i0,hi,hz0,hz1,hz2⟩:=info_parts Tryz.info85;have HI:=aV4 hi;clear hi k1 k2 k4 hkd hk0;generalize a.kA=Ak at *;generalize a.kc=kc at *;go_wp2_with fail;go_loopw [11,98] (fun v ix wr=>aFo (iT t path f) path x.name x.kids g w W (iT t path (f+1) i at_ good) v ix wr) (fun _ ix _=>x.kids.length - (intOf ix).toNat)
 case atStart=>exact ⟨0,at_,good,[],[],Nat.zero_le _,rfl,World.ownsRow_nil _ _ _ _,by simp [RVs],Fr.of_ext HX0.out,Nat.le_refl _,HS.out,h0,h1,rfl,HB0.out,HFZ.out⟩
 case round =>
  obtain ⟨k,at1,gd1,done,xs,hk,rfl,ho,hr,hF,hsz,hSt,a0,a1,hdl,hB,hR⟩:=hrel;obtain ⟨Av,cv,ev,-,-,-⟩:=Sl.of_own ho;subst ev;have HO:=aV4 ho;have HR:=aV4 hr;have HF:=aV4 hF;have HST:=aV4 hSt;have HDL:=aV4 hdl;have HB:=aV4 hB;have HRR:=aV4 hR;have HSZ:=aV4 hsz;clear ho hr hF hSt hdl hB hR hsz
  by_cases hlt:k<x.kids.length
  ·obtain ⟨bk,ok,rfl,hqk,-,gk⟩:=HKV.out.get hlt
   have hzz:=HKI.out _ (aG (d:=0) hlt);obtain ⟨zn,hzn⟩:∃ zn:Nat,x.kids.getD k 0=(zn:Int):=⟨(x.kids.getD k 0).toNat,by omega⟩;rw [hzn] at gk hzz;have ck:=bG HF.out hqk.1 gk;have hzi:zn<i:=by omega
   have HRC:=aV4 (HREC.out zn at1 gd1 wr hzi HF.out HST.out a0 a1);have hfo:=HFO.out zn at1 gd1 hzi a0 a1;have HHY:=aV4 (show iT t path f (x.kids.getD k 0) at1 gd1=iT t path f (zn:Int) at1 gd1 by rw [hzn]);generalize aW t path f (zn:Int) at1=rd at *;generalize iT t path f (zn:Int) at1 gd1=rr at *;obtain ⟨y,at2,gd2⟩:=rr;have hat:=hfo.at0;simp only at hat;have HAT:=aV4 hat;have hkk:(k:Int)<(x.kids.length:Int):=by omega
   clear hzn hzz gk hqk hfo hat;go_wp2_with fail;refine HRC.out.mono ?_;rintro e wu ⟨A2,d2,rfl,hv2,hfu,hsu⟩;simp only at hv2 hsu;have HOU:=aV4 (HO.out.fr_ hfu (fun b hb=>by have h1:=HMX.out b hb;have h2:=HS0.out;omega));have HRU:=aV4 (aHz HMX.out HS0.out HR.out hfu);have HFU:=aV4 (HF.out.trans hfu);have HSU:=aV4 hsu;have HBU:=aV4 (HB.out.fr hfu HNM.out);have HZU:=aV4 (Nat.le_trans HSZ.out hfu.size)
   have HVU:=aV4 (hv2.carry (Q:=fun b=>((g.Q b∧b<w.heap.size)∨W.heap.size<=b)∧some b ≠ (Value.slice Av k cv).ownBlock) (fun _ _ _=>rfl) (fun b hb h=>by
    have h1:=HQQ.out _ _ _ h;have h2:=HSZ.out;have h3:=HS0.out;refine ⟨?_,fun e=>?_⟩
    ·by_cases hbw:b<w.heap.size
     ·exact .inl ⟨h1.1,hbw⟩
     ·exact .inr (by have:=h1.2;omega)
    ·have h4:=HO.out.block_ge e.symm
     have h5:=HO.out.block_lt e.symm;exact h1.2 (by omega)))
   clear hv2 hfu hsu HRC;go_upto_region 17 with fail;have HX5:=aV4 ((Ext.refl wu).alloc' (.cells #[.int .i64 y.kind,.int .i64 y.n,.string y.s,.slice A2 y.kids.length d2] 85));have HB5:=aV4 (Blk.new wu 85 #[.int .i64 y.kind,.int .i64 y.n,.string y.s,.slice A2 y.kids.length d2]);generalize wu.alloc (.cells #[.int .i64 y.kind,.int .i64 y.n,.string y.s,.slice A2 y.kids.length d2] 85)=w5 at *;obtain ⟨y0,y1,y2,y3⟩:=aY HB5.out;have HZ5:=aV4 (Nat.le_trans HZU.out HX5.out.size);go_wp2_with (at_builtin;go_must (refine aK _ rfl (.tmp 108) (.tmp 110) 83 (by rfl) W.heap.size 85 i0 _ 4 56 Tryz.underlying83 HI.out hz0 hz1 hz2 rfl (by omega) (.slice Av k cv) _ _ rfl ((HOU.out.ext_ HX5.out).alloc _) (fun _=>True) (some ⟨w5.heap.size,0,none⟩) 1 1 [.int .i64 y.kind,.int .i64 y.n,.string y.s,.slice A2 y.kids.length d2] rfl (Sl.new w5 _ _ _ _ rfl) (by simp [Value.oneCell']) (by omega) (by omega) (by have:=HZ5.out;simp;omega) ?_);intro v6 w6 ho6 hf6 hb6);go_roundw
   case rel=>exact aEj HMX.out HS0.out HXL.out hlt HOU.out HRU.out HFU.out HZU.out HSU.out (by have:=HAT.out;omega) HAT.out.2 HDL.out HBU.out HRR.out HHY.out HX5.out (HVU.out.ext HX5.out) ho6 hf6 hb6
   case measure=>simp [intOf];omega
  ·obtain rfl:k=x.kids.length:=by omega
   have HRE:=aV4 (show iT t path (f+1) i at_ good=⟨cE x.name done,at1,gd1⟩ by rw [HRR.out,drop_nil (Nat.le_refl _)];rfl);have HNR:=aV4 (show cC wr bn (on+i*12) x a from fun j u hu=>bG HF.out HQN.out.1 (HNW.out j u hu))
   have HMD:=aV4 (show Calls Tryz.prog 97 #[.pointer (some ⟨bn,on+i*12,none⟩),.slice Av x.kids.length cv] wr fun e w'=>e=.returned (eI (cE x.name done) Av cv)∧Ext wr w' by
    have h:=jZ x a bn (on+i*12) done Av cv wr HNR.out;rw [HDL.out] at h;exact h)
   have HVD:=aV4 (show cB wr (fun b=>g.Q b∧b ≠ w.heap.size) (.slice Av done.length cv) done by
    have h:=cB.of_own (Q:=fun b=>g.Q b∧b ≠ w.heap.size) (HO.out.len_cast HDL.out.symm rfl) (RVs.carry (fun _ _ _=>rfl) (fun b hb h=>?_) HR.out) (by rw [HDL.out];omega) (fun b hb=>?_)
    ·rw [HDL.out];exact h
    ·have h3:=HS0.out
     rcases h.1 with h1 | h1
     ·exact ⟨h1.1,by omega⟩
     ·exact ⟨⟨fun hm=>by have:=HMX.out _ hm;omega,fun hx=>by have:=HXL.out _ hx;omega⟩,by omega⟩
    ·have h1:=HO.out.block_ge hb
     have h3:=HS0.out;exact ⟨⟨fun hm=>by have:=HMX.out _ hm;omega,fun hx=>by have:=HXL.out _ hx;omega⟩,by omega⟩)
   have HVM:=aV4 (VAt.made HNM2.out HVD.out);generalize cE x.name done=ym at *;go_wp2_with fail;refine HMD.out.mono ?_;rintro e w7 ⟨rfl,hx7⟩;have hB7:=HB.out.ext hx7;obtain ⟨z0,z1,z2,z3⟩:=aY hB7;have zf0:=hB7.frozen 0;have zf1:=hB7.frozen 1;have zf2:=hB7.frozen 2;have zf3:=hB7.frozen 3;have HX7:=aV4 hx7;have HB7:=aV4 hB7;clear hx7 hB7;go_wp2_with fail;clear z0 z1 z2 z3;obtain ⟨z0,z1,z2,z3,hvz,hFz,hSz⟩:=pX (gr:=w.heap.size) (cs:=[.int .i64 0,.int .i64 0,.string ⟨#[]⟩,.slice none 0 0]) (Nat.le_refl _) HMX.out (HF.out.trans (Fr.of_ext HX7.out)) HB7.out rfl (HVM.out.ext HX7.out) (HST.out.ext HX7.out);have hgen:((((w7.setCell ⟨w.heap.size,0,none⟩ (.int .i64 ym.kind)).setCell ⟨w.heap.size,1,none⟩ (.int .i64 ym.n)).setCell ⟨w.heap.size,2,none⟩ (.string ym.s)).setCell ⟨w.heap.size,3,none⟩ (.slice Av ym.kids.length cv))=w7.setCells w.heap.size 0 (cellsOf ym Av cv):=rfl;rw [hgen];generalize w7.setCells w.heap.size 0 (cellsOf ym Av cv)=WF at *;exact bodyPost_ret (v:=eI ym Av cv) (by simp [results,Tryz.results145,go_sem,z0,z1,z2,z3]) rfl (by rw [HRE.out];exact ⟨Av,cv,rfl,hvz,hFz,hSz⟩)
theorem aBt (t:List GN)(path:List Int)(vn vp:Value)(hg:bJ t t.length)(hpl:path.length<=1000000)(f:Nat):yS t path vn vp f:=by
 induction f with
 | zero=>intro g i at_ good w hif;omega
 | succ f ih=>exact aH0 t path vn vp f hg hpl ih
end Go.Proofs.YtkoeecdjijfjnaaGreat
