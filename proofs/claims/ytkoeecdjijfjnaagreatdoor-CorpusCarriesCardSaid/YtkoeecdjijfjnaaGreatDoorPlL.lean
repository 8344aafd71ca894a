/- Contracts and laws. Conditions: none. -/
import Derived.Test.YtkoeecdjijfjnaaGreatDoorE5
set_option linter.all false
set_option maxRecDepth 100000
set_option maxHeartbeats 8000000
namespace Go.Proofs.YtkoeecdjijfjnaaGreatDoor
open Go.RowKit
theorem lX {before:List GL}{bind:Bool}:∀ (zs:List Int)(k:Nat)(out:List GV),jL before bind k out true zs=⟨[],true⟩
 | [],_,_=>by simp [jL]
 | z :: zs,k,out=>by
  simp only [jL];split
  ·exact lX zs _ _
  ·simp only [Bool.true_or];exact lX zs _ _
theorem pP {before:List GL}{bind:Bool}:∀ (zs:List Int)(k:Nat)(out:List GV),(∀ z ∈ zs,LOK (before.getD z.toNat default))->Inc out->¬ (bind=true∧k=0)->jL before bind k out false zs=zS before out zs
 | [],_,_,_,_,_=>by simp [jL,zS]
 | z :: zs,k,out,hz,ho,hb=>by
  have hl:=hz z U;simp only [jL,zS];rw [if_neg hb,F4 ho hl.inc];simp only [Bool.false_or];cases e:(before.getD z.toNat default).many
  ·simp only [Bool.false_or,Bool.false_eq_true,if_false]
   by_cases h:1024<(eS (out ++ (before.getD z.toNat default).vals)).length
   ·rw [aYi h,lX,if_pos h]
   ·rw [aYj h,if_neg h]
    exact pP zs (k+1) _ (fun y hy=>hz y dh) (jS _) I
  ·simp only [Bool.true_or,if_true]
   exact lX zs _ _
theorem Ez {before:List GL}{x:GN}(hz:∀ z ∈ x.kids,LOK (before.getD z.toNat default)):sK before x=xV x before:=by
 unfold sK xV;split
 ·next h=>rw [h]
 ·next rows h =>
  rw [h];obtain ⟨a,_,_,_⟩:=nG x.kids [[]] 0 hz (List.pairwise_singleton _ _) U U U rows h;show _=GL.mk (eS (rows.map (cB x.name))) false;rw [oW (yN x.name a)]
theorem ER {t:List GN}{i:Nat}(hg:aO t (i+1)):(aE t).getD i default=cQ (aE t) (t.getD i default):=by
 have hit:i<t:=by have:=hg.1;omega
 have hn:=(hg.at_ (j:=i) I).node;have hk:∀ z ∈ (t.getD i default).kids,(aE (t.take i)).getD z.toNat default=(aE t).getD z.toNat default:=fun z hz=>gU hit (hn.kids z hz)
 have hsq:∀ (zs:List Int) (rows:List (List GV)),(∀ z ∈ zs,(aE (t.take i)).getD z.toNat default=(aE t).getD z.toNat default)->bU (aE (t.take i)) rows zs=bU (aE t) rows zs:=by
  intro zs
  induction zs with
  | nil=>intro rows _;rfl
  | cons z zs ih=>intro rows h;simp only [bU];rw [h z U];split;rfl;exact ih _ (fun y hy=>h y dh)
 have hun:∀ (bind:Bool) (zs:List Int) (k:Nat) (out:List GV) (m:Bool),(∀ z ∈ zs,(aE (t.take i)).getD z.toNat default=(aE t).getD z.toNat default)->jL (aE (t.take i)) bind k out m zs=jL (aE t) bind k out m zs:=by
  intro bind zs
  induction zs with
  | nil=>intro k out m _;rfl
  | cons z zs ih =>
   intro k out m h;simp only [jL];rw [h z U];split
   ·exact ih _ _ _ (fun y hy=>h y dh)
   ·exact ih _ _ _ (fun y hy=>h y dh)
 rw [iV hit];unfold cQ;split
 ·rfl
 ·split
  ·rfl
  ·split
   ·unfold xV
    rw [hsq _ _ hk]
   ·exact hun _ _ _ _ _ hk
theorem bL.tail {w:World}{P:Nat->Prop}{b off c:Nat}{z:Int}{l:List Int}(h:bL w P (.slice (qt b off) (l+1) c) (z :: l)):bL w P (.slice (qt b (off+1)) l (c - 1)) l:=by
 obtain ⟨A,c',e,h1,h2,h3,h4⟩:=h;injection e with e1 e2 e3;subst e1 e3;have h5:=h4.drop (k:=1) U;simp only [ai,Nat.add_sub_cancel,List.map_cons,List.drop_succ_cons,List.drop_zero,Nat.one_mul] at h5;simp only [ai] at h1 h2;exact ⟨_,c - 1,rfl,I,I,fun y hy=>h3 y dh,h5⟩
def If (lo:Int)(N:Nat)(w:World)(v n:Value)(wr:World):Prop :=
 ∃ (k:Nat) (xs:List Value),k<=N∧n=.int .i64 (lo+k)∧wr.ownsRow w 58 4 v k xs∧RVs wr (fun _=>False) (eE lo k) xs∧Ext w wr
theorem JJ (t:List GN)(vn:Value)(f:Nat)(hO:oa t vn f):wV t vn (f+1):=by
 intro g i w hif hg hs;have HG:=aYf hg;have HS:=aYf hs;have hit:i<t:=by have:=hg.1;omega
 have HOK:=aYf (hg.at_ (j:=i) I).node;have HLL:=aYf (ER hg);have HFEW:=aYf (cJ hg (j:=i) I);have HLOK:=aYf (show ∀ z ∈ (t.getD i default).kids,LOK ((aE t).getD z.toNat default) from fun z hz=>by have h:=HOK.out.kids z hz;exact mJ hg z.toNat I);obtain ⟨kn,ls,ms,h⟩:=hs;have hnd:=h.nodes;have HBX:=aYf h.box;obtain ⟨An,cn,en,hn1,hn2⟩:=hnd.form;subst en;obtain ⟨b1,o1,a1,rfl,hb1,ha1,hc1⟩:=hnd.get hit;have HB1:=aYf hb1;have b0:=HBX.out.cell' (u:=.slice (qt b1 o1) t cn) 0 rfl;have HA:=aYf ha1;have HC:=aYf hc1;have c0:=hc1.c0;have hi0:(0:Int)<=(i:Int):=by omega
 have hi1:(i:Int)<(t:Int):=I;clear hg hnd hc1 ha1 hb1 h;generalize t.getD i default=x at *;have hkd:=HOK.out.kind;rw [HLL.out];by_cases k0:x.kind=0
 ·have t0:(x.kind == 0)=true:=aYh k0
  have HR:=aYf (show cQ (aE t) x=⟨[x.value],false⟩ by unfold cQ;rw [if_pos k0]);have c8:=HC.out.c8;have c9:=HC.out.c9;have c10:=HC.out.c10;have c11:=HC.out.c11;clear k0;go_enter Tryz.func128,Tryz.ntmps128;go_wp2_with fail;go_ret2;rw [HR.out];refine ⟨some ↑(qp w),1,rfl,?_,ar ((aq w).alloc' _),HS.out.ext ((aq w).alloc' _)⟩;refine ⟨some ↑(qp w),1,cellsOf x.value a1.xA a1.xc,rfl,U,U,⟨rfl,fun _=>⟨w.heap.size,0,rfl,HS.out.newQ (ab _),fun j u hu=>rK _ _ _ _ _ _ U (by simpa [cellsOf] using hu)⟩⟩,RVs.one (HA.out.value.ext ((aq w).alloc' _)).rv⟩
 have t0:(x.kind == 0)=false:=aYg k0;by_cases k1:x.kind=1
 ·have t1:(x.kind == 1)=true:=aYh k1
  have HR:=aYf (show cQ (aE t) x=if 1024<=x.hi - x.lo then ⟨[],true⟩ else ⟨eE x.lo (x.hi - x.lo+1).toNat,false⟩ by unfold cQ;rw [if_neg k0,if_pos k1]);have hnum:=aZ HOK.out.numbers;have c2:=HC.out.c2;have c3:=HC.out.c3;have hwr:IntKind.i64.wrap (x.hi - x.lo)=x.hi - x.lo:=IntWalk.i64_in _ I;clear k0 k1;by_cases hbig:1024<=x.hi - x.lo
  ·have tb:decide (1024<=x.hi - x.lo)=true:=aYi hbig
   have HR2:=aYf (HR.out.trans (if_pos hbig));go_enter Tryz.func128,Tryz.ntmps128;go_wp2_with fail;go_quiet (fail);go_wp2_with fail;go_ret2;rw [HR2.out];exact iY.none_ (ar ((aq w).drewN' _)) (HS.out.ext ((aq w).drewN' _))
  ·have tb:decide (1024<=x.hi - x.lo)=false:=aYj hbig
   have HR2:=aYf (HR.out.trans (if_neg hbig));obtain ⟨N,hN⟩:∃ N:Nat,x.hi - x.lo+1=N:=⟨(x.hi - x.lo+1).toNat,I⟩;have HN:=aYf hN;have hhi1:x.lo+N<=x.hi+1:=by omega
   have hhi2:x.hi+1<=x.lo+N:=I;have hN2:N<=1024:=I;clear hN;obtain ⟨i0,hi,hz0,hz1,hz2⟩:=info_parts Tryz.info58;have HI:=aYf hi;clear hi;go_enter Tryz.func128,Tryz.ntmps128;go_wp2_with fail;go_quiet (fail);clear hwr;go_wp2_with fail;go_loopw [7,8] (fun v n wr=>If x.lo N w v n wr) (fun _ n _=>(x.hi+1 - intOf n).toNat)
   case atStart=>exact ⟨0,[],af _,U,aT _ _ _ _,rfl,(aq w).drewN' _⟩
   case round =>
    obtain ⟨k,xs,hk,rfl,hown,hrv,hx⟩:=hrel;have HOWN:=aYf hown;have HRV:=aYf hrv;have HX:=aYf hx;have hsz:=hx.size;clear c0 c2 c3;have c3:=(HC.out.ext hx).c3;clear hown hrv hx;by_cases hlt:k<N
    ·have tl:decide (x.lo+(k:Int)<=x.hi)=true:=aYi I
     go_wp2_with (at_builtin;go_must (refine aM _ rfl (.tmp 50) (.tmp 53) 56 dd w 58 i0 _ 4 56 Tryz.underlying56 HI.out hz0 hz1 hz2 rfl I u7 _ _ rfl (HOWN.out.alloc _) (fun _=>True) (qp wr) 1 1 [qz,.int .i64 (x.lo+k),.string ByteArray.empty,qn] rfl (Sl.new _ _ _ _ _ rfl) ci I I bh ?_);intro v2 w2 ho2 hbl2);go_roundw
     case rel =>
      have hx2:Below w wr w2:=((Below.refl _ wr).alloc hsz _).trans hbl2;refine ⟨k+1,_,I,bh,ho2,?_,HX.out.trans hx2⟩;rw [qA];exact RVs.append (RVs.carry (fun b _ h=>h.elim) (fun _ _ h=>h) HRV.out) (RVs.one (Ci _ _ dg))
     case measure=>simp [intOf];omega
    ·have tl:decide (x.lo+(k:Int)<=x.hi)=false:=aYj I
     have hkN:k=N:=I;have HKN:=aYf hkN;clear hkN;obtain ⟨A2,c2,e2,-,-,-⟩:=Sl.of_own HOWN.out;subst e2;have HEQ:=aYf (show cQ (aE t) x=⟨eE x.lo k,false⟩ by rw [HR2.out,HKN.out,HN.out];simp);go_wp2_with fail;go_ret2;rw [HEQ.out];refine ⟨A2,c2,by rw [dR];rfl,?_,ar HX.out,HS.out.ext HX.out⟩;rw [dR];exact bZ.of_own (HOWN.out.len_cast (dR _ _).symm rfl) (RVs.carry (fun _ _ _=>rfl) (fun _ _ h=>h.elim) HRV.out) (by rw [dR];omega) (fun b hb=>HS.out.newQ (HOWN.out.block_ge hb))
 have t1:(x.kind == 1)=false:=aYg k1;have HGI:=aYf (HG.out.mono (j:=i) I);by_cases k3:x.kind=3
 ·have t2:(x.kind == 2)=false:=aYg I
  have t3:(x.kind == 3)=true:=aYh k3;have HR:=aYf (show cQ (aE t) x=sK (aE t) x by rw [Ez HLOK.out];unfold cQ;rw [if_neg k0,if_neg k1,if_pos k3]);clear k0 k1 k3;go_enter Tryz.func128,Tryz.ntmps128;go_wp2_with fail;refine (EZ t _ g f i hO x a1 b1 (o1+i*12) w HA.out HC.out HB1.out HOK.out.kids I (by have:=HFEW.out.1;omega) HGI.out HS.out).mono ?_;rintro e w1 ⟨A,c,rfl,hv,hf,hs1⟩;go_wp2_with fail;go_ret2;rw [HR.out];exact ⟨A,c,rfl,hv,hf,hs1⟩
 have hki:=HA.out.kids;have c7:=HC.out.c7;have hkc:=hki.le;generalize a1.kA=Ak at *;generalize a1.kc=kc at *;by_cases k2:x.kind=2
 ·have t2:(x.kind == 2)=true:=aYh k2
  have HR:=aYf (show cQ (aE t) x=zS (aE t) [] x.kids by rw [<- pP x.kids 0 [] HLOK.out Inc.nil (show ¬ (false=true∧0=0) by simp)];unfold cQ;rw [if_neg k0,if_neg k1,if_neg k3,aYj I]);have HKI:=aYf hki;clear k0 k1 k3 k2 hki;go_enter Tryz.func128,Tryz.ntmps128;go_wp2_with fail;refine (xM t _ g f i hO x.kids _ w HKI.out HOK.out.kids I HGI.out HS.out).mono ?_;rintro e w1 ⟨A,c,rfl,hv,hf,hs1⟩;go_wp2_with fail;go_ret2;rw [HR.out];exact ⟨A,c,rfl,hv,hf,hs1⟩
 have t2:(x.kind == 2)=false:=aYg k2;have t3:(x.kind == 3)=false:=aYg k3;have k4:x.kind=4:=by omega
 have hbd:=HOK.out.bind k4;have hv1:=HFEW.out.2.2 k4;have HKD:=aYf HOK.out.kids
 have HR:=aYf (show cQ (aE t) x=zS (aE t) [] x.kids.tail by
  have e:cQ (aE t) x=jL (aE t) true 0 [] false x.kids:=by unfold cQ;rw [if_neg k0,if_neg k1,if_neg k3,aYi k4]
  rw [e];have hl:=HLOK.out;cases hk:x.kids with
  | nil=>rw [hk] at hbd;simp at hbd
  | cons z zs =>
   rw [hk] at hl;rw [jL,if_pos ⟨rfl,rfl⟩];exact pP zs 1 [] (fun y hy=>hl y dh) Inc.nil I)
 obtain ⟨bk,ok,rfl,-,-,-⟩:=hki.get (i:=0) I
 have HKT:=aYf (show bL w g.Q (.slice (qt bk (ok+1)) (x.kids.length - 1) (kc - 1)) x.kids.tail from by
  cases hk:x.kids with
  | nil=>rw [hk] at hbd;simp at hbd
  | cons z zs=>rw [hk] at hki;exact bL.tail hki)
 have hkc1:¬ kc=1:=I;have hkl1:1<=x.kids.length:=I;clear k0 k1 k3 k2 k4 hki hbd hv1;go_enter Tryz.func128,Tryz.ntmps128;go_wp2_with fail;refine (xM t _ g f i hO x.kids.tail _ w HKT.out (fun z hz=>HKD.out z (List.mem_of_mem_tail hz)) I HGI.out HS.out).mono ?_;rintro e w1 ⟨A,c,rfl,hv,hf,hs1⟩;go_wp2_with fail;go_ret2;rw [HR.out];exact ⟨A,c,rfl,hv,hf,hs1⟩
theorem Ct (t:List GN)(vn:Value):∀ f,wV t vn f
 | 0=>by intro g i w hf;omega
 | f+1=>JJ t vn f (vh t vn f (Ct t vn f))
theorem G3 (t:List GN)(vn:Value)(g:SA)(i:Nat)(w:World)(hg:aO t (i+1))(hs:bV t vn g w) :
  qg 102 #[qp g.s,↑i] w (iY t vn g ((aE t).getD i default) w):=vh t vn (i+1) (Ct t vn (i+1)) g i w I hg hs
theorem Tryz.info4:(Tryz.prog.info? 4).map (fun i=>(i.zero,i.size,i.bytes))=some (some ↑false,1,1):=av
theorem fP (w:World)(o:Obj):(w.alloc o).heap.size=w+1:=U
theorem tV (w:World)(a o2 o3 o4:Obj)(cs:Array Value)(t:TypeId):Blk (((((w.alloc a).alloc (qk cs t)).alloc o2).alloc o3).alloc o4).drew (w+1) t cs :=
 ((((az (w.alloc a) t cs (fP w a).symm).alloc _).alloc _).alloc _).drew
theorem tU (w:World)(a o2 o3 o4:Obj)(cs:Array Value)(t:TypeId):Blk (((((w.alloc a).alloc o2).alloc (qk cs t)).alloc o3).alloc o4).drew (w.heap.size+1+1) t cs :=
 (((az ((w.alloc a).alloc o2) t cs (by rw [fP,fP])).alloc _).alloc _).drew
theorem tT (w:World)(a o2 o3 o4:Obj)(cs:Array Value)(t:TypeId):Blk (((((w.alloc a).alloc o2).alloc o3).alloc (qk cs t)).alloc o4).drew (w.heap.size+1+1+1) t cs :=
 ((az (((w.alloc a).alloc o2).alloc o3) t cs (by rw [fP,fP,fP])).alloc _).drew
theorem tR (w:World)(a o2 o3 o4:Obj)(cs:Array Value)(t:TypeId):Blk (((((w.alloc a).alloc o2).alloc o3).alloc o4).alloc (qk cs t)).drew (w.heap.size+1+1+1+1) t cs :=
 (az ((((w.alloc a).alloc o2).alloc o3).alloc o4) t cs (by rw [fP,fP,fP,fP])).drew
def mq (t:List GN)(vn:Value)(X:Nat->Prop)(w:World)(e:Ending)(w':World):Prop :=
 ∃ g:SA,e=.returned (qp g.s)∧g.X=X∧bV t vn g w'∧Ext w w'∧w<=g.s∧w<=g.k∧w<=g.l∧w<=g.m
theorem gI {t:List GN}{vn:Value}{P X:Nat->Prop}{w w':World}{gs gk gl gm:Nat}(hx:Ext w w')(ht:Nds w P vn t)(hPX:∀ b,P b->¬ X b)(hX:∀ b,X b->b<w)(h1:w<=gs)(h2:w<=gk)(h3:w<=gl)(h4:w<=gm)
  (n1:gs ≠ gk)(n2:gs ≠ gl)(n3:gs ≠ gm)(n4:gk ≠ gl)(n5:gk ≠ gm)(n6:gl ≠ gm)
  (hs:Blk w' gs 157 #[vn,.slice (qp gk) t t,.slice (qp gl) t t,.slice (qp gm) t t])
  (hk:Blk w' gk 4 (madeCells #[false] t))(hl:Blk w' gl 56 (madeCells #[qn] t))(hm:Blk w' gm 4 (madeCells #[false] t)) :
  mq t vn X w (.returned (qp gs)) w':=by
 rw [gF] at hk hl hm;have hQ:∀ b,b<w.heap.size->P b->(SA.mk gs gk gl gm X).Q b:=fun b hb hp=>⟨fun h=>by rcases h with h | h | h <;> (simp only at h;omega),hPX b hp⟩
 refine ⟨⟨gs,gk,gl,gm,X⟩,rfl,rfl,⟨List.replicate t false,List.replicate t qn,List.replicate t false,n1,n2,n3,n4,n5,n6,U,U,U,hs,by rw [List.map_replicate];exact hk,hl,by rw [List.map_replicate];exact hm,fun b hb=>by have:=hX b hb;have:=hx.size;omega,ht.carry (aB.of_ext hx) hQ,?_,?_⟩,hx,h1,h2,h3,h4⟩
 ·intro v hv
  rw [List.eq_of_mem_replicate hv];exact ⟨_,_,_,rfl⟩
 ·intro j hj h
  simp [List.getD,hj] at h
theorem qF (t:List GN)(P X:Nat->Prop)(vn:Value)(w:World)(ht:Nds w P vn t)(hPX:∀ b,P b->¬ X b)(hX:∀ b,X b->b<w)(hlen:t.length<=100000) :
  qg 60 #[.agg #[vn]] w (mq t vn X w):=by
 have HT:=aYf ht;have HPX:=aYf hPX;have HX:=aYf hX;obtain ⟨An,cn,en,hn1,hn2⟩:=ht.form;subst en;obtain ⟨i4,hi4,hz40,hz41,hz42⟩:=info_parts Tryz.info4;obtain ⟨i1,hi',hz0',hz1',hz2'⟩:=info_parts Tryz.info56
 have hmk1:∀ W:World,(Instr.makeSlice 155 (↑(t:Int)) (↑(t:Int))).run Tryz.prog W=.ok (.slice (qp W) t t) (W.alloc (qk (madeCells #[qn] t) 56)):=by
  intro W;have h:=run_make (P:=Tryz.prog) W 155 56 i1 _ Tryz.underlying155 hi' hz0' .i64 .i64 (t:Int) (t:Int) I (Int.le_refl _) (by rw [hz2'];omega) I;rw [hz1',Nat.mul_one] at h;rw [h];rfl
 have hmk2:∀ W:World,(Instr.makeSlice 154 (↑(t:Int)) (↑(t:Int))).run Tryz.prog W=.ok (.slice (qp W) t t) (W.alloc (qk (madeCells #[false] t) 4)):=by
  intro W;have h:=run_make (P:=Tryz.prog) W 154 4 i4 _ Tryz.underlying154 hi4 hz40 .i64 .i64 (t:Int) (t:Int) I (Int.le_refl _) (by rw [hz42];omega) I;rw [hz41,Nat.mul_one] at h;rw [h];rfl
 clear ht hPX hX hi4 hi' hz40 hz41 hz42 hz0' hz1' hz2' i4 i1;go_enter Tryz.func60,Tryz.ntmps60;go_wp2_with fail;go_region;all_goals (go_wp2_with fail)
 all_goals (go_ret)
 all_goals (show mq _ _ _ _ (.returned (qp (w.heap.size+1+1+1+1))) _)
 all_goals first
  | exact gI (gs:=w.heap.size+1+1+1+1) (gk:=w.heap.size+1) (gl:=w.heap.size+1+1) (gm:=w.heap.size+1+1+1) (((((((aq w).alloc' _).alloc' _).alloc' _).alloc' _).alloc' _).drew') HT.out HPX.out HX.out I I I I I I I I I I (tR w _ _ _ _ _ _) (tV w _ _ _ _ _ _) (tU w _ _ _ _ _ _) (tT w _ _ _ _ _ _)
  | exact gI (gs:=w.heap.size+1+1+1+1) (gk:=w.heap.size+1) (gl:=w.heap.size+1+1+1) (gm:=w.heap.size+1+1) (((((((aq w).alloc' _).alloc' _).alloc' _).alloc' _).alloc' _).drew') HT.out HPX.out HX.out I I I I I I I I I I (tR w _ _ _ _ _ _) (tV w _ _ _ _ _ _) (tT w _ _ _ _ _ _) (tU w _ _ _ _ _ _)
  | exact gI (gs:=w.heap.size+1+1+1+1) (gk:=w.heap.size+1+1) (gl:=w.heap.size+1) (gm:=w.heap.size+1+1+1) (((((((aq w).alloc' _).alloc' _).alloc' _).alloc' _).alloc' _).drew') HT.out HPX.out HX.out I I I I I I I I I I (tR w _ _ _ _ _ _) (tU w _ _ _ _ _ _) (tV w _ _ _ _ _ _) (tT w _ _ _ _ _ _)
  | exact gI (gs:=w.heap.size+1+1+1+1) (gk:=w.heap.size+1+1) (gl:=w.heap.size+1+1+1) (gm:=w.heap.size+1) (((((((aq w).alloc' _).alloc' _).alloc' _).alloc' _).alloc' _).drew') HT.out HPX.out HX.out I I I I I I I I I I (tR w _ _ _ _ _ _) (tU w _ _ _ _ _ _) (tT w _ _ _ _ _ _) (tV w _ _ _ _ _ _)
  | exact gI (gs:=w.heap.size+1+1+1+1) (gk:=w.heap.size+1+1+1) (gl:=w.heap.size+1) (gm:=w.heap.size+1+1) (((((((aq w).alloc' _).alloc' _).alloc' _).alloc' _).alloc' _).drew') HT.out HPX.out HX.out I I I I I I I I I I (tR w _ _ _ _ _ _) (tT w _ _ _ _ _ _) (tV w _ _ _ _ _ _) (tU w _ _ _ _ _ _)
  | exact gI (gs:=w.heap.size+1+1+1+1) (gk:=w.heap.size+1+1+1) (gl:=w.heap.size+1+1) (gm:=w.heap.size+1) (((((((aq w).alloc' _).alloc' _).alloc' _).alloc' _).alloc' _).drew') HT.out HPX.out HX.out I I I I I I I I I I (tR w _ _ _ _ _ _) (tT w _ _ _ _ _ _) (tU w _ _ _ _ _ _) (tV w _ _ _ _ _ _)
def mO:List GV->Int
 | []=>0
 | v :: vs=>if eW v=0 then mO vs else eW v
def gT (x:GN):Int:=if x.kind=0 then eW x.value else mO x.values
def IC (l:List GV)(W:World)(k:Value)(wr:World):Prop:=∃ j:Nat,j<=l.length∧k=↑j∧Ext W wr∧mO l=mO (l.drop j)
theorem uJ (x:GN)(a:NA)(b o:Nat)(P:Nat->Prop)(w:World)(hP:∀ b,P b->b<w)(hn:aR w b o x a)(hx:NAt w P x a) :
  qg 71 #[qt b o] w (dE (.int .i64 (gT x)) w):=by
 have HX:=aYf hx;have HP:=aYf hP;have HS:=aYf (show gT x=if x.kind=0 then eW x.value else mO x.values from rfl);have c0:=hn.c0;have c6:=hn.c6;have c8:=hn.c8;have c9:=hn.c9;have c10:=hn.c10;have c11:=hn.c11;obtain ⟨hvl1,hvl2⟩:=hx.values.le;clear hx hn hP;by_cases hk:x.kind=0
 ·have t0:(x.kind == 0)=true:=aYh hk
  have HK:=aYf hk;clear hk;go_enter Tryz.func71,Tryz.ntmps71;go_wp2_with fail;refine (gN x.value a.xA a.xc P w HP.out HX.out.value).mono ?_;rintro e w1 ⟨rfl,hx1⟩;have HX1:=aYf hx1;clear hx1;go_wp2_with fail;go_ret;exact ⟨aK (by rw [HS.out,if_pos HK.out]),HX1.out⟩
 ·have t0:(x.kind == 0)=false:=aYg hk
  have HN:=aYf (HS.out.trans (if_neg hk));have HVL:=aYf HX.out.values;clear hk HX HS c8 c9 c10 c11;generalize a.vA=Av at *;generalize a.vc=cv at *;go_enter Tryz.func71,Tryz.ntmps71;go_wp2_with fail;go_loopw [21] (fun k wr=>IC x.values w k wr) (fun k _=>x.values.length - (intOf k).toNat)
  case atStart=>exact ⟨0,af _,rfl,aq _,rfl⟩
  case round =>
   obtain ⟨j,hj,rfl,hxr,ht⟩:=hrel;have HT:=aYf ht;have HXR:=aYf hxr;clear ht hxr;by_cases hlt:j<x.values
   ·obtain ⟨b1,o1,A1,d1,rfl,-,hv1,g10,g11,g12,g13⟩:=(HVL.out.ext HXR.out).get hlt
    have HD:=aYf (show mO x.values=if eW (x.values.getD j default)=0 then mO (x.values.drop (j+1)) else eW (x.values.getD j default) by
     rw [HT.out,aJ default hlt];rfl)
    have HV1:=aYf hv1;clear hv1;generalize x.values.getD j default=y at *;go_wp2_with fail;refine (gN y A1 d1 P _ (fun b hb=>by have h1:=HP.out b hb;have h2:=HXR.out.size;simp;omega) (HV1.out.ext ((aq _).alloc' _))).mono ?_;rintro e w4 ⟨rfl,hx4⟩;have HX4:=aYf ((HXR.out.alloc' _).trans' hx4);clear hx4;by_cases hz:eW y=0
    ·have HZ:=aYf hz
     have tz:(eW y != 0)=false:=er;clear hz;go_wp2_with fail;go_roundw
     case rel=>exact ⟨j+1,I,by go_num,HX4.out,jk⟩
     case measure=>simp [intOf];omega
    ·have tz:(eW y != 0)=true:=bne_iff_ne.2 hz
     have HN2:=aYf (show gT x=eW y by rw [HN.out,HD.out,if_neg hz]);clear hz;go_wp2_with fail;go_ret;exact ⟨aK HN2.out.symm,HX4.out⟩
   ·have HN2:=aYf (show gT x=0 by rw [HN.out,HT.out,drop_nil I];rfl)
    go_wp2_with fail;go_ret;exact ⟨aK HN2.out.symm,HXR.out⟩
theorem I0 {h l:Int}(h1:l<=h)(h2:-4611686018427387904<=l)(h3:h<=4611686018427387904):IntKind.u64.wrap (IntKind.u64.wrap h - IntKind.u64.wrap l)=h - l:=by
 simp only [IntKind.wrap,IntKind.bits,IntKind.signed];simp only [Bool.false_and,Bool.false_eq_true,if_false];omega
def Dv (x:GN)(W:World)(i:Value)(wr:World):Prop:=∃ k:Nat,k<=x.weights.length∧i=↑k∧W=wr∧bQ x=(x.weights.drop k).all fS
theorem LW (x:GN)(a:NA)(b o:Nat)(P:Nat->Prop)(w:World)(hn:aR w b o x a)(hx:NAt w P x a) :
  qg 72 #[qt b o] w (dE (bQ x) w):=by
 have HX:=aYf hx;have HU:=aYf (show bQ x=(!wX x && x.weights.all fS) from rfl);obtain ⟨hl,hc⟩:=hx.weights.le;have hi1:=hx.lo;have hi2:=hx.hi;have HN:=aYf hn;have c2:=hn.c2;have c3:=hn.c3;unfold I64 at hi1 hi2;clear hx hn;go_enter Tryz.func72,Tryz.ntmps72;go_upto_region 1 with fail;go_cut [41] (fun s wx=>s=.bool (wX x)∧Ext w wx)
 case first =>
  by_cases ha1:x.hi<x.lo
  ·have t0a1:decide (x.hi<x.lo)=true:=aYi ha1
   go_quiet (fail);go_wp2_with fail;go_meet;exact ⟨congrArg Value.bool fw,Ext.drewN _ _⟩
  ·have t0a1:decide (x.hi<x.lo)=false:=aYj ha1
   by_cases ha2:x.lo < -4611686018427387904
   ·have t0a2:decide (x.lo < -4611686018427387904)=true:=aYi ha2
    go_quiet (fail);go_wp2_with fail;go_meet;exact ⟨congrArg Value.bool dw,Ext.drewN _ _⟩
   ·have t0a2:decide (x.lo < -4611686018427387904)=false:=aYj ha2
    by_cases ha3:4611686018427387904<x.hi
    ·have t0a3:decide (4611686018427387904<x.hi)=true:=aYi ha3
     go_quiet (fail);go_wp2_with fail;go_meet;exact ⟨congrArg Value.bool di,Ext.drewN _ _⟩
    ·have t0a3:decide (4611686018427387904<x.hi)=false:=aYj ha3
     go_quiet (fail);go_wp2_with fail;go_meet;rw [I0 I I I];refine ⟨congrArg Value.bool ?_,Ext.drewN _ _⟩;unfold wX;rw [(show decide (x.hi<x.lo)=false from aYj I),(show decide (x.lo < -4611686018427387904)=false from aYj I),(show decide (4611686018427387904<x.hi)=false from aYj I)];simp only [Bool.false_or];exact decide_eq_decide.2 I
 case rest =>
  obtain ⟨rfl,he⟩:=hcut;have HE:=aYf he;have hb4:=(HN.out.ext he).c4;have HW:=aYf (HX.out.weights.ext he);clear he c2 c3;generalize a.wA=Aw at *;generalize a.wc=cw at *;generalize wX x=bn at *;cases bn
  ·have HU2:=aYf (show bQ x=(x.weights.drop 0).all fS by rw [HU.out];rfl)
   go_wp2_with fail;go_loopw [47] (fun i wr=>Dv x wc i wr) (fun i _=>x.weights.length - (intOf i).toNat)
   case atStart=>exact ⟨0,af _,rfl,rfl,HU2.out⟩
   case round =>
    obtain ⟨k,hk,rfl,rfl,ht⟩:=hrel;have HT:=aYf ht;clear ht;by_cases hlt:k<x.weights
    ·obtain ⟨b1,o1,rfl,-,hv,g1⟩:=HW.out.get hlt
     have HD:=aYf (show bQ x=(fS (x.weights.getD k 0) && (x.weights.drop (k+1)).all fS) by rw [HT.out,aJ 0 hlt];rfl);generalize x.weights.getD k 0=z at *;clear hv;by_cases hz1:z<1
     ·have HN:=aYf (show fS z=false from aYj I)
      have tz1:decide (z<1)=true:=aYi hz1;go_wp2_with fail;go_ret;exact ⟨aD fu,HE.out⟩
     ·have tz1:decide (z<1)=false:=aYj hz1
      by_cases hz2:1000<z
      ·have HN:=aYf (show fS z=false from aYj I)
       go_wp2_with fail;go_ret;exact ⟨aD fu,HE.out⟩
      ·have tz2:decide (1000<z)=false:=aYj hz2
       have HN:=aYf (show fS z=true from aYi I);go_wp2_with fail;go_roundw
       case rel=>exact ⟨k+1,I,by go_num,rfl,fu⟩
       case measure=>simp [intOf];omega
    ·go_wp2_with fail
     go_ret;exact ⟨aD (by rw [HT.out,drop_nil I];rfl),HE.out⟩
  ·go_wp2_with fail
   go_ret;exact ⟨aD j2,HE.out⟩
theorem J1 (a b c:Int):wrap64 (wrap64 (a+b)+c)=wrap64 (a+wrap64 (b+c)):=by unfold wrap64;omega
theorem oT (a:Int):I64 (wrap64 a):=by unfold wrap64 I64;omega
theorem pL {a:Int}(h:I64 a):wrap64 a=a:=by unfold I64 at h;unfold wrap64;omega
theorem nH:∀ (l:List GV)(n m:Int),zT (wrap64 (n+m)) l=wrap64 (n+zT m l)
 | [],n,m=>by rw [fM,fM]
 | x :: xs,n,m=>by rw [gQ,gQ,J1,nH xs n (wrap64 (m+rsz x))]
mutual
theorem CD:∀ (x:GV)(n:Int),vis kx n x=(wrap64 (n+rsz x),true)
 | .mk k n s l,m=>by
  rw [oc,nX];simp only [kx,if_true,GV.kids];rw [xj l (wrap64 (m+1)),nH]
theorem xj:∀ (l:List GV)(n:Int),sS kx n l=(zT n l,true)
 | [],n=>by rw [oU,fM]
 | x :: xs,n=>by rw [lU,CD x n];simp only [if_true];rw [xj xs _,gQ]
end
theorem KR (x:GV):(vis kx 0 x).1=rsz x:=by rw [CD];show wrap64 (0+rsz x)=_;rw [Int.zero_add,pL (uS x)]
mutual
theorem AC:∀ (x:GV)(n:Int)(m:Bool),(vis xW (n,true,m) x).2=dV aG x∧(vis xW (n,true,m) x).1.2.1=dV aG x∧(dV aG x=true->(vis xW (n,true,m) x).1=(wrap64 (n+rsz x),true,m && dV qU x))
 | .mk k n s l,a,m=>by
  rw [oc,cH,cH,nX];simp only [xW,Bool.true_and,GV.kids];cases hf:aG (.mk k n s l)
  ·simp
  ·simp only [if_true,Bool.true_and]
   have h:=zr l (wrap64 (a+1)) (m && qU (.mk k n s l));refine ⟨h.1,h.2.1,fun ha=>?_⟩;rw [h.2.2 ha,nH,Bool.and_assoc]
theorem zr:∀ (l:List GV)(n:Int)(m:Bool),(sS xW (n,true,m) l).2=eT aG l∧(sS xW (n,true,m) l).1.2.1=eT aG l∧(eT aG l=true->(sS xW (n,true,m) l).1=(zT n l,true,m && eT qU l))
 | [],n,m=>by simp [oU,dX,fM]
 | x :: xs,n,m=>by
  have h:=AC x n m;rw [lU,eD,eD,gQ];cases ha:dV aG x
  ·rw [ha] at h;simp [h.1,h.2.1]
  ·rw [ha] at h
   have h3:=h.2.2 rfl;rw [h.1,if_pos rfl,h3];have k:=zr xs (wrap64 (n+rsz x)) (m && dV qU x);simp only [Bool.true_and];refine ⟨k.1,k.2.1,fun hb=>?_⟩;rw [k.2.2 hb,Bool.and_assoc]
end
theorem GJ {x:GV}(h:aG x=true):qU x=cD x:=by
 unfold aG at h;unfold qU cD;rw [Bool.eq_iff_iff];by_cases h0:x.kind=0
 ·rw [if_pos h0] at h;simp at h;simp [h0,h.2]
 ·rw [if_neg h0] at h
  by_cases h1:x.kind=1
  ·rw [if_pos h1] at h;simp at h;simp [h1,h.2]
  ·rw [if_neg h1] at h
   by_cases h2:x.kind=2
   ·simp [h2]
   ·rw [if_neg h2] at h
    by_cases h3:x.kind=3
    ·simp [h3];omega
    ·rw [if_neg h3] at h;cases h
mutual
theorem zL:∀ (x:GV),dV aG x=true->dV qU x=dV cD x
 | .mk k n s l,h=>by
  rw [cH] at h ⊢;rw [cH];simp only [Bool.and_eq_true] at h;rw [GJ h.1];exact congrArg _ (tW l h.2)
theorem tW:∀ (l:List GV),eT aG l=true->eT qU l=eT cD l
 | [],_=>by rw [dX,dX]
 | x :: xs,h=>by
  rw [eD] at h ⊢;rw [eD];simp only [Bool.and_eq_true] at h;rw [zL x h.1,tW xs h.2]
end
theorem pO (x:GV):eW x=eI x:=by
 have h:=AC x 0 true;unfold eW eI;rw [h.2.1];cases ha:dV aG x
 ·rfl
 ·rw [ha] at h
  rw [h.2.2 rfl,zL x ha,Int.zero_add,pL (uS x),Bool.true_and]
theorem yX:∀ (l:List GV),mO l=cW l
 | []=>rfl
 | x :: xs=>by simp only [mO,cW];rw [pO,yX xs]
theorem kE:ByteArray.empty.toList=[]:=by rw [ByteArray.toList_eq];rfl
theorem xN {s:ByteArray}(h:s.toList=[]):s=ByteArray.empty:=zI (by rw [h,kE])
def cT (x:GN):Bool:=decide (0<=x.kind) && decide (x.kind<=4) && (decide (x.kind=0) || decide (cS x.value cX=0)) && (decide (x.kind=1) || (decide (x.lo=0) && decide (x.hi=0))) &&
 (decide (x.kind=2) || (decide (x.weights.length=0) && decide (x.labels.length=0))) && (decide (x.kind=3) || bF x.name) && (decide (x.kind=4) || decide (x.values.length=0)) &&
 ((!decide (x.kind=0) && !decide (x.kind=1)) || decide (x.kids.length=0))
def pT (x:GN):Bool :=
 if x.kind=2 then decide (1<=x.kids.length) && decide (x.kids.length<=256) && decide (x.weights.length=x.kids) && (decide (x.labels.length=0) || decide (x.labels.length=x.kids))
 else if x.kind=3 then (if bF x.name then decide (x.kids.length<=256) else decide (x.kids.length<=16) && decide (eW (.mk 3 0 x.name [])=0))
 else if x.kind=4 then qM x.values && decide (x.kids.length=x.values+1)
 else true
def dI (i:Int)(x:GN):Bool:=x.kids.all (fun z=>!fmK i z) && pT x
theorem I4 (v:GV):rZ v=decide (cS v cX=0):=by
 rw [Bool.eq_iff_iff,decide_eq_true_iff];constructor
 ·intro h
  obtain ⟨k,n,s,l⟩:=v;have h':(decide (k=0) && decide (n=0) && bF s && !decide (0<l.length))=true:=h;simp only [Bool.and_eq_true,decide_eq_true_eq,Bool.not_eq_true',decide_eq_false_iff_not,bF,List.isEmpty_iff] at h';obtain ⟨⟨⟨rfl,rfl⟩,hs⟩,hl⟩:=h';rw [xN hs,List.eq_nil_of_length_eq_zero (Nat.eq_zero_of_not_pos hl)];exact rB _
 ·intro h
  rw [fX _ _ h];have h':(decide ((0:Int)=0) && decide ((0:Int)=0) && bF ByteArray.empty && !decide (0<([]:List GV).length))=true:=by rw [iF kE];rfl
  exact h'
theorem I8 (s:ByteArray):decide (eW (.mk 3 0 s [])=0)=rO s:=by
 rw [pO];unfold eI;rw [cH,cH,nX];simp only [GV.kids,dX,fM,Bool.and_true];have h1:aG (.mk 3 0 s [])=rO s:=by simp [aG,GV.kind,GV.n,GV.s]
 have h2:cD (.mk 3 0 s [])=true:=by simp [cD,GV.kind,GV.kids]
 rw [h1,h2];cases rO s <;> simp
theorem Ai (i:Int)(x:GN):(cT x && dI i x)=eO i x:=by
 unfold cT dI eO fmA gO unA unB unC fmC fmS pT;rw [I4,I8];have hb:x.values.length=0->qM x.values=true:=fun h=>nM I
 generalize x.kids.all (fun z=>!fmK i z)=bk;generalize decide (cS x.value cX=0)=bz;generalize bF x.name=be;generalize rO x.name=bc;generalize qM x.values=bi at *;generalize x.weights.length=nw at *;generalize x.labels.length=nl at *;generalize x.values.length=nv at *;generalize x.kids.length=nk at *;generalize x.lo=lo at *;generalize x.hi=hi at *;generalize x.kind=k at *;by_cases h4:k=4
 ·subst h4;clear hb;cases bk <;> cases bz <;> cases be <;> cases bc <;> cases bi <;> simp <;> (rw [Bool.eq_iff_iff];simp;try omega)
 by_cases h0:k=0
 ·subst h0;by_cases hv:nv=0
  ·have:=hb hv;subst this hv;cases bk <;> cases bz <;> cases be <;> cases bc <;> simp <;> (rw [Bool.eq_iff_iff];simp;try omega)
  ·cases bk <;> cases bz <;> cases be <;> cases bc <;> cases bi <;> simp [hv,show 0<nv by omega]
 by_cases h1:k=1
 ·subst h1;by_cases hv:nv=0
  ·have:=hb hv;subst this hv;cases bk <;> cases bz <;> cases be <;> cases bc <;> simp <;> (rw [Bool.eq_iff_iff];simp;try omega)
  ·cases bk <;> cases bz <;> cases be <;> cases bc <;> cases bi <;> simp [hv,show 0<nv by omega]
 by_cases h2:k=2
 ·subst h2;by_cases hv:nv=0
  ·have:=hb hv;subst this hv;cases bk <;> cases bz <;> cases be <;> cases bc <;> simp <;> (rw [Bool.eq_iff_iff];simp;try omega)
  ·cases bk <;> cases bz <;> cases be <;> cases bc <;> cases bi <;> simp [hv,show 0<nv by omega]
 by_cases h3:k=3
 ·subst h3;by_cases hv:nv=0
  ·have:=hb hv;subst this hv;cases bk <;> cases bz <;> cases be <;> cases bc <;> simp <;> (rw [Bool.eq_iff_iff];simp;try omega)
  ·cases bk <;> cases bz <;> cases be <;> cases bc <;> cases bi <;> simp [hv,show 0<nv by omega]
 ·have hk:(decide (0<=k) && decide (k<=4))=false:=by
   rw [Bool.and_eq_false_iff];simp;omega
  have hk2:(decide (k<0) || decide (4<k))=true:=bh;rw [hk];simp only [Bool.false_and];rw [Bool.or_assoc,hk2];simp
theorem yU {i:Int}{x:GN}(h:eO i x=true)(hk:x.kind=0):x.values=[]:=by
 rw [<- Ai] at h;unfold cT at h;simp [hk] at h;exact h.1.1.2
theorem KE {i:Int}{x:GN}(h:eO i x=true):gT x=cW (bY x):=by
 unfold gT bY;by_cases hk:x.kind=0
 ·rw [if_pos hk,if_pos hk,yU h hk,pO]
  simp only [cW];split
  ·next h0=>exact h0
  ·rfl
 ·rw [if_neg hk,if_neg hk,yX]
theorem tA (i:Int)(x:GN):iK i x=if (cT x && dI i x)=false then 1 else if gT x=0 then (if bQ x then 0 else 5) else gT x:=by
 unfold iK;rw [Ai];cases h:eO i x
 ·rfl
 ·rw [KE h]
def iX (t:List GN):Prop:=∀ x ∈ t,gsz x.value<=1000000000
mutual
theorem pk:∀ (x:GV),gsz x<=1000000000->rsz x=gsz x
 | .mk k n s l,h=>by
  simp only [gsz] at h ⊢;rw [nX];simp only [GV.kids];rw [CL l 1 I I];omega
theorem CL:∀ (l:List GV)(n:Int),1<=n->n+jQ l<=1000000001->zT n l=n+jQ l
 | [],n,_,_=>by rw [fM];simp [jQ]
 | x :: xs,n,h0,h=>by
  simp only [jQ] at h ⊢;rw [gQ,pk x I,pL dg,CL xs _ I I];omega
end
theorem Iu (x:GV):1<=gsz x:=by obtain ⟨k,n,s,l⟩:=x;simp only [gsz];omega
theorem yO {before:List Int}:∀ {zs:List Int}{s:Int},(∀ z ∈ zs,1<=before.getD z.toNat 0∧before.getD z.toNat 0<=1024)->0<=s->s+1024*zs.length<=1000000000->s<=dO before s zs
 | [],s,_,_,_=>by simp [dO]
 | z :: zs,s,h,h0,hs=>by
  have hz:=h z U;simp only [ai] at hs;simp only [dO];rw [pL dg];have:=yO (before:=before) (zs:=zs) (s:=s+before.getD z.toNat 0) (fun y hy=>h y dh) I I;omega
def gA (before:List Int)(x:GN):Int :=
 if x.kind=0 then rsz x.value else if x.kind=3 then dO before 1 x.kids else if x.kind=2 then bA before true 0 1 x.kids else if x.kind=4 then bA before false 0 1 x.kids else 1
theorem mH {before:List Int}{ch:Bool}:∀ (zs:List Int)(i:Nat)(m n:Int),m<=n->(n<=bA before ch i m zs->bA before ch i n zs=bA before ch i m zs)∧(bA before ch i m zs<n->bA before ch i n zs=n)
 | [],i,m,n,h=>by simp only [bA];exact ⟨fun hh=>by omega,fun _=>trivial⟩
 | z :: zs,i,m,n,h=>by
  simp only [bA];generalize before.getD z.toNat 0=y;by_cases hc:ch=true∨0<i
  ·simp only [if_pos hc]
   by_cases h1:n<y
   ·rw [if_pos h1,if_pos (by omega:m<y)]
    have hy:=(eM (before:=before) (ch:=ch) zs (i+1) y).1;exact ⟨fun _=>rfl,fun hh=>by omega⟩
   ·rw [if_neg h1]
    exact mH zs (i+1) _ n (by split <;> omega)
  ·simp only [if_neg hc]
   exact mH zs (i+1) m n h
theorem jV {t:List GN}{j:Nat}(hj:j<t){z:Int}(hz:0<=z∧z<(j:Int)):(bS (t.take j)).getD z.toNat 0=(bS t).getD z.toNat 0:=by
 unfold bS;rw [gX jO t j I];have:z.toNat<j:=by omega
 simp [List.getD,this]
theorem lZ {t:List GN}{j:Nat}(hj:j<t):(bS t).getD j 0=jO (bS (t.take j)) (t.getD j default):=pH jO 0 t hj
theorem pS {before:List Int}{j:Nat}{x:GN}(hn:cR j x)(hb:∀ z:Int,0<=z->z<j->1<=before.getD z.toNat 0) :
  gA before x=jO before x∨(x.kind=4∧x.values=[]∧gA before x=1∧jO before x=0):=by
 unfold gA jO;by_cases h0:x.kind=0
 ·left;simp [h0]
 ·by_cases h1:x.kind=1
  ·left;simp [h1]
  ·by_cases h3:x.kind=3
   ·left;simp [h3]
   ·by_cases h2:x.kind=2
    ·left
     simp only [h2];have hc:=hn.choice h2;have hk:=hn.kids _ (aC (d:=0) (show 0<x.kids.length by omega));have hg:=(eM (before:=before) (ch:=true) x.kids 0 0).2 0 I (.inl rfl);have h5:=hb _ hk.1 hk.2;have:=(mH (before:=before) (ch:=true) x.kids 0 0 1 I).1 I
     simpa using this
    ·have hk4:x.kind=4:=by have:=hn.kind;omega
     simp only [hk4];have hl:=hn.bind hk4;by_cases hv:x.values=[]
     ·right
      rw [hv] at hl;simp only [List.length_nil] at hl;obtain ⟨z,hz⟩:∃ z,x.kids=[z]:=List.length_eq_one_iff.1 hl;rw [hz];simp [bA,hv]
     ·left
      have hvl:0<x.values.length:=List.length_pos_iff.2 hv;have hk:=hn.kids _ (aC (d:=0) (show 1<x.kids.length by omega));have hg:=(eM (before:=before) (ch:=false) x.kids 0 0).2 1 I (.inr I);have h5:=hb _ hk.1 hk.2;have:=(mH (before:=before) (ch:=false) x.kids 0 0 1 I).1 I
      simpa using this
theorem uL {t:List GN}{i:Nat}(h:aO t i)(hs:iX t):∀ j,j<i->1<=(bS t).getD j 0∧(bS t).getD j 0<=1024:=by
 intro j
 induction j using Nat.strongRecOn with
 | ind j ih =>
  intro hj;have hc:=h.at_ hj;have hlt:j<t:=by have:=h.1;omega
  refine ⟨?_,hc.size⟩;have hn:=hc.node
  have hk:∀ z:Int,0<=z->z<(j:Int)->1<=(bS (t.take j)).getD z.toNat 0∧(bS (t.take j)).getD z.toNat 0<=1024:=fun z h1 h2=>by
   rw [jV hlt ⟨h1,h2⟩];exact ih z.toNat I I
  have hf:=cJ h hj;have hv:=hs _ (aC (d:=default) hlt);rw [lZ hlt];generalize t.getD j default=x at *;have hp:=pS hn (fun z h1 h2=>(hk z h1 h2).1);have hne:x.kind=4->x.values ≠ []:=fun h4 hv=>by have:=hf.2.2 h4;rw [hv] at this;simp at this
  have hz:∀ z ∈ x.kids,1<=(bS (t.take j)).getD z.toNat 0∧(bS (t.take j)).getD z.toNat 0<=1024:=fun z hz=>hk z (hn.kids z hz).1 (hn.kids z hz).2
  generalize bS (t.take j)=before at *;rcases hp with hp | ⟨h4,hv,_⟩
  ·rw [<- hp]
   unfold gA;split
   ·rw [pk _ I];have:=Iu x.value;omega
   ·split
    ·exact yO hz I I
    ·split
     ·exact (eM x.kids 0 1).1
     ·split
      ·exact (eM x.kids 0 1).1
      ·exact Int.le_refl _
  ·exact absurd hv (hne h4)
theorem wD (x y:GV)(A B:Option Addr)(c d:Nat)(P Q:Nat->Prop)(w:World)(hx:VAt w P x A c)(hy:VAt w Q y B d) :
  qg 104 #[cN x A c,cN y B d] w (dE (decide (cS x y=0)) w):=by
 have HX:=aYf hx;have HY:=aYf hy;clear hx hy;go_enter Tryz.func104,Tryz.ntmps104;go_wp2_with fail;refine (bT x y A B c d P Q _ (HX.out.ext (((aq _).alloc' _).alloc' _)) (HY.out.ext (((aq _).alloc' _).alloc' _))).mono ?_;rintro e w1 ⟨rfl,hx1⟩;have HX1:=aYf ((((aq w).alloc' _).alloc' _).trans' hx1);clear hx1;generalize cS x y=z at *;go_wp2_with fail
 all_goals
  go_ret;exact ⟨aD (by rw [Bool.eq_iff_iff];simp_all),HX1.out⟩
theorem wC (a b:List GV)(P Q:Nat->Prop)(va vb:Value)(w:World)(ha:bZ w P va a)(hb:bZ w Q vb b) :
  qg 103 #[va,vb,.func (.func 104) #[] #[]] w (dE (eF a b) w):=by
 have HA:=aYf ha;have HB:=aYf hb;have HS:=aYf (show eF a b=(decide (a.length=b) && (a.zip b).all (fun p=>decide (cS p.1 p.2=0))) from rfl);obtain ⟨A,c,e,h1,h2⟩:=ha.form;obtain ⟨A',c',e',h1',h2'⟩:=hb.form;subst e e';clear ha hb;by_cases hl:a.length=b
 ·have HS2:=aYf (show eF a b=((a.drop 0).zip (b.drop 0)).all (fun p=>decide (cS p.1 p.2=0)) by rw [HS.out,aYi hl];rfl)
  have hl1:a.length<=b:=I;have hl2:b.length<=a:=I;have hne:((a:Int) != (b:Int))=false:=iu;clear hl;go_enter Tryz.func103,Tryz.ntmps103;go_wp2_with fail;go_loopw [17] (fun i wr=>zc a b w i wr) (fun i _=>a.length - (intOf i).toNat)
  case atStart=>exact ⟨0,af _,rfl,aq _,HS2.out⟩
  case round =>
   obtain ⟨k,hk,rfl,hx,ht⟩:=hrel;have HT:=aYf ht;have HX:=aYf hx;clear ht hx;by_cases hlt:k<a
   ·have hlt':k<b:=by omega
    have HD:=aYf (show eF a b=(decide (cS (a.getD k default) (b.getD k default)=0) && ((a.drop (k+1)).zip (b.drop (k+1))).all (fun p=>decide (cS p.1 p.2=0))) by
     rw [HT.out,aJ default hlt,aJ default hlt'];rfl)
    obtain ⟨b1,o1,c1,A1,d1,e1,-,-,-,hv1,g10,g11,g12,g13⟩:=(HA.out.ext HX.out).at_ hlt;obtain ⟨b2,o2,c2,A2,d2,e2,-,-,-,hv2,g20,g21,g22,g23⟩:=(HB.out.ext HX.out).at_ hlt';cases e1;cases e2;have q2:=bB g20;have HV1:=aYf hv1;have HV2:=aYf hv2;clear hv1 hv2;generalize a.getD k default=x at *;generalize b.getD k default=y at *;go_wp2_with fail;refine (wD x y A1 A2 d1 d2 P Q _ (HV1.out.ext (((aq _).alloc' _).alloc' _)) (HV2.out.ext (((aq _).alloc' _).alloc' _))).mono ?_;rintro e w1 ⟨rfl,hx1⟩;have HX1:=aYf (HX.out.trans' ((((aq _).alloc' _).alloc' _).trans' hx1));clear hx1;by_cases hz:cS x y=0
    ·have HZ:=aYf hz
     have tz:decide (cS x y=0)=true:=aYi hz;clear hz;generalize decide (cS x y=0)=bz at *;subst tz;go_wp2_with fail;go_roundw
     case rel=>exact ⟨k+1,I,by go_num,HX1.out,by rw [HD.out];rfl⟩
     case measure=>simp [intOf];omega
    ·have HZ:=aYf hz
     have tz:decide (cS x y=0)=false:=aYj hz;clear hz;generalize decide (cS x y=0)=bz at *;subst tz;go_wp2_with fail;go_ret;exact ⟨aD (by rw [HD.out];rfl),HX1.out⟩
   ·go_wp2_with fail
    go_ret;exact ⟨aD (by rw [HT.out,drop_nil (l:=a) I];rfl),HX.out⟩
 ·have hne:((a:Int) != (b:Int))=true:=bne_iff_ne.2 I
  have HL:=aYf hl;clear hl;go_enter Tryz.func103,Tryz.ntmps103;go_wp2_with fail;go_ret;exact ⟨aD (by rw [HS.out,aYj HL.out];rfl),aq _⟩
theorem aH {w w':World}{M:Nat->Prop}(hf:Fr M w w'){b off:Nat}{u:Value}(hb:¬ M b)(h:qc w b off u):qc w' b off u:=by
 rw [<- h];exact World.cell?_of_block (w:=w) (hf.block b (bB h) hb)
theorem kW {w w':World}{M:Nat->Prop}(hf:Fr M w.drew w'){b off:Nat}{u:Value}(hb:¬ M b)(h:qc w b off u):qc w' b off u:=aH (w:=w.drew) hf hb h
def oE (t:List GN)(x:GN):Int:=if x.kind=4 then iI t x else 0
def Gz (t:List GN)(vn:Value)(g:SA)(r:Int)(w:World)(e:Ending)(w':World):Prop:=e=.returned (↑r)∧Fr g.M w w'∧bV t vn g w'
theorem KF (t:List GN)(vn:Value)(g:SA)(gc b o i:Nat)(x:GN)(a:NA)(w:World)(hx:NAt w g.Q x a)(hn:aR w b o x a)(hb:g.Q b)(hc3:qc w gc 3 (qp g.s))(hgc:¬ g.M gc)(hs:bV t vn g w)
  (hok:cR i x)(hg:aO t i) :
  qg 74 #[qp gc,qt b o] w (Gz t vn g (oE t x) w):=by
 have c0:=hn.c0;have c7:=hn.c7;have HN:=aYf hn;have HX:=aYf hx;have HS:=aYf hs;have HB:=aYf hb;have HGC:=aYf hgc;obtain ⟨hkl1,hkl2⟩:=hx.kids.le;by_cases hk:x.kind=4
 ·have t4:(x.kind != 4)=false:=by rw [bne_eq_false_iff_eq];exact hk
  have hk0:0<x.kids.length:=by have:=hok.bind hk;omega
  have hz:=hok.kids _ (aC (d:=0) hk0);obtain ⟨n,hn0⟩:∃ n:Nat,x.kids.getD 0 0=(n:Int):=⟨(x.kids.getD 0 0).toNat,I⟩
  have HQ:=aYf (show oE t x=if ((aE t).getD n default).many then 4 else if eF ((aE t).getD n default).vals x.values then 0 else 1 by
   unfold oE;rw [if_pos hk];unfold iI;rw [hn0];simp)
  obtain ⟨b1,o1,e1,hb1,-,g1⟩:=hx.kids.get hk0;rw [hn0,Nat.add_zero] at g1;rw [e1] at c7;have HB1:=aYf hb1;have HOF:=aYf (show ∀ W,bV t vn g W->qg 102 #[qp g.s,↑n] W (iY t vn g ((aE t).getD n default) W) from fun W h=>G3 t vn g n W (hg.mono I) h);generalize (aE t).getD n default=gg at *;obtain ⟨vals,many⟩:=gg;clear hx hn hs hb hgc hok hg hz hn0 hb1 e1 hk;go_enter Tryz.func74,Tryz.ntmps74;go_wp2_with fail
  go_region_held3 (fun w'=>qc w' gc 3 (qp g.s)∧qc w' b (o+7) (.slice (qt b1 o1) x.kids a.kc)∧qc w' b1 o1 n)
   (first
    | go_keep
    | (go_split_ands
       exact ⟨kW hfr HGC.out ‹_›,kW hfr HB.out.1 ‹_›,kW hfr HB1.out.1 ‹_›⟩)
    | (go_split_ands
       exact ⟨aH hfr HGC.out ‹_›,aH hfr HB.out.1 ‹_›,aH hfr HB1.out.1 ‹_›⟩))
   (first
    | (go_at_call 102;refine (HOF.out _ (HS.out.ext (aq _).drew')).mono ?_;rintro e w1 ⟨A,c,rfl,hv,hfr,hs1⟩))
  have HFR:=aYf ((au g.M w).drew.trans hfr);have HV:=aYf hv;have HS1:=aYf hs1;have d6:=aH HFR.out HB.out.1 HN.out.c6;have HVL:=aYf (HX.out.values.carry (aB.of_fr HFR.out (fun b h=>h.1)) (fun _ _ h=>h));clear hv hfr hs1;cases many
  ·go_wp2_with fail
   refine (wC vals x.values g.Q g.Q _ _ _ HV.out HVL.out).mono ?_;rintro e w2 ⟨rfl,hx2⟩;have HX2:=aYf hx2;clear hx2;generalize eF vals x.values=bb at *;cases bb
   ·go_wp2_with fail
    go_ret;exact ⟨aK ip,HFR.out.trans (ar HX2.out),HS1.out.ext HX2.out⟩
   ·go_wp2_with fail
    go_ret;exact ⟨aK ip,HFR.out.trans (ar HX2.out),HS1.out.ext HX2.out⟩
  ·go_wp2_with fail
   go_ret;exact ⟨aK ip,HFR.out,HS1.out⟩
 ·have t4:(x.kind != 4)=true:=bne_iff_ne.2 hk
  have HQ:=aYf (show oE t x=0 by unfold oE;rw [if_neg hk]);clear hx hn hs hb hgc hok hg;go_enter Tryz.func74,Tryz.ntmps74;go_wp2_with fail;go_ret;exact ⟨aK HQ.out.symm,au _ _,HS.out⟩
theorem lM {a b:List Int}:∀ {zs:List Int}{s:Int},(∀ z ∈ zs,a.getD z.toNat 0=b.getD z.toNat 0)->dO a s zs=dO b s zs
 | [],_,_=>rfl
 | z :: zs,s,h=>by simp only [dO];rw [h z U,lM (fun y hy=>h y dh)]
theorem fV {a b:List Int}{ch:Bool}:∀ {zs:List Int}{i:Nat}{m:Int},(∀ z ∈ zs,a.getD z.toNat 0=b.getD z.toNat 0)->bA a ch i m zs=bA b ch i m zs
 | [],_,_,_=>rfl
 | z :: zs,i,m,h=>by simp only [bA];rw [h z U,fV (fun y hy=>h y dh)]
theorem Lx {a b:List Int}{j:Nat}{x:GN}(hn:cR j x)(h:∀ z ∈ x.kids,a.getD z.toNat 0=b.getD z.toNat 0):gZ a x=gZ b x:=by
 unfold gZ;rw [lM h,fV h,fV h];by_cases k4:x.kind=4
 ·have:=hn.bind k4
  rw [h _ (aC (d:=0) I)]
 ·have hk:=hn.kind
  by_cases h0:x.kind=0
  ·simp [h0]
  ·by_cases h1:x.kind=1
   ·simp [h1]
   ·by_cases h3:x.kind=3
    ·simp [h3]
    ·simp [show x.kind=2 by omega]
theorem FT {a b:List Int}{x:GN}(h:∀ z ∈ x.kids,a.getD z.toNat 0=b.getD z.toNat 0):gA a x=gA b x:=by
 unfold gA;rw [lM h,fV h,fV h]
theorem xO {a b:List Int}{k i:Nat}(h:a.take k=b.take k)(hi:i<k):a.getD i 0=b.getD i 0:=by
 have:(a.take k)[i]?=(b.take k)[i]?:=by rw [h]
 simp only [List.getElem?_take,hi,if_true] at this;simp [List.getD,this]
section
variable {t:List GN}{k:Nat}{ls zs:List Int}
theorem pt (hk:k<t)(hn:cR k (t.getD k default))(hl:ls.take k=(aI t).take k):gZ ls (t.getD k default)=(aI t).getD k 0:=by
 rw [oY hk]
 exact Lx hn (fun z hz=>by
  have hz':=hn.kids z hz;rw [vM hk hz'];exact xO hl I)
theorem BS (hg:aO t k)(hs:iX t)(hk:k<t)(hn:cR k (t.getD k default))(hl:zs.take k=(bS t).take k) :
  gA zs (t.getD k default)=(bS t).getD k 0∨((t.getD k default).kind=4∧(t.getD k default).values=[]∧gA zs (t.getD k default)=1∧(bS t).getD k 0=0):=by
 have e:gA zs (t.getD k default)=gA (bS (t.take k)) (t.getD k default):=FT (fun z hz=>by
  have hz':=hn.kids z hz;rw [jV hk hz'];exact xO hl I)
 rw [e,lZ hk];exact pS hn (fun z h1 h2=>by rw [jV hk ⟨h1,h2⟩];exact (uL hg hs z.toNat I).1)
theorem Hi {i:Int}{x:GN}(h:(cT x && dI i x)=false):iK i x=1:=by rw [tA,if_pos h]
theorem qd {i:Int}{x:GN}(h:(cT x && dI i x)=true):iK i x=if gT x=0 then (if bQ x then 0 else 5) else gT x:=by rw [tA,if_neg (by rw [h];decide)]
theorem ua (h:(cT (t.getD k default) && dI k (t.getD k default))=false):cY t k=1:=by
 unfold cY;rw [Hi h];rfl
theorem Hc (h:(cT (t.getD k default) && dI k (t.getD k default))=true)(hp:¬ gT (t.getD k default)=0):cY t k=gT (t.getD k default):=by
 unfold cY;rw [qd h,if_neg hp,if_neg hp]
theorem Hf (h:(cT (t.getD k default) && dI k (t.getD k default))=true)(hp:gT (t.getD k default)=0)(hn:bQ (t.getD k default)=false):cY t k=5:=by
 unfold cY;rw [qd h,if_pos hp,hn];rfl
theorem EG (h:(cT (t.getD k default) && dI k (t.getD k default))=true)(hp:gT (t.getD k default)=0)(hn:bQ (t.getD k default)=true):cR k (t.getD k default):=by
 rw [<- kK,qd h,if_pos hp,if_pos hn]
theorem Hn (hg:aO t k)(hs:iX t)(hk:k<t)(hn:cR k (t.getD k default))(hl:ls.take k=(aI t).take k)(hz:zs.take k=(bS t).take k) :
  cY t k=if (decide (gZ ls (t.getD k default)<=256) && decide (gA zs (t.getD k default)<=1024))=false then 4 else oE t (t.getD k default):=by
 unfold cY;rw [if_pos (kK.2 hn),pt hk hn hl]
 have hc:(256<(aI t).getD k 0∨1024<(bS t).getD k 0) ↔ (decide ((aI t).getD k 0<=256) && decide (gA zs (t.getD k default)<=1024))=false:=by
  rw [Bool.and_eq_false_iff,decide_eq_false_iff_not,decide_eq_false_iff_not];rcases BS hg hs hk hn hz with h | ⟨_,_,h1,h2⟩
  ·rw [h];omega
  ·rw [h1,h2];omega
 by_cases h:(256<(aI t).getD k 0∨1024<(bS t).getD k 0)
 ·rw [if_pos h,if_pos (hc.1 h)]
 ·rw [if_neg h,if_neg (fun h'=>h (hc.2 h'))]
  rfl
theorem yn (hg:aO t k)(hk:k<t)(hc:cY t k=0):aO t (k+1):=⟨I,hg.2.1,fun j hj=>by
 rcases Nat.lt_or_eq_of_le (Nat.le_of_lt_succ hj) with h | h
 ·exact hg.2.2 j h
 ·rw [h];exact hc⟩
theorem uy {a b:List Int}{i:Nat}{v:Int}(h:a.take i=b.take i)(ha:i<a)(hb:i<b)(hv:v=b.getD i 0):(a.set i v).take (i+1)=b.take (i+1):=by
 rw [aW 0 hb,<- hv,List.take_succ_eq_append_getElem (by simpa using ha),List.take_set_of_le (ab _),h];simp
theorem B9 (hg:aO t k)(hk:k<t)(hc:cY t k=0)(hl:ls.take k=(aI t).take k)(hll:ls.length=t):(ls.set k (gZ ls (t.getD k default))).take (k+1)=(aI t).take (k+1):=by
 refine uy hl I (by unfold aI;rw [dU];simpa using hk) ?_;exact pt hk (mU.1 hc).node hl
theorem Iz (hg:aO t k)(hs:iX t)(hk:k<t)(hc:cY t k=0)(hl:zs.take k=(bS t).take k)(hll:zs.length=t):(zs.set k (gA zs (t.getD k default))).take (k+1)=(bS t).take (k+1):=by
 refine uy hl I (by unfold bS;rw [dU];simpa using hk) ?_;rcases BS hg hs hk (mU.1 hc).node hl with h | ⟨h4,hv,_⟩
 ·exact h
 ·have:=(cJ (yn hg hk hc) (Nat.lt_succ_self k)).2.2 h4
  rw [hv] at this;simp at this
theorem sV (hk:k<t)(h:bE t=dD t k (t.length - k)):bE t=if cY t k=0 then dD t (k+1) (t.length - (k+1)) else cY t k:=by
 have e:t.length - k=(t.length - (k+1))+1:=I;rw [h,e];rfl
theorem iO (hk:k<t)(h:bE t=dD t k (t.length - k)){r:Int}(hc:cY t k=r)(hr:¬ r=0):bE t=r:=by
 rw [sV hk h,if_neg (by rw [hc];exact hr),hc]
end
theorem Gh {a:List Int}(ha:∀ x ∈ a,I64 x)(x:GN):I64 (gA a x):=by
 have h1:I64 1:=dg;unfold gA;split
 ·exact uS _
 ·split
  ·exact kB _ _ _ h1
  ·split
   ·exact kL _ ha _ _ _ _ h1
   ·split
    ·exact kL _ ha _ _ _ _ h1
    ·exact h1
theorem oZ {a:List Int}(ha:∀ x ∈ a,I64 x)(x:GN):I64 (gZ a x):=by
 have h0:I64 0:=dg;have h1:I64 1:=dg;unfold gZ;split
 ·exact h0
 ·split
  ·exact h1
  ·split
   ·exact kB _ _ _ h0
   ·split
    ·exact oT _
    ·exact oT _
theorem pU {a:List Int}(ha:∀ x ∈ a,I64 x){i:Nat}{v:Int}(hv:I64 v):∀ x ∈ a.set i v,I64 x:=fun x hx=>by
 rcases List.mem_or_eq_of_mem_set hx with h | h
 ·exact ha x h
 ·rw [h];exact hv
