/- Contracts and laws. Conditions: none. -/
import Derived.Test.YtkoeecdjijfjnaaGreatE5
set_option linter.all false
set_option maxRecDepth 100000
set_option maxHeartbeats 8000000
namespace Go.Proofs.YtkoeecdjijfjnaaGreat
open Go.RowKit
theorem mI {before bind}:∀ zs k out,jH before bind k out true zs=⟨[],true⟩
 | [],_,_=>by simp [jH]
 | z :: zs,k,out=>by
  simp only [jH];split
  ·exact mI zs _ _
  ·simp only [Bool.true_or];exact mI zs _ _
theorem qZ {before bind}:∀ zs k out,(∀ z ∈ zs,LOK (before.getD z.toNat default))->Inc out->¬ (bind=true∧k=0)->jH before bind k out false zs=aBh before out zs
 | [],_,_,_,_,_=>by simp [jH,aBh]
 | z :: zs,k,out,hz,ho,hb=>by
  have hl:=hz z O;simp only [jH,aBh];rw [if_neg hb,aCa ho hl.inc];simp only [Bool.false_or];cases e:(before.getD z.toNat default).many
  ·simp only [Bool.false_or,Bool.false_eq_true,if_false]
   by_cases h:1024<(eM (out ++ (before.getD z.toNat default).vals)).length
   ·rw [a4e h,mI,if_pos h]
   ·rw [a4f h,if_neg h]
    exact qZ zs (k+1) _ (fun y hy=>hz y db) (jP _) I
  ·simp only [Bool.true_or,if_true]
   exact mI zs _ _
theorem aE9 {before x}(hz:∀ z ∈ x.kids,LOK (before.getD z.toNat default)):tY before x=zL x before:=by
 unfold tY zL;split
 ·next h=>rw [h]
 ·next rows h =>
  rw [h];obtain ⟨a,_,_,_⟩:=oK x.kids [[]] 0 hz (List.pairwise_singleton _ _) O O O rows h;show _=GL.mk (eM (rows.map (bX x.name))) false;rw [qF (aAg x.name a)]
theorem aHn {t i}(hg:bD t (i+1)):(aF t).getD i default=cI (aF t) (t.getD i default):=by
 have hit:i<t:=by have:=hg.1;omega
 have hn:=(hg.at_ (j:=i) I).node;have hk:∀ z ∈ (t.getD i default).kids,(aF (t.take i)).getD z.toNat default=(aF t).getD z.toNat default:=fun z hz=>gT hit (hn.kids z hz)
 have hsq:∀ (zs:List Int) (rows:List (List GV)),(∀ z ∈ zs,(aF (t.take i)).getD z.toNat default=(aF t).getD z.toNat default)->bL (aF (t.take i)) rows zs=bL (aF t) rows zs:=by
  intro zs
  induction zs with
  | nil=>intro rows _;rfl
  | cons z zs ih=>intro rows h;simp only [bL];rw [h z O];split;rfl;exact ih _ (fun y hy=>h y db)
 have hun:∀ (bind:Bool) (zs:List Int) (k:Nat) (out:List GV) (m:Bool),(∀ z ∈ zs,(aF (t.take i)).getD z.toNat default=(aF t).getD z.toNat default)->jH (aF (t.take i)) bind k out m zs=jH (aF t) bind k out m zs:=by
  intro bind zs
  induction zs with
  | nil=>intro k out m _;rfl
  | cons z zs ih =>
   intro k out m h;simp only [jH];rw [h z O];split
   ·exact ih _ _ _ (fun y hy=>h y db)
   ·exact ih _ _ _ (fun y hy=>h y db)
 rw [iN hit];unfold cI;split
 ·rfl
 ·split
  ·rfl
  ·split
   ·unfold zL
    rw [hsq _ _ hk]
   ·exact hun _ _ _ _ _ hk
theorem Ints.tail {w P b off c z}{l:List Int}(h:Ints w P (.slice (qt b off) (l+1) c) (z :: l)):Ints w P (.slice (qt b (off+1)) l (c - 1)) l:=by
 obtain ⟨A,c',e,h1,h2,h3,h4⟩:=h;injection e with e1 e2 e3;subst e1 e3;have h5:=h4.drop (k:=1) O;simp only [ai,Nat.add_sub_cancel,List.map_cons,List.drop_succ_cons,List.drop_zero,Nat.one_mul] at h5;simp only [ai] at h1 h2;exact ⟨_,c - 1,rfl,I,I,fun y hy=>h3 y db,h5⟩
def aJk (lo:Int)(N:Nat)(w:World)(v n:Value)(wr:World):Prop :=
 ∃ (k:Nat) (xs:List Value),k<=N∧n=.int .i64 (lo+k)∧wr.ownsRow w 85 4 v k xs∧RVs wr (fun _=>False) (dZ lo k) xs∧Ext w wr
theorem aH7 (t vn f)(hO:aEp t vn f):yP t vn (f+1):=by
 intro g i w hif hg hs;have HG:=a4b hg;have HS:=a4b hs;have hit:i<t:=by have:=hg.1;omega
 have HOK:=a4b (hg.at_ (j:=i) I).node;have HLL:=a4b (aHn hg);have HFEW:=a4b (eX hg (j:=i) I);have HLOK:=a4b (show ∀ z ∈ (t.getD i default).kids,LOK ((aF t).getD z.toNat default) from fun z hz=>by have h:=HOK.out.kids z hz;exact mT hg z.toNat I);obtain ⟨kn,ls,ms,h⟩:=hs;have hnd:=h.nodes;have HBX:=a4b h.box;obtain ⟨An,cn,en,hn1,hn2⟩:=hnd.form;subst en;obtain ⟨b1,o1,a1,rfl,hb1,ha1,hc1⟩:=hnd.get hit;have HB1:=a4b hb1;have b0:=HBX.out.cell' (u:=.slice (qt b1 o1) t cn) 0 rfl;have HA:=a4b ha1;have HC:=a4b hc1;have c0:=hc1.c0;have hi0:(0:Int)<=(i:Int):=by omega
 have hi1:(i:Int)<(t:Int):=I;clear hg hnd hc1 ha1 hb1 h;generalize t.getD i default=x at *;have hkd:=HOK.out.kind;rw [HLL.out];by_cases k0:x.kind=0
 ·have t0:(x.kind == 0)=true:=a4d k0
  have HR:=a4b (show cI (aF t) x=⟨[x.value],false⟩ by unfold cI;rw [if_pos k0]);have c8:=HC.out.c8;have c9:=HC.out.c9;have c10:=HC.out.c10;have c11:=HC.out.c11;clear k0;go_enter Tryz.func181,Tryz.ntmps181;go_wp2_with fail;go_ret2;rw [HR.out];refine ⟨some ↑(qp w),1,rfl,?_,ar ((aq w).alloc' _),HS.out.ext ((aq w).alloc' _)⟩;refine ⟨some ↑(qp w),1,cellsOf x.value a1.xA a1.xc,rfl,O,O,⟨rfl,fun _=>⟨w.heap.size,0,rfl,HS.out.newQ (ab _),fun j u hu=>tF _ _ _ _ _ _ O (by simpa [cellsOf] using hu)⟩⟩,RVs.one (HA.out.value.ext ((aq w).alloc' _)).rv⟩
 have t0:(x.kind == 0)=false:=a4c k0;by_cases k1:x.kind=1
 ·have t1:(x.kind == 1)=true:=a4d k1
  have HR:=a4b (show cI (aF t) x=if 1024<=x.hi - x.lo then ⟨[],true⟩ else ⟨dZ x.lo (x.hi - x.lo+1).toNat,false⟩ by unfold cI;rw [if_neg k0,if_pos k1]);have hnum:=cS HOK.out.numbers;have c2:=HC.out.c2;have c3:=HC.out.c3;have hwr:IntKind.i64.wrap (x.hi - x.lo)=x.hi - x.lo:=IntWalk.i64_in _ I;clear k0 k1;by_cases hbig:1024<=x.hi - x.lo
  ·have tb:decide (1024<=x.hi - x.lo)=true:=a4e hbig
   have HR2:=a4b (HR.out.trans (if_pos hbig));go_enter Tryz.func181,Tryz.ntmps181;go_wp2_with fail;go_quiet (fail);go_wp2_with fail;go_ret2;rw [HR2.out];exact fY.none_ (ar ((aq w).drewN' _)) (HS.out.ext ((aq w).drewN' _))
  ·have tb:decide (1024<=x.hi - x.lo)=false:=a4f hbig
   have HR2:=a4b (HR.out.trans (if_neg hbig));obtain ⟨N,hN⟩:∃ N:Nat,x.hi - x.lo+1=N:=⟨(x.hi - x.lo+1).toNat,I⟩;have HN:=a4b hN;have hhi1:x.lo+N<=x.hi+1:=by omega
   have hhi2:x.hi+1<=x.lo+N:=I;have hN2:N<=1024:=I;clear hN;obtain ⟨i0,hi,hz0,hz1,hz2⟩:=info_parts Tryz.info85;have HI:=a4b hi;clear hi;go_enter Tryz.func181,Tryz.ntmps181;go_wp2_with fail;go_quiet (fail);clear hwr;go_wp2_with fail;go_loopw [7,8] (fun v n wr=>aJk x.lo N w v n wr) (fun _ n _=>(x.hi+1 - intOf n).toNat)
   case atStart=>exact ⟨0,[],af _,O,aP _ _ _ _,rfl,(aq w).drewN' _⟩
   case round =>
    obtain ⟨k,xs,hk,rfl,hown,hrv,hx⟩:=hrel;have HOWN:=a4b hown;have HRV:=a4b hrv;have HX:=a4b hx;have hsz:=hx.size;clear c0 c2 c3;have c3:=(HC.out.ext hx).c3;clear hown hrv hx;by_cases hlt:k<N
    ·have tl:decide (x.lo+(k:Int)<=x.hi)=true:=a4e I
     go_wp2_with (at_builtin;go_must (refine aJ _ rfl (.tmp 50) (.tmp 53) 83 ba w 85 i0 _ 4 56 Tryz.underlying83 HI.out hz0 hz1 hz2 rfl I u7 _ _ rfl (HOWN.out.alloc _) (fun _=>True) (qp wr) 1 1 [qz,.int .i64 (x.lo+k),.string ByteArray.empty,qn] rfl (Sl.new _ _ _ _ _ rfl) cd I I bh ?_);intro v2 w2 ho2 hbl2);go_roundw
     case rel =>
      have hx2:Below w wr w2:=((Below.refl _ wr).alloc hsz _).trans hbl2;refine ⟨k+1,_,I,bh,ho2,?_,HX.out.trans hx2⟩;rw [rO];exact RVs.append (RVs.carry (fun b _ h=>h.elim) (fun _ _ h=>h) HRV.out) (RVs.one (aNx _ _ br))
     case measure=>simp [intOf];omega
    ·have tl:decide (x.lo+(k:Int)<=x.hi)=false:=a4f I
     have hkN:k=N:=I;have HKN:=a4b hkN;clear hkN;obtain ⟨A2,c2,e2,-,-,-⟩:=Sl.of_own HOWN.out;subst e2;have HEQ:=a4b (show cI (aF t) x=⟨dZ x.lo k,false⟩ by rw [HR2.out,HKN.out,HN.out];simp);go_wp2_with fail;go_ret2;rw [HEQ.out];refine ⟨A2,c2,by rw [dL];rfl,?_,ar HX.out,HS.out.ext HX.out⟩;rw [dL];exact bT.of_own (HOWN.out.len_cast (dL _ _).symm rfl) (RVs.carry (fun _ _ _=>rfl) (fun _ _ h=>h.elim) HRV.out) (by rw [dL];omega) (fun b hb=>HS.out.newQ (HOWN.out.block_ge hb))
 have t1:(x.kind == 1)=false:=a4c k1;have HGI:=a4b (HG.out.mono (j:=i) I);by_cases k3:x.kind=3
 ·have t2:(x.kind == 2)=false:=a4c I
  have t3:(x.kind == 3)=true:=a4d k3;have HR:=a4b (show cI (aF t) x=tY (aF t) x by rw [aE9 HLOK.out];unfold cI;rw [if_neg k0,if_neg k1,if_pos k3]);clear k0 k1 k3;go_enter Tryz.func181,Tryz.ntmps181;go_wp2_with fail;refine (aB5 t _ g f i hO x a1 b1 (o1+i*12) w HA.out HC.out HB1.out HOK.out.kids I (by have:=HFEW.out.1;omega) HGI.out HS.out).mono ?_;rintro e w1 ⟨A,c,rfl,hv,hf,hs1⟩;go_wp2_with fail;go_ret2;rw [HR.out];exact ⟨A,c,rfl,hv,hf,hs1⟩
 have hki:=HA.out.kids;have c7:=HC.out.c7;have hkc:=hki.le;generalize a1.kA=Ak at *;generalize a1.kc=kc at *;by_cases k2:x.kind=2
 ·have t2:(x.kind == 2)=true:=a4d k2
  have HR:=a4b (show cI (aF t) x=aBh (aF t) [] x.kids by rw [<- qZ x.kids 0 [] HLOK.out Inc.nil (show ¬ (false=true∧0=0) by simp)];unfold cI;rw [if_neg k0,if_neg k1,if_neg k3,a4f I]);have HKI:=a4b hki;clear k0 k1 k3 k2 hki;go_enter Tryz.func181,Tryz.ntmps181;go_wp2_with fail;refine (zF t _ g f i hO x.kids _ w HKI.out HOK.out.kids I HGI.out HS.out).mono ?_;rintro e w1 ⟨A,c,rfl,hv,hf,hs1⟩;go_wp2_with fail;go_ret2;rw [HR.out];exact ⟨A,c,rfl,hv,hf,hs1⟩
 have t2:(x.kind == 2)=false:=a4c k2;have t3:(x.kind == 3)=false:=a4c k3;have k4:x.kind=4:=by omega
 have hbd:=HOK.out.bind k4;have hv1:=HFEW.out.2.2 k4;have HKD:=a4b HOK.out.kids
 have HR:=a4b (show cI (aF t) x=aBh (aF t) [] x.kids.tail by
  have e:cI (aF t) x=jH (aF t) true 0 [] false x.kids:=by unfold cI;rw [if_neg k0,if_neg k1,if_neg k3,a4e k4]
  rw [e];have hl:=HLOK.out;cases hk:x.kids with
  | nil=>rw [hk] at hbd;simp at hbd
  | cons z zs =>
   rw [hk] at hl;rw [jH,if_pos ⟨rfl,rfl⟩];exact qZ zs 1 [] (fun y hy=>hl y db) Inc.nil I)
 obtain ⟨bk,ok,rfl,-,-,-⟩:=hki.get (i:=0) I
 have HKT:=a4b (show Ints w g.Q (.slice (qt bk (ok+1)) (x.kids.length - 1) (kc - 1)) x.kids.tail from by
  cases hk:x.kids with
  | nil=>rw [hk] at hbd;simp at hbd
  | cons z zs=>rw [hk] at hki;exact Ints.tail hki)
 have hkc1:¬ kc=1:=I;have hkl1:1<=x.kids.length:=I;clear k0 k1 k3 k2 k4 hki hbd hv1;go_enter Tryz.func181,Tryz.ntmps181;go_wp2_with fail;refine (zF t _ g f i hO x.kids.tail _ w HKT.out (fun z hz=>HKD.out z (List.mem_of_mem_tail hz)) I HGI.out HS.out).mono ?_;rintro e w1 ⟨A,c,rfl,hv,hf,hs1⟩;go_wp2_with fail;go_ret2;rw [HR.out];exact ⟨A,c,rfl,hv,hf,hs1⟩
theorem aDy (t vn):∀ f,yP t vn f
 | 0=>by intro g i w hf;omega
 | f+1=>aH7 t vn f (aHf t vn f (aDy t vn f))
theorem aUi (t vn g i w)(hg:bD t (i+1))(hs:bM t vn g w) :
  qg 137 #[qp g.s,↑i] w (fY t vn g ((aF t).getD i default) w):=aHf t vn (i+1) (aDy t vn (i+1)) g i w I hg hs
theorem Tryz.info4:(Tryz.prog.info? 4).map (fun i=>(i.zero,i.size,i.bytes))=some (some ↑false,1,1):=U
theorem fL (w:World)(o:Obj):(w.alloc o).heap.size=w+1:=O
theorem vO (w:World)(a o2 o3 o4:Obj)(cs t):Blk (((((w.alloc a).alloc (qk cs t)).alloc o2).alloc o3).alloc o4).drew (w+1) t cs :=
 ((((az (w.alloc a) t cs (fL w a).symm).alloc _).alloc _).alloc _).drew
theorem vN (w:World)(a o2 o3 o4:Obj)(cs t):Blk (((((w.alloc a).alloc o2).alloc (qk cs t)).alloc o3).alloc o4).drew (w.heap.size+1+1) t cs :=
 (((az ((w.alloc a).alloc o2) t cs (by rw [fL,fL])).alloc _).alloc _).drew
theorem vM (w:World)(a o2 o3 o4:Obj)(cs t):Blk (((((w.alloc a).alloc o2).alloc o3).alloc (qk cs t)).alloc o4).drew (w.heap.size+1+1+1) t cs :=
 ((az (((w.alloc a).alloc o2).alloc o3) t cs (by rw [fL,fL,fL])).alloc _).drew
theorem vL (w:World)(a o2 o3 o4:Obj)(cs t):Blk (((((w.alloc a).alloc o2).alloc o3).alloc o4).alloc (qk cs t)).drew (w.heap.size+1+1+1+1) t cs :=
 (az ((((w.alloc a).alloc o2).alloc o3).alloc o4) t cs (by rw [fL,fL,fL,fL])).drew
def aJd (t:List GN)(vn:Value)(X:Nat->Prop)(w:World)(e:Ending)(w':World):Prop :=
 ∃ g:SA,e=.returned (qp g.s)∧g.X=X∧bM t vn g w'∧Ext w w'∧w<=g.s∧w<=g.k∧w<=g.l∧w<=g.m
theorem gD {t vn}{P X:Nat->Prop}{w w'}{gs gk gl gm:Nat}(hx:Ext w w')(ht:Nds w P vn t)(hPX:∀ b,P b->¬ X b)(hX:∀ b,X b->b<w)(h1:w<=gs)(h2:w<=gk)(h3:w<=gl)(h4:w<=gm)
  (n1:gs ≠ gk)(n2:gs ≠ gl)(n3:gs ≠ gm)(n4:gk ≠ gl)(n5:gk ≠ gm)(n6:gl ≠ gm)
  (hs:Blk w' gs 198 #[vn,.slice (qp gk) t t,.slice (qp gl) t t,.slice (qp gm) t t])
  (hk:Blk w' gk 4 (madeCells #[false] t))(hl:Blk w' gl 83 (madeCells #[qn] t))(hm:Blk w' gm 4 (madeCells #[false] t)) :
  aJd t vn X w (.returned (qp gs)) w':=by
 rw [fZ] at hk hl hm;have hQ:∀ b,b<w.heap.size->P b->(SA.mk gs gk gl gm X).Q b:=fun b hb hp=>⟨fun h=>by rcases h with h | h | h <;> (simp only at h;omega),hPX b hp⟩
 refine ⟨⟨gs,gk,gl,gm,X⟩,rfl,rfl,⟨List.replicate t false,List.replicate t qn,List.replicate t false,n1,n2,n3,n4,n5,n6,O,O,O,hs,by rw [List.map_replicate];exact hk,hl,by rw [List.map_replicate];exact hm,fun b hb=>by have:=hX b hb;have:=hx.size;omega,ht.carry (aB.of_ext hx) hQ,?_,?_⟩,hx,h1,h2,h3,h4⟩
 ·intro v hv
  rw [List.eq_of_mem_replicate hv];exact ⟨_,_,_,rfl⟩
 ·intro j hj h
  simp [List.getD,hj] at h
theorem rU (t)(P X:Nat->Prop)(vn w)(ht:Nds w P vn t)(hPX:∀ b,P b->¬ X b)(hX:∀ b,X b->b<w)(hlen:t.length<=100000) :
  qg 87 #[.agg #[vn]] w (aJd t vn X w):=by
 have HT:=a4b ht;have HPX:=a4b hPX;have HX:=a4b hX;obtain ⟨An,cn,en,hn1,hn2⟩:=ht.form;subst en;obtain ⟨i4,hi4,hz40,hz41,hz42⟩:=info_parts Tryz.info4;obtain ⟨i1,hi',hz0',hz1',hz2'⟩:=info_parts Tryz.info83
 have hmk1:∀ W:World,(Instr.makeSlice 196 (↑(t:Int)) (↑(t:Int))).run Tryz.prog W=.ok (.slice (qp W) t t) (W.alloc (qk (madeCells #[qn] t) 83)):=by
  intro W;have h:=run_make (P:=Tryz.prog) W 196 83 i1 _ Tryz.underlying196 hi' hz0' .i64 .i64 (t:Int) (t:Int) I (Int.le_refl _) (by rw [hz2'];omega) I;rw [hz1',Nat.mul_one] at h;rw [h];rfl
 have hmk2:∀ W:World,(Instr.makeSlice 195 (↑(t:Int)) (↑(t:Int))).run Tryz.prog W=.ok (.slice (qp W) t t) (W.alloc (qk (madeCells #[false] t) 4)):=by
  intro W;have h:=run_make (P:=Tryz.prog) W 195 4 i4 _ Tryz.underlying195 hi4 hz40 .i64 .i64 (t:Int) (t:Int) I (Int.le_refl _) (by rw [hz42];omega) I;rw [hz41,Nat.mul_one] at h;rw [h];rfl
 clear ht hPX hX hi4 hi' hz40 hz41 hz42 hz0' hz1' hz2' i4 i1;go_enter Tryz.func87,Tryz.ntmps87;go_wp2_with fail;go_region;all_goals (go_wp2_with fail)
 all_goals (go_ret)
 all_goals (show aJd _ _ _ _ (.returned (qp (w.heap.size+1+1+1+1))) _)
 all_goals first
  | exact gD (gs:=w.heap.size+1+1+1+1) (gk:=w.heap.size+1) (gl:=w.heap.size+1+1) (gm:=w.heap.size+1+1+1) (((((((aq w).alloc' _).alloc' _).alloc' _).alloc' _).alloc' _).drew') HT.out HPX.out HX.out I I I I I I I I I I (vL w _ _ _ _ _ _) (vO w _ _ _ _ _ _) (vN w _ _ _ _ _ _) (vM w _ _ _ _ _ _)
  | exact gD (gs:=w.heap.size+1+1+1+1) (gk:=w.heap.size+1) (gl:=w.heap.size+1+1+1) (gm:=w.heap.size+1+1) (((((((aq w).alloc' _).alloc' _).alloc' _).alloc' _).alloc' _).drew') HT.out HPX.out HX.out I I I I I I I I I I (vL w _ _ _ _ _ _) (vO w _ _ _ _ _ _) (vM w _ _ _ _ _ _) (vN w _ _ _ _ _ _)
  | exact gD (gs:=w.heap.size+1+1+1+1) (gk:=w.heap.size+1+1) (gl:=w.heap.size+1) (gm:=w.heap.size+1+1+1) (((((((aq w).alloc' _).alloc' _).alloc' _).alloc' _).alloc' _).drew') HT.out HPX.out HX.out I I I I I I I I I I (vL w _ _ _ _ _ _) (vN w _ _ _ _ _ _) (vO w _ _ _ _ _ _) (vM w _ _ _ _ _ _)
  | exact gD (gs:=w.heap.size+1+1+1+1) (gk:=w.heap.size+1+1) (gl:=w.heap.size+1+1+1) (gm:=w.heap.size+1) (((((((aq w).alloc' _).alloc' _).alloc' _).alloc' _).alloc' _).drew') HT.out HPX.out HX.out I I I I I I I I I I (vL w _ _ _ _ _ _) (vN w _ _ _ _ _ _) (vM w _ _ _ _ _ _) (vO w _ _ _ _ _ _)
  | exact gD (gs:=w.heap.size+1+1+1+1) (gk:=w.heap.size+1+1+1) (gl:=w.heap.size+1) (gm:=w.heap.size+1+1) (((((((aq w).alloc' _).alloc' _).alloc' _).alloc' _).alloc' _).drew') HT.out HPX.out HX.out I I I I I I I I I I (vL w _ _ _ _ _ _) (vM w _ _ _ _ _ _) (vO w _ _ _ _ _ _) (vN w _ _ _ _ _ _)
  | exact gD (gs:=w.heap.size+1+1+1+1) (gk:=w.heap.size+1+1+1) (gl:=w.heap.size+1+1) (gm:=w.heap.size+1) (((((((aq w).alloc' _).alloc' _).alloc' _).alloc' _).alloc' _).drew') HT.out HPX.out HX.out I I I I I I I I I I (vL w _ _ _ _ _ _) (vM w _ _ _ _ _ _) (vN w _ _ _ _ _ _) (vO w _ _ _ _ _ _)
def mW:List GV->Int
 | []=>0
 | v :: vs=>if eQ v=0 then mW vs else eQ v
def gQ (x:GN):Int:=if x.kind=0 then eQ x.value else mW x.values
def aI8 (l:List GV)(W:World)(k:Value)(wr:World):Prop:=∃ j:Nat,j<=l.length∧k=↑j∧Ext W wr∧mW l=mW (l.drop j)
theorem vY (x a b o)(P:Nat->Prop)(w:World)(hP:∀ b,P b->b<w)(hn:bQ w b o x a)(hx:NAt w P x a) :
  qg 90 #[qt b o] w (dI (.int .i64 (gQ x)) w):=by
 have HX:=a4b hx;have HP:=a4b hP;have HS:=a4b (show gQ x=if x.kind=0 then eQ x.value else mW x.values from rfl);have c0:=hn.c0;have c6:=hn.c6;have c8:=hn.c8;have c9:=hn.c9;have c10:=hn.c10;have c11:=hn.c11;obtain ⟨hvl1,hvl2⟩:=hx.values.le;clear hx hn hP;by_cases hk:x.kind=0
 ·have t0:(x.kind == 0)=true:=a4d hk
  have HK:=a4b hk;clear hk;go_enter Tryz.func90,Tryz.ntmps90;go_wp2_with fail;refine (gJ x.value a.xA a.xc P w HP.out HX.out.value).mono ?_;rintro e w1 ⟨rfl,hx1⟩;have HX1:=a4b hx1;clear hx1;go_wp2_with fail;go_ret;exact ⟨aI (by rw [HS.out,if_pos HK.out]),HX1.out⟩
 ·have t0:(x.kind == 0)=false:=a4c hk
  have HN:=a4b (HS.out.trans (if_neg hk));have HVL:=a4b HX.out.values;clear hk HX HS c8 c9 c10 c11;generalize a.vA=Av at *;generalize a.vc=cv at *;go_enter Tryz.func90,Tryz.ntmps90;go_wp2_with fail;go_loopw [21] (fun k wr=>aI8 x.values w k wr) (fun k _=>x.values.length - (intOf k).toNat)
  case atStart=>exact ⟨0,af _,rfl,aq _,rfl⟩
  case round =>
   obtain ⟨j,hj,rfl,hxr,ht⟩:=hrel;have HT:=a4b ht;have HXR:=a4b hxr;clear ht hxr;by_cases hlt:j<x.values
   ·obtain ⟨b1,o1,A1,d1,rfl,-,hv1,g10,g11,g12,g13⟩:=(HVL.out.ext HXR.out).get hlt
    have HD:=a4b (show mW x.values=if eQ (x.values.getD j default)=0 then mW (x.values.drop (j+1)) else eQ (x.values.getD j default) by
     rw [HT.out,aH default hlt];rfl)
    have HV1:=a4b hv1;clear hv1;generalize x.values.getD j default=y at *;go_wp2_with fail;refine (gJ y A1 d1 P _ (fun b hb=>by have h1:=HP.out b hb;have h2:=HXR.out.size;simp;omega) (HV1.out.ext ((aq _).alloc' _))).mono ?_;rintro e w4 ⟨rfl,hx4⟩;have HX4:=a4b ((HXR.out.alloc' _).trans' hx4);clear hx4;by_cases hz:eQ y=0
    ·have HZ:=a4b hz
     have tz:(eQ y != 0)=false:=er;clear hz;go_wp2_with fail;go_roundw
     case rel=>exact ⟨j+1,I,by go_num,HX4.out,i6⟩
     case measure=>simp [intOf];omega
    ·have tz:(eQ y != 0)=true:=bne_iff_ne.2 hz
     have HN2:=a4b (show gQ x=eQ y by rw [HN.out,HD.out,if_neg hz]);clear hz;go_wp2_with fail;go_ret;exact ⟨aI HN2.out.symm,HX4.out⟩
   ·have HN2:=a4b (show gQ x=0 by rw [HN.out,HT.out,drop_nil I];rfl)
    go_wp2_with fail;go_ret;exact ⟨aI HN2.out.symm,HXR.out⟩
theorem aJ3 {h l}(h1:l<=h)(h2:-4611686018427387904<=l)(h3:h<=4611686018427387904):IntKind.u64.wrap (IntKind.u64.wrap h - IntKind.u64.wrap l)=h - l:=by
 simp only [IntKind.wrap,IntKind.bits,IntKind.signed];simp only [Bool.false_and,Bool.false_eq_true,if_false];omega
def aVy (x:GN)(W:World)(i:Value)(wr:World):Prop:=∃ k:Nat,k<=x.weights.length∧i=↑k∧W=wr∧bG x=(x.weights.drop k).all fM
theorem aCh (x a b o P w)(hn:bQ w b o x a)(hx:NAt w P x a) :
  qg 91 #[qt b o] w (dI (bG x) w):=by
 have HX:=a4b hx;have HU:=a4b (show bG x=(!yR x && x.weights.all fM) from rfl);obtain ⟨hl,hc⟩:=hx.weights.le;have hi1:=hx.lo;have hi2:=hx.hi;have HN:=a4b hn;have c2:=hn.c2;have c3:=hn.c3;unfold I64 at hi1 hi2;clear hx hn;go_enter Tryz.func91,Tryz.ntmps91;go_upto_region 1 with fail;go_cut [41] (fun s wx=>s=.bool (yR x)∧Ext w wx)
 case first =>
  by_cases ha1:x.hi<x.lo
  ·have t0a1:decide (x.hi<x.lo)=true:=a4e ha1
   go_quiet (fail);go_wp2_with fail;go_meet;exact ⟨congrArg Value.bool ft,Ext.drewN _ _⟩
  ·have t0a1:decide (x.hi<x.lo)=false:=a4f ha1
   by_cases ha2:x.lo < -4611686018427387904
   ·have t0a2:decide (x.lo < -4611686018427387904)=true:=a4e ha2
    go_quiet (fail);go_wp2_with fail;go_meet;exact ⟨congrArg Value.bool dj,Ext.drewN _ _⟩
   ·have t0a2:decide (x.lo < -4611686018427387904)=false:=a4f ha2
    by_cases ha3:4611686018427387904<x.hi
    ·have t0a3:decide (4611686018427387904<x.hi)=true:=a4e ha3
     go_quiet (fail);go_wp2_with fail;go_meet;exact ⟨congrArg Value.bool cu,Ext.drewN _ _⟩
    ·have t0a3:decide (4611686018427387904<x.hi)=false:=a4f ha3
     go_quiet (fail);go_wp2_with fail;go_meet;rw [aJ3 I I I];refine ⟨congrArg Value.bool ?_,Ext.drewN _ _⟩;unfold yR;rw [(show decide (x.hi<x.lo)=false from a4f I),(show decide (x.lo < -4611686018427387904)=false from a4f I),(show decide (4611686018427387904<x.hi)=false from a4f I)];simp only [Bool.false_or];exact decide_eq_decide.2 I
 case rest =>
  obtain ⟨rfl,he⟩:=hcut;have HE:=a4b he;have hb4:=(HN.out.ext he).c4;have HW:=a4b (HX.out.weights.ext he);clear he c2 c3;generalize a.wA=Aw at *;generalize a.wc=cw at *;generalize yR x=bn at *;cases bn
  ·have HU2:=a4b (show bG x=(x.weights.drop 0).all fM by rw [HU.out];rfl)
   go_wp2_with fail;go_loopw [47] (fun i wr=>aVy x wc i wr) (fun i _=>x.weights.length - (intOf i).toNat)
   case atStart=>exact ⟨0,af _,rfl,rfl,HU2.out⟩
   case round =>
    obtain ⟨k,hk,rfl,rfl,ht⟩:=hrel;have HT:=a4b ht;clear ht;by_cases hlt:k<x.weights
    ·obtain ⟨b1,o1,rfl,-,hv,g1⟩:=HW.out.get hlt
     have HD:=a4b (show bG x=(fM (x.weights.getD k 0) && (x.weights.drop (k+1)).all fM) by rw [HT.out,aH 0 hlt];rfl);generalize x.weights.getD k 0=z at *;clear hv;by_cases hz1:z<1
     ·have HN:=a4b (show fM z=false from a4f I)
      have tz1:decide (z<1)=true:=a4e hz1;go_wp2_with fail;go_ret;exact ⟨aC fs,HE.out⟩
     ·have tz1:decide (z<1)=false:=a4f hz1
      by_cases hz2:1000<z
      ·have HN:=a4b (show fM z=false from a4f I)
       go_wp2_with fail;go_ret;exact ⟨aC fs,HE.out⟩
      ·have tz2:decide (1000<z)=false:=a4f hz2
       have HN:=a4b (show fM z=true from a4e I);go_wp2_with fail;go_roundw
       case rel=>exact ⟨k+1,I,by go_num,rfl,fs⟩
       case measure=>simp [intOf];omega
    ·go_wp2_with fail
     go_ret;exact ⟨aC (by rw [HT.out,drop_nil I];rfl),HE.out⟩
  ·go_wp2_with fail
   go_ret;exact ⟨aC jk,HE.out⟩
theorem aJy (a b c):wrap64 (wrap64 (a+b)+c)=wrap64 (a+wrap64 (b+c)):=by unfold wrap64;omega
theorem qC (a):I64 (wrap64 a):=by unfold wrap64 I64;omega
theorem oF {a}(h:I64 a):wrap64 a=a:=by unfold I64 at h;unfold wrap64;omega
theorem oL:∀ l n m,aBi (wrap64 (n+m)) l=wrap64 (n+aBi m l)
 | [],n,m=>by rw [fJ,fJ]
 | x :: xs,n,m=>by rw [gN,gN,aJy,oL xs n (wrap64 (m+rsz x))]
mutual
theorem aZ1:∀ x n,vis aJq n x=(wrap64 (n+rsz x),true)
 | .mk k n s l,m=>by
  rw [aC4,pI];simp only [aJq,if_true,GV.kids];rw [aRs l (wrap64 (m+1)),oL]
theorem aRs:∀ l n,uE aJq n l=(aBi n l,true)
 | [],n=>by rw [qD,fJ]
 | x :: xs,n=>by rw [mG,aZ1 x n];simp only [if_true];rw [aRs xs _,gN]
end
theorem aOc (x):(vis aJq 0 x).1=rsz x:=by rw [aZ1];show wrap64 (0+rsz x)=_;rw [Int.zero_add,oF (wK x)]
mutual
theorem aZ0:∀ x n m,(vis zM (n,true,m) x).2=dQ aE x∧(vis zM (n,true,m) x).1.2.1=dQ aE x∧(dQ aE x=true->(vis zM (n,true,m) x).1=(wrap64 (n+rsz x),true,m && dQ sM x))
 | .mk k n s l,a,m=>by
  rw [aC4,bV,bV,pI];simp only [zM,Bool.true_and,GV.kids];cases hf:aE (.mk k n s l)
  ·simp
  ·simp only [if_true,Bool.true_and]
   have h:=aRr l (wrap64 (a+1)) (m && sM (.mk k n s l));refine ⟨h.1,h.2.1,fun ha=>?_⟩;rw [h.2.2 ha,oL,Bool.and_assoc]
theorem aRr:∀ l n m,(uE zM (n,true,m) l).2=eI aE l∧(uE zM (n,true,m) l).1.2.1=eI aE l∧(eI aE l=true->(uE zM (n,true,m) l).1=(aBi n l,true,m && eI sM l))
 | [],n,m=>by simp [qD,dU,fJ]
 | x :: xs,n,m=>by
  have h:=aZ0 x n m;rw [mG,dN,dN,gN];cases ha:dQ aE x
  ·rw [ha] at h;simp [h.1,h.2.1]
  ·rw [ha] at h
   have h3:=h.2.2 rfl;rw [h.1,if_pos rfl,h3];have k:=aRr xs (wrap64 (n+rsz x)) (m && dQ sM x);simp only [Bool.true_and];refine ⟨k.1,k.2.1,fun hb=>?_⟩;rw [k.2.2 hb,Bool.and_assoc]
end
theorem aH6 {x}(h:aE x=true):sM x=bY x:=by
 unfold aE at h;unfold sM bY;rw [Bool.eq_iff_iff];by_cases h0:x.kind=0
 ·rw [if_pos h0] at h;simp at h;simp [h0,h.2]
 ·rw [if_neg h0] at h
  by_cases h1:x.kind=1
  ·rw [if_pos h1] at h;simp at h;simp [h1,h.2]
  ·rw [if_neg h1] at h
   by_cases h2:x.kind=2
   ·simp [h2]
   ·rw [if_neg h2] at h
    by_cases h3:x.kind=3
    ·simp [h3];omega
    ·rw [if_neg h3] at h;cases h
mutual
theorem aA8:∀ x,dQ aE x=true->dQ sM x=dQ bY x
 | .mk k n s l,h=>by
  rw [bV] at h ⊢;rw [bV];simp only [Bool.and_eq_true] at h;rw [aH6 h.1];exact congrArg _ (vP l h.2)
theorem vP:∀ l,eI aE l=true->eI sM l=eI bY l
 | [],_=>by rw [dU,dU]
 | x :: xs,h=>by
  rw [dN] at h ⊢;rw [dN];simp only [Bool.and_eq_true] at h;rw [aA8 x h.1,vP xs h.2]
end
theorem qY (x):eQ x=dO x:=by
 have h:=aZ0 x 0 true;unfold eQ dO;rw [h.2.1];cases ha:dQ aE x
 ·rfl
 ·rw [ha] at h
  rw [h.2.2 rfl,aA8 x ha,Int.zero_add,oF (wK x),Bool.true_and]
theorem aAs:∀ l,mW l=cG l
 | []=>rfl
 | x :: xs=>by simp only [mW,cG];rw [qY,aAs xs]
theorem kB:ByteArray.empty.toList=[]:=by rw [ByteArray.toList_eq];rfl
theorem pG {s}(h:s.toList=[]):s=ByteArray.empty:=aA4 (by rw [h,kB])
def cM (x:GN):Bool:=decide (0<=x.kind) && decide (x.kind<=4) && (decide (x.kind=0) || decide (cJ x.value cO=0)) && (decide (x.kind=1) || (decide (x.lo=0) && decide (x.hi=0))) &&
 (decide (x.kind=2) || (decide (x.weights.length=0) && decide (x.labels.length=0))) && (decide (x.kind=3) || aU x.name) && (decide (x.kind=4) || decide (x.values.length=0)) &&
 ((!decide (x.kind=0) && !decide (x.kind=1)) || decide (x.kids.length=0))
def rH (x:GN):Bool :=
 if x.kind=2 then decide (1<=x.kids.length) && decide (x.kids.length<=256) && decide (x.weights.length=x.kids) && (decide (x.labels.length=0) || decide (x.labels.length=x.kids))
 else if x.kind=3 then (if aU x.name then decide (x.kids.length<=256) else decide (x.kids.length<=16) && decide (eQ (.mk 3 0 x.name [])=0))
 else if x.kind=4 then sF x.values && decide (x.kids.length=x.values+1)
 else true
def dD (i:Int)(x:GN):Bool:=x.kids.all (fun z=>!fmK i z) && rH x
theorem aJx (v):oE v=decide (cJ v cO=0):=by
 rw [Bool.eq_iff_iff,decide_eq_true_iff];constructor
 ·intro h
  obtain ⟨k,n,s,l⟩:=v;have h':(decide (k=0) && decide (n=0) && aU s && !decide (0<l.length))=true:=h;simp only [Bool.and_eq_true,decide_eq_true_eq,Bool.not_eq_true',decide_eq_false_iff_not,aU,List.isEmpty_iff] at h';obtain ⟨⟨⟨rfl,rfl⟩,hs⟩,hl⟩:=h';rw [pG hs,List.eq_nil_of_length_eq_zero (Nat.eq_zero_of_not_pos hl)];exact tB _
 ·intro h
  rw [fR _ _ h];have h':(decide ((0:Int)=0) && decide ((0:Int)=0) && aU ByteArray.empty && !decide (0<([]:List GV).length))=true:=by rw [hU kB];rfl
  exact h'
theorem aQ0 (s):decide (eQ (.mk 3 0 s [])=0)=qR s:=by
 rw [qY];unfold dO;rw [bV,bV,pI];simp only [GV.kids,dU,fJ,Bool.and_true];have h1:aE (.mk 3 0 s [])=qR s:=by simp [aE,GV.kind,GV.n,GV.s]
 have h2:bY (.mk 3 0 s [])=true:=by simp [bY,GV.kind,GV.kids]
 rw [h1,h2];cases qR s <;> simp
theorem aH0 (i x):(cM x && dD i x)=eH i x:=by
 unfold cM dD eH fmA fV unA unB unC fmC fmS rH;rw [aJx,aQ0];have hb:x.values.length=0->sF x.values=true:=fun h=>oO I
 generalize x.kids.all (fun z=>!fmK i z)=bk;generalize decide (cJ x.value cO=0)=bz;generalize aU x.name=be;generalize qR x.name=bc;generalize sF x.values=bi at *;generalize x.weights.length=nw at *;generalize x.labels.length=nl at *;generalize x.values.length=nv at *;generalize x.kids.length=nk at *;generalize x.lo=lo at *;generalize x.hi=hi at *;generalize x.kind=k at *;by_cases h4:k=4
 ·subst h4;clear hb;cases bk <;> cases bz <;> cases be <;> cases bc <;> cases bi <;> simp <;> (rw [Bool.eq_iff_iff];simp;try omega)
 by_cases h0:k=0
 ·subst h0;by_cases hv:nv=0
  ·have:=hb hv;subst this hv;cases bk <;> cases bz <;> cases be <;> cases bc <;> simp <;> (rw [Bool.eq_iff_iff];simp;try omega)
  ·cases bk <;> cases bz <;> cases be <;> cases bc <;> cases bi <;> simp [hv,show 0<nv by omega]
 by_cases h1:k=1
 ·subst h1;by_cases hv:nv=0
  ·have:=hb hv;subst this hv;cases bk <;> cases bz <;> cases be <;> cases bc <;> simp <;> (rw [Bool.eq_iff_iff];simp;try omega)
  ·cases bk <;> cases bz <;> cases be <;> cases bc <;> cases bi <;> simp [hv,show 0<nv by omega]
 by_cases h2:k=2
 ·subst h2;by_cases hv:nv=0
  ·have:=hb hv;subst this hv;cases bk <;> cases bz <;> cases be <;> cases bc <;> simp <;> (rw [Bool.eq_iff_iff];simp;try omega)
  ·cases bk <;> cases bz <;> cases be <;> cases bc <;> cases bi <;> simp [hv,show 0<nv by omega]
 by_cases h3:k=3
 ·subst h3;by_cases hv:nv=0
  ·have:=hb hv;subst this hv;cases bk <;> cases bz <;> cases be <;> cases bc <;> simp <;> (rw [Bool.eq_iff_iff];simp;try omega)
  ·cases bk <;> cases bz <;> cases be <;> cases bc <;> cases bi <;> simp [hv,show 0<nv by omega]
 ·have hk:(decide (0<=k) && decide (k<=4))=false:=by
   rw [Bool.and_eq_false_iff];simp;omega
  have hk2:(decide (k<0) || decide (4<k))=true:=bh;rw [hk];simp only [Bool.false_and];rw [Bool.or_assoc,hk2];simp
theorem aAo {i x}(h:eH i x=true)(hk:x.kind=0):x.values=[]:=by
 rw [<- aH0] at h;unfold cM at h;simp [hk] at h;exact h.1.1.2
theorem aK7 {i x}(h:eH i x=true):gQ x=cG (bK x):=by
 unfold gQ bK;by_cases hk:x.kind=0
 ·rw [if_pos hk,if_pos hk,aAo h hk,qY]
  simp only [cG];split
  ·next h0=>exact h0
  ·rfl
 ·rw [if_neg hk,if_neg hk,aAs]
theorem uO (i x):iE i x=if (cM x && dD i x)=false then 1 else if gQ x=0 then (if bG x then 0 else 5) else gQ x:=by
 unfold iE;rw [aH0];cases h:eH i x
 ·rfl
 ·rw [aK7 h]
def pZ (t:List GN):Prop:=∀ x ∈ t,gsz x.value<=1000000000
mutual
theorem wJ:∀ x,gsz x<=1000000000->rsz x=gsz x
 | .mk k n s l,h=>by
  simp only [gsz] at h ⊢;rw [pI];simp only [GV.kids];rw [aDb l 1 I I];omega
theorem aDb:∀ l (n:Int),1<=n->n+iQ l<=1000000001->aBi n l=n+iQ l
 | [],n,_,_=>by rw [fJ];simp [iQ]
 | x :: xs,n,h0,h=>by
  simp only [iQ] at h ⊢;rw [gN,wJ x I,oF br,aDb xs _ I I];omega
end
theorem aQc (x):1<=gsz x:=by obtain ⟨k,n,s,l⟩:=x;simp only [gsz];omega
theorem aAi {before}:∀ {zs}{s:Int},(∀ z ∈ zs,1<=before.getD z.toNat 0∧before.getD z.toNat 0<=1024)->0<=s->s+1024*zs.length<=1000000000->s<=dG before s zs
 | [],s,_,_,_=>by simp [dG]
 | z :: zs,s,h,h0,hs=>by
  have hz:=h z O;simp only [ai] at hs;simp only [dG];rw [oF br];have:=aAi (before:=before) (zs:=zs) (s:=s+before.getD z.toNat 0) (fun y hy=>h y db) I I;omega
def fW (before:List Int)(x:GN):Int :=
 if x.kind=0 then rsz x.value else if x.kind=3 then dG before 1 x.kids else if x.kind=2 then aT before true 0 1 x.kids else if x.kind=4 then aT before false 0 1 x.kids else 1
theorem mS {before ch}:∀ zs i m n,m<=n->(n<=aT before ch i m zs->aT before ch i n zs=aT before ch i m zs)∧(aT before ch i m zs<n->aT before ch i n zs=n)
 | [],i,m,n,h=>by simp only [aT];exact ⟨fun hh=>by omega,fun _=>trivial⟩
 | z :: zs,i,m,n,h=>by
  simp only [aT];generalize before.getD z.toNat 0=y;by_cases hc:ch=true∨0<i
  ·simp only [if_pos hc]
   by_cases h1:n<y
   ·rw [if_pos h1,if_pos (by omega:m<y)]
    have hy:=(eV (before:=before) (ch:=ch) zs (i+1) y).1;exact ⟨fun _=>rfl,fun hh=>by omega⟩
   ·rw [if_neg h1]
    exact mS zs (i+1) _ n (by split <;> omega)
  ·simp only [if_neg hc]
   exact mS zs (i+1) m n h
theorem jS {t:List GN}{j:Nat}(hj:j<t){z}(hz:0<=z∧z<(j:Int)):(bH (t.take j)).getD z.toNat 0=(bH t).getD z.toNat 0:=by
 unfold bH;rw [gX jK t j I];have:z.toNat<j:=by omega
 simp [List.getD,this]
theorem mK {t:List GN}{j:Nat}(hj:j<t):(bH t).getD j 0=jK (bH (t.take j)) (t.getD j default):=qS jK 0 t hj
theorem rG {before j x}(hn:dV j x)(hb:∀ z:Int,0<=z->z<j->1<=before.getD z.toNat 0) :
  fW before x=jK before x∨(x.kind=4∧x.values=[]∧fW before x=1∧jK before x=0):=by
 unfold fW jK;by_cases h0:x.kind=0
 ·left;simp [h0]
 ·by_cases h1:x.kind=1
  ·left;simp [h1]
  ·by_cases h3:x.kind=3
   ·left;simp [h3]
   ·by_cases h2:x.kind=2
    ·left
     simp only [h2];have hc:=hn.choice h2;have hk:=hn.kids _ (aD (d:=0) (show 0<x.kids.length by omega));have hg:=(eV (before:=before) (ch:=true) x.kids 0 0).2 0 I (.inl rfl);have h5:=hb _ hk.1 hk.2;have:=(mS (before:=before) (ch:=true) x.kids 0 0 1 I).1 I
     simpa using this
    ·have hk4:x.kind=4:=by have:=hn.kind;omega
     simp only [hk4];have hl:=hn.bind hk4;by_cases hv:x.values=[]
     ·right
      rw [hv] at hl;simp only [List.length_nil] at hl;obtain ⟨z,hz⟩:∃ z,x.kids=[z]:=List.length_eq_one_iff.1 hl;rw [hz];simp [aT,hv]
     ·left
      have hvl:0<x.values.length:=List.length_pos_iff.2 hv;have hk:=hn.kids _ (aD (d:=0) (show 1<x.kids.length by omega));have hg:=(eV (before:=before) (ch:=false) x.kids 0 0).2 1 I (.inr I);have h5:=hb _ hk.1 hk.2;have:=(mS (before:=before) (ch:=false) x.kids 0 0 1 I).1 I
      simpa using this
theorem wB {t i}(h:bD t i)(hs:pZ t):∀ j,j<i->1<=(bH t).getD j 0∧(bH t).getD j 0<=1024:=by
 intro j
 induction j using Nat.strongRecOn with
 | ind j ih =>
  intro hj;have hc:=h.at_ hj;have hlt:j<t:=by have:=h.1;omega
  refine ⟨?_,hc.size⟩;have hn:=hc.node
  have hk:∀ z:Int,0<=z->z<(j:Int)->1<=(bH (t.take j)).getD z.toNat 0∧(bH (t.take j)).getD z.toNat 0<=1024:=fun z h1 h2=>by
   rw [jS hlt ⟨h1,h2⟩];exact ih z.toNat I I
  have hf:=eX h hj;have hv:=hs _ (aD (d:=default) hlt);rw [mK hlt];generalize t.getD j default=x at *;have hp:=rG hn (fun z h1 h2=>(hk z h1 h2).1);have hne:x.kind=4->x.values ≠ []:=fun h4 hv=>by have:=hf.2.2 h4;rw [hv] at this;simp at this
  have hz:∀ z ∈ x.kids,1<=(bH (t.take j)).getD z.toNat 0∧(bH (t.take j)).getD z.toNat 0<=1024:=fun z hz=>hk z (hn.kids z hz).1 (hn.kids z hz).2
  generalize bH (t.take j)=before at *;rcases hp with hp | ⟨h4,hv,_⟩
  ·rw [<- hp]
   unfold fW;split
   ·rw [wJ _ I];have:=aQc x.value;omega
   ·split
    ·exact aAi hz I I
    ·split
     ·exact (eV x.kids 0 1).1
     ·split
      ·exact (eV x.kids 0 1).1
      ·exact Int.le_refl _
  ·exact absurd hv (hne h4)
theorem xV (x y A B c d P Q w)(hx:VAt w P x A c)(hy:VAt w Q y B d) :
  qg 139 #[dA x A c,dA y B d] w (dI (decide (cJ x y=0)) w):=by
 have HX:=a4b hx;have HY:=a4b hy;clear hx hy;go_enter Tryz.func139,Tryz.ntmps139;go_wp2_with fail;refine (bJ x y A B c d P Q _ (HX.out.ext (((aq _).alloc' _).alloc' _)) (HY.out.ext (((aq _).alloc' _).alloc' _))).mono ?_;rintro e w1 ⟨rfl,hx1⟩;have HX1:=a4b ((((aq w).alloc' _).alloc' _).trans' hx1);clear hx1;generalize cJ x y=z at *;go_wp2_with fail
 all_goals
  go_ret;exact ⟨aC (by rw [Bool.eq_iff_iff];simp_all),HX1.out⟩
theorem xU (a b P Q va vb w)(ha:bT w P va a)(hb:bT w Q vb b) :
  qg 138 #[va,vb,.func (.func 139) #[] #[]] w (dI (eB a b) w):=by
 have HA:=a4b ha;have HB:=a4b hb;have HS:=a4b (show eB a b=(decide (a.length=b) && (a.zip b).all (fun p=>decide (cJ p.1 p.2=0))) from rfl);obtain ⟨A,c,e,h1,h2⟩:=ha.form;obtain ⟨A',c',e',h1',h2'⟩:=hb.form;subst e e';clear ha hb;by_cases hl:a.length=b
 ·have HS2:=a4b (show eB a b=((a.drop 0).zip (b.drop 0)).all (fun p=>decide (cJ p.1 p.2=0)) by rw [HS.out,a4e hl];rfl)
  have hl1:a.length<=b:=I;have hl2:b.length<=a:=I;have hne:((a:Int) != (b:Int))=false:=ig;clear hl;go_enter Tryz.func138,Tryz.ntmps138;go_wp2_with fail;go_loopw [17] (fun i wr=>aEm a b w i wr) (fun i _=>a.length - (intOf i).toNat)
  case atStart=>exact ⟨0,af _,rfl,aq _,HS2.out⟩
  case round =>
   obtain ⟨k,hk,rfl,hx,ht⟩:=hrel;have HT:=a4b ht;have HX:=a4b hx;clear ht hx;by_cases hlt:k<a
   ·have hlt':k<b:=by omega
    have HD:=a4b (show eB a b=(decide (cJ (a.getD k default) (b.getD k default)=0) && ((a.drop (k+1)).zip (b.drop (k+1))).all (fun p=>decide (cJ p.1 p.2=0))) by
     rw [HT.out,aH default hlt,aH default hlt'];rfl)
    obtain ⟨b1,o1,c1,A1,d1,e1,-,-,-,hv1,g10,g11,g12,g13⟩:=(HA.out.ext HX.out).at_ hlt;obtain ⟨b2,o2,c2,A2,d2,e2,-,-,-,hv2,g20,g21,g22,g23⟩:=(HB.out.ext HX.out).at_ hlt';cases e1;cases e2;have q2:=aX g20;have HV1:=a4b hv1;have HV2:=a4b hv2;clear hv1 hv2;generalize a.getD k default=x at *;generalize b.getD k default=y at *;go_wp2_with fail;refine (xV x y A1 A2 d1 d2 P Q _ (HV1.out.ext (((aq _).alloc' _).alloc' _)) (HV2.out.ext (((aq _).alloc' _).alloc' _))).mono ?_;rintro e w1 ⟨rfl,hx1⟩;have HX1:=a4b (HX.out.trans' ((((aq _).alloc' _).alloc' _).trans' hx1));clear hx1;by_cases hz:cJ x y=0
    ·have HZ:=a4b hz
     have tz:decide (cJ x y=0)=true:=a4e hz;clear hz;generalize decide (cJ x y=0)=bz at *;subst tz;go_wp2_with fail;go_roundw
     case rel=>exact ⟨k+1,I,by go_num,HX1.out,by rw [HD.out];rfl⟩
     case measure=>simp [intOf];omega
    ·have HZ:=a4b hz
     have tz:decide (cJ x y=0)=false:=a4f hz;clear hz;generalize decide (cJ x y=0)=bz at *;subst tz;go_wp2_with fail;go_ret;exact ⟨aC (by rw [HD.out];rfl),HX1.out⟩
   ·go_wp2_with fail
    go_ret;exact ⟨aC (by rw [HT.out,drop_nil (l:=a) I];rfl),HX.out⟩
 ·have hne:((a:Int) != (b:Int))=true:=bne_iff_ne.2 I
  have HL:=a4b hl;clear hl;go_enter Tryz.func138,Tryz.ntmps138;go_wp2_with fail;go_ret;exact ⟨aC (by rw [HS.out,a4f HL.out];rfl),aq _⟩
theorem bA {w w' M}(hf:Fr M w w'){b off u}(hb:¬ M b)(h:qc w b off u):qc w' b off u:=by
 rw [<- h];exact World.cell?_of_block (w:=w) (hf.block b (aX h) hb)
theorem kX {w w' M}(hf:Fr M w.drew w'){b off u}(hb:¬ M b)(h:qc w b off u):qc w' b off u:=bA (w:=w.drew) hf hb h
def pP (t:List GN)(x:GN):Int:=if x.kind=4 then iB t x else 0
def aMt (t:List GN)(vn:Value)(g:SA)(r:Int)(w:World)(e:Ending)(w':World):Prop:=e=.returned (↑r)∧Fr g.M w w'∧bM t vn g w'
theorem aIz (t vn g gc b o i x a w)(hx:NAt w g.Q x a)(hn:bQ w b o x a)(hb:g.Q b)(hc3:qc w gc 3 (qp g.s))(hgc:¬ g.M gc)(hs:bM t vn g w)
  (hok:dV i x)(hg:bD t i) :
  qg 93 #[qp gc,qt b o] w (aMt t vn g (pP t x) w):=by
 have c0:=hn.c0;have c7:=hn.c7;have HN:=a4b hn;have HX:=a4b hx;have HS:=a4b hs;have HB:=a4b hb;have HGC:=a4b hgc;obtain ⟨hkl1,hkl2⟩:=hx.kids.le;by_cases hk:x.kind=4
 ·have t4:(x.kind != 4)=false:=by rw [bne_eq_false_iff_eq];exact hk
  have hk0:0<x.kids.length:=by have:=hok.bind hk;omega
  have hz:=hok.kids _ (aD (d:=0) hk0);obtain ⟨n,hn0⟩:∃ n:Nat,x.kids.getD 0 0=(n:Int):=⟨(x.kids.getD 0 0).toNat,I⟩
  have HQ:=a4b (show pP t x=if ((aF t).getD n default).many then 4 else if eB ((aF t).getD n default).vals x.values then 0 else 1 by
   unfold pP;rw [if_pos hk];unfold iB;rw [hn0];simp)
  obtain ⟨b1,o1,e1,hb1,-,g1⟩:=hx.kids.get hk0;rw [hn0,Nat.add_zero] at g1;rw [e1] at c7;have HB1:=a4b hb1;have HOF:=a4b (show ∀ W,bM t vn g W->qg 137 #[qp g.s,↑n] W (fY t vn g ((aF t).getD n default) W) from fun W h=>aUi t vn g n W (hg.mono I) h);generalize (aF t).getD n default=gg at *;obtain ⟨vals,many⟩:=gg;clear hx hn hs hb hgc hok hg hz hn0 hb1 e1 hk;go_enter Tryz.func93,Tryz.ntmps93;go_wp2_with fail
  go_region_held3 (fun w'=>qc w' gc 3 (qp g.s)∧qc w' b (o+7) (.slice (qt b1 o1) x.kids a.kc)∧qc w' b1 o1 n)
   (first
    | go_keep
    | (go_split_ands
       exact ⟨kX hfr HGC.out ‹_›,kX hfr HB.out.1 ‹_›,kX hfr HB1.out.1 ‹_›⟩)
    | (go_split_ands
       exact ⟨bA hfr HGC.out ‹_›,bA hfr HB.out.1 ‹_›,bA hfr HB1.out.1 ‹_›⟩))
   (first
    | (go_at_call 137;refine (HOF.out _ (HS.out.ext (aq _).drew')).mono ?_;rintro e w1 ⟨A,c,rfl,hv,hfr,hs1⟩))
  have HFR:=a4b ((au g.M w).drew.trans hfr);have HV:=a4b hv;have HS1:=a4b hs1;have d6:=bA HFR.out HB.out.1 HN.out.c6;have HVL:=a4b (HX.out.values.carry (aB.of_fr HFR.out (fun b h=>h.1)) (fun _ _ h=>h));clear hv hfr hs1;cases many
  ·go_wp2_with fail
   refine (xU vals x.values g.Q g.Q _ _ _ HV.out HVL.out).mono ?_;rintro e w2 ⟨rfl,hx2⟩;have HX2:=a4b hx2;clear hx2;generalize eB vals x.values=bb at *;cases bb
   ·go_wp2_with fail
    go_ret;exact ⟨aI gy,HFR.out.trans (ar HX2.out),HS1.out.ext HX2.out⟩
   ·go_wp2_with fail
    go_ret;exact ⟨aI gy,HFR.out.trans (ar HX2.out),HS1.out.ext HX2.out⟩
  ·go_wp2_with fail
   go_ret;exact ⟨aI gy,HFR.out,HS1.out⟩
 ·have t4:(x.kind != 4)=true:=bne_iff_ne.2 hk
  have HQ:=a4b (show pP t x=0 by unfold pP;rw [if_neg hk]);clear hx hn hs hb hgc hok hg;go_enter Tryz.func93,Tryz.ntmps93;go_wp2_with fail;go_ret;exact ⟨aI HQ.out.symm,au _ _,HS.out⟩
theorem lQ {a b}:∀ {zs s},(∀ z ∈ zs,a.getD z.toNat 0=b.getD z.toNat 0)->dG a s zs=dG b s zs
 | [],_,_=>rfl
 | z :: zs,s,h=>by simp only [dG];rw [h z O,lQ (fun y hy=>h y db)]
theorem fO {a b ch}:∀ {zs i m},(∀ z ∈ zs,a.getD z.toNat 0=b.getD z.toNat 0)->aT a ch i m zs=aT b ch i m zs
 | [],_,_,_=>rfl
 | z :: zs,i,m,h=>by simp only [aT];rw [h z O,fO (fun y hy=>h y db)]
theorem aFg {a b j x}(hn:dV j x)(h:∀ z ∈ x.kids,a.getD z.toNat 0=b.getD z.toNat 0):gZ a x=gZ b x:=by
 unfold gZ;rw [lQ h,fO h,fO h];by_cases k4:x.kind=4
 ·have:=hn.bind k4
  rw [h _ (aD (d:=0) I)]
 ·have hk:=hn.kind
  by_cases h0:x.kind=0
  ·simp [h0]
  ·by_cases h1:x.kind=1
   ·simp [h1]
   ·by_cases h3:x.kind=3
    ·simp [h3]
    ·simp [show x.kind=2 by omega]
theorem aB1 {a b x}(h:∀ z ∈ x.kids,a.getD z.toNat 0=b.getD z.toNat 0):fW a x=fW b x:=by
 unfold fW;rw [lQ h,fO h,fO h]
theorem zG {a b:List Int}{k i}(h:a.take k=b.take k)(hi:i<k):a.getD i 0=b.getD i 0:=by
 have:(a.take k)[i]?=(b.take k)[i]?:=jq;simp only [List.getElem?_take,hi,if_true] at this;simp [List.getD,this]
section
variable {t:List GN}{k:Nat}{ls zs:List Int}
theorem aBt (hk:k<t)(hn:dV k (t.getD k default))(hl:ls.take k=(aM t).take k):gZ ls (t.getD k default)=(aM t).getD k 0:=by
 rw [xF hk]
 exact aFg hn (fun z hz=>by
  have hz':=hn.kids z hz;rw [aDn hk hz'];exact zG hl I)
theorem aC6 (hg:bD t k)(hs:pZ t)(hk:k<t)(hn:dV k (t.getD k default))(hl:zs.take k=(bH t).take k) :
  fW zs (t.getD k default)=(bH t).getD k 0∨((t.getD k default).kind=4∧(t.getD k default).values=[]∧fW zs (t.getD k default)=1∧(bH t).getD k 0=0):=by
 have e:fW zs (t.getD k default)=fW (bH (t.take k)) (t.getD k default):=aB1 (fun z hz=>by
  have hz':=hn.kids z hz;rw [jS hk hz'];exact zG hl I)
 rw [e,mK hk];exact rG hn (fun z h1 h2=>by rw [jS hk ⟨h1,h2⟩];exact (wB hg hs z.toNat I).1)
theorem aP1 {i x}(h:(cM x && dD i x)=false):iE i x=1:=by rw [uO,if_pos h]
theorem aB7 {i x}(h:(cM x && dD i x)=true):iE i x=if gQ x=0 then (if bG x then 0 else 5) else gQ x:=by rw [uO,if_neg (by rw [h];decide)]
theorem aEh (h:(cM (t.getD k default) && dD k (t.getD k default))=false):cP t k=1:=by
 unfold cP;rw [aP1 h];rfl
theorem aIx (h:(cM (t.getD k default) && dD k (t.getD k default))=true)(hp:¬ gQ (t.getD k default)=0):cP t k=gQ (t.getD k default):=by
 unfold cP;rw [aB7 h,if_neg hp,if_neg hp]
theorem aQz (h:(cM (t.getD k default) && dD k (t.getD k default))=true)(hp:gQ (t.getD k default)=0)(hn:bG (t.getD k default)=false):cP t k=5:=by
 unfold cP;rw [aB7 h,if_pos hp,hn];rfl
theorem aMh (h:(cM (t.getD k default) && dD k (t.getD k default))=true)(hp:gQ (t.getD k default)=0)(hn:bG (t.getD k default)=true):dV k (t.getD k default):=by
 rw [<- kH,aB7 h,if_pos hp,if_pos hn]
theorem aMg (hg:bD t k)(hs:pZ t)(hk:k<t)(hn:dV k (t.getD k default))(hl:ls.take k=(aM t).take k)(hz:zs.take k=(bH t).take k) :
  cP t k=if (decide (gZ ls (t.getD k default)<=256) && decide (fW zs (t.getD k default)<=1024))=false then 4 else pP t (t.getD k default):=by
 unfold cP;rw [if_pos (kH.2 hn),aBt hk hn hl]
 have hc:(256<(aM t).getD k 0∨1024<(bH t).getD k 0) ↔ (decide ((aM t).getD k 0<=256) && decide (fW zs (t.getD k default)<=1024))=false:=by
  rw [Bool.and_eq_false_iff,decide_eq_false_iff_not,decide_eq_false_iff_not];rcases aC6 hg hs hk hn hz with h | ⟨_,_,h1,h2⟩
  ·rw [h];omega
  ·rw [h1,h2];omega
 by_cases h:(256<(aM t).getD k 0∨1024<(bH t).getD k 0)
 ·rw [if_pos h,if_pos (hc.1 h)]
 ·rw [if_neg h,if_neg (fun h'=>h (hc.2 h'))]
  rfl
theorem aEg (hg:bD t k)(hk:k<t)(hc:cP t k=0):bD t (k+1):=⟨I,hg.2.1,fun j hj=>by
 rcases Nat.lt_or_eq_of_le (Nat.le_of_lt_succ hj) with h | h
 ·exact hg.2.2 j h
 ·rw [h];exact hc⟩
theorem aC8 {a b:List Int}{i v}(h:a.take i=b.take i)(ha:i<a)(hb:i<b)(hv:v=b.getD i 0):(a.set i v).take (i+1)=b.take (i+1):=by
 rw [aR 0 hb,<- hv,List.take_succ_eq_append_getElem (by simpa using ha),List.take_set_of_le (ab _),h];simp
theorem aEf (hg:bD t k)(hk:k<t)(hc:cP t k=0)(hl:ls.take k=(aM t).take k)(hll:ls.length=t):(ls.set k (gZ ls (t.getD k default))).take (k+1)=(aM t).take (k+1):=by
 refine aC8 hl I (by unfold aM;rw [eF];simpa using hk) ?_;exact aBt hk (nR.1 hc).node hl
theorem aIw (hg:bD t k)(hs:pZ t)(hk:k<t)(hc:cP t k=0)(hl:zs.take k=(bH t).take k)(hll:zs.length=t):(zs.set k (fW zs (t.getD k default))).take (k+1)=(bH t).take (k+1):=by
 refine aC8 hl I (by unfold bH;rw [eF];simpa using hk) ?_;rcases aC6 hg hs hk (nR.1 hc).node hl with h | ⟨h4,hv,_⟩
 ·exact h
 ·have:=(eX (aEg hg hk hc) (Nat.lt_succ_self k)).2.2 h4
  rw [hv] at this;simp at this
theorem uI (hk:k<t)(h:aY t=cW t k (t.length - k)):aY t=if cP t k=0 then cW t (k+1) (t.length - (k+1)) else cP t k:=by
 have e:t.length - k=(t.length - (k+1))+1:=I;rw [h,e];rfl
theorem iG (hk:k<t)(h:aY t=cW t k (t.length - k)){r}(hc:cP t k=r)(hr:¬ r=0):aY t=r:=by
 rw [uI hk h,if_neg (by rw [hc];exact hr),hc]
end
theorem aG1 {a}(ha:∀ x ∈ a,I64 x)(x):I64 (fW a x):=by
 have h1:I64 1:=br;unfold fW;split
 ·exact wK _
 ·split
  ·exact jY _ _ _ h1
  ·split
   ·exact kI _ ha _ _ _ _ h1
   ·split
    ·exact kI _ ha _ _ _ _ h1
    ·exact h1
theorem qH {a}(ha:∀ x ∈ a,I64 x)(x):I64 (gZ a x):=by
 have h0:I64 0:=br;have h1:I64 1:=br;unfold gZ;split
 ·exact h0
 ·split
  ·exact h1
  ·split
   ·exact jY _ _ _ h0
   ·split
    ·exact qC _
    ·exact qC _
theorem rI {a:List Int}(ha:∀ x ∈ a,I64 x){i v}(hv:I64 v):∀ x ∈ a.set i v,I64 x:=fun x hx=>by
 rcases List.mem_or_eq_of_mem_set hx with h | h
 ·exact ha x h
 ·rw [h];exact hv
