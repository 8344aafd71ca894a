/- Contracts of functions. Conditions: none. -/
import Derived.Test.YtkoeecdjijfjnaaGreatE5
set_option maxRecDepth 100000
set_option maxHeartbeats 8000000
namespace Go.Proofs.YtkoeecdjijfjnaaGreat
open Go.RowKit
theorem lK {before:List GL}{bind:Bool}:∀ (zs:List Int)(k:Nat)(out:List GV),jC before bind k out true zs=⟨[],true⟩
 | [],_,_=>by simp [jC]
 | z :: zs,k,out=>by
  simp only [jC]
  split
  ·exact lK zs _ _
  ·simp only [Bool.true_or];exact lK zs _ _
theorem oR {before:List GL}{bind:Bool}:∀ (zs:List Int)(k:Nat)(out:List GV),(∀ z ∈ zs,LOK (before.getD z.toNat default))->Inc out->¬ (bind=true∧k=0)->jC before bind k out false zs=xP before out zs
 | [],_,_,_,_,_=>by simp [jC,xP]
 | z :: zs,k,out,hz,ho,hb=>by
  have hl:=hz z Y;simp only [jC,xP];rw [if_neg hb,yT ho hl.inc];simp only [Bool.false_or]
  cases e:(before.getD z.toNat default).many
  ·simp only [Bool.false_or,Bool.false_eq_true,if_false]
   by_cases h:1024<(eN (out ++ (before.getD z.toNat default).vals)).length
   ·rw [aYo h,lK,if_pos h]
   ·rw [aYp h,if_neg h]
    exact oR zs (k+1) _ (fun y hy=>hz y ao) (jL _) U
  ·simp only [Bool.true_or,if_true]
   exact lK zs _ _
theorem aB4 {before:List GL}{x:GN}(hz:∀ z ∈ x.kids,LOK (before.getD z.toNat default)):qY before x=vN x before:=by
 unfold qY vN
 split
 ·next h=>rw [h]
 ·next rows h =>
  rw [h];obtain ⟨a,_,_,_⟩:=mU x.kids [[]] 0 hz (List.pairwise_singleton _ _) Y Y Y rows h
  show _=GL.mk (eN (rows.map (bW x.name))) false
  rw [oB (wK x.name a)]
theorem aD7 {t:List GN}{i:Nat}(hg:bD t (i+1)):(aD t).getD i default=cG (aD t) (t.getD i default):=by
 have hit:i<t.length:=by have:=hg.1;omega
 have hn:=(hg.at_ (j:=i) U).node;have hk:∀ z ∈ (t.getD i default).kids,(aD (t.take i)).getD z.toNat default=(aD t).getD z.toNat default:=fun z hz=>gH hit (hn.kids z hz)
 have hsq:∀ (zs:List Int) (rows:List (List GV)),(∀ z ∈ zs,(aD (t.take i)).getD z.toNat default=(aD t).getD z.toNat default)->bO (aD (t.take i)) rows zs=bO (aD t) rows zs:=by
  intro zs
  induction zs with
  | nil=>intro rows _;rfl
  | cons z zs ih=>intro rows h;simp only [bO];rw [h z Y];split;rfl;exact ih _ (fun y hy=>h y ao)
 have hun:∀ (bind:Bool) (zs:List Int) (k:Nat) (out:List GV) (m:Bool),(∀ z ∈ zs,(aD (t.take i)).getD z.toNat default=(aD t).getD z.toNat default)->jC (aD (t.take i)) bind k out m zs=jC (aD t) bind k out m zs:=by
  intro bind zs
  induction zs with
  | nil=>intro k out m _;rfl
  | cons z zs ih =>
   intro k out m h;simp only [jC];rw [h z Y]
   split
   ·exact ih _ _ _ (fun y hy=>h y ao)
   ·exact ih _ _ _ (fun y hy=>h y ao)
 rw [iG hit];unfold cG
 split
 ·rfl
 ·split
  ·rfl
  ·split
   ·unfold vN
    rw [hsq _ _ hk]
   ·exact hun _ _ _ _ _ hk
theorem aU.tail {w:World}{P:Nat->Prop}{b off c:Nat}{z:Int}{l:List Int}(h:aU w P (.slice (some ⟨b,off,none⟩) (l.length+1) c) (z :: l)):aU w P (.slice (some ⟨b,off+1,none⟩) l.length (c - 1)) l:=by
 obtain ⟨A,c',e,h1,h2,h3,h4⟩:=h;injection e with e1 e2 e3;subst e1 e3;have h5:=h4.drop (k:=1) Y;simp only [List.length_cons,Nat.add_sub_cancel,List.map_cons,List.drop_succ_cons,List.drop_zero,Nat.one_mul] at h5;simp only [List.length_cons] at h1 h2;exact ⟨_,c - 1,rfl,U,U,fun y hy=>h3 y ao,h5⟩
def aFz (lo:Int)(N:Nat)(w:World)(v n:Value)(wr:World):Prop :=
 ∃ (k:Nat) (xs:List Value),k<=N∧n=.int .i64 (lo+k)∧wr.ownsRow w.heap.size 85 4 v k xs∧RVs wr (fun _=>False) (dZ lo k) xs∧Ext w wr
theorem aEp (t:List GN)(vn:Value)(f:Nat)(hO:aBk t vn f):uT t vn (f+1):=by
 intro g i w hif hg hs;have HG:=aYl hg;have HS:=aYl hs;have hit:i<t.length:=by have:=hg.1;omega
 have HOK:=aYl (hg.at_ (j:=i) U).node;have HLL:=aYl (aD7 hg);have HFEW:=aYl (fE hg (j:=i) U);have HLOK:=aYl (show ∀ z ∈ (t.getD i default).kids,LOK ((aD t).getD z.toNat default) from fun z hz=>by have h:=HOK.out.kids z hz;exact lX hg z.toNat U);obtain ⟨kn,ls,ms,h⟩:=hs;have hnd:=h.nodes;have HBX:=aYl h.box;obtain ⟨An,cn,en,hn1,hn2⟩:=hnd.form;subst en;obtain ⟨b1,o1,a1,rfl,hb1,ha1,hc1⟩:=hnd.get hit;have HB1:=aYl hb1;have b0:=HBX.out.cell' (u:=.slice (some ⟨b1,o1,none⟩) t.length cn) 0 rfl;have HA:=aYl ha1;have HC:=aYl hc1;have c0:=hc1.c0;have hi0:(0:Int)<=(i:Int):=by omega
 have hi1:(i:Int)<(t.length:Int):=U
 clear hg hnd hc1 ha1 hb1 h;generalize t.getD i default=x at *;have hkd:=HOK.out.kind;rw [HLL.out]
 by_cases k0:x.kind=0
 ·have t0:(x.kind == 0)=true:=aYn k0
  have HR:=aYl (show cG (aD t) x=⟨[x.value],false⟩ by unfold cG;rw [if_pos k0]);have c8:=HC.out.c8;have c9:=HC.out.c9;have c10:=HC.out.c10;have c11:=HC.out.c11;clear k0;go_enter Tryz.func181,Tryz.ntmps181;go_wp2_with fail;go_ret2;rw [HR.out];refine ⟨some ⟨w.heap.size,0,none⟩,1,rfl,?_,Fr.of_ext ((Ext.refl w).alloc' _),HS.out.ext ((Ext.refl w).alloc' _)⟩;refine ⟨some ⟨w.heap.size,0,none⟩,1,cellsOf x.value a1.xA a1.xc,rfl,Y,Y,⟨rfl,fun _=>⟨w.heap.size,0,rfl,HS.out.newQ (Nat.le_refl _),fun j u hu=>mG _ _ _ _ _ _ Y (by simpa [cellsOf] using hu)⟩⟩,RVs.one (HA.out.value.ext ((Ext.refl w).alloc' _)).rv⟩
 have t0:(x.kind == 0)=false:=aYm k0
 by_cases k1:x.kind=1
 ·have t1:(x.kind == 1)=true:=aYn k1
  have HR:=aYl (show cG (aD t) x=if 1024<=x.hi - x.lo then ⟨[],true⟩ else ⟨dZ x.lo (x.hi - x.lo+1).toNat,false⟩ by unfold cG;rw [if_neg k0,if_pos k1]);have hnum:=cW HOK.out.numbers;have c2:=HC.out.c2;have c3:=HC.out.c3;have hwr:IntKind.i64.wrap (x.hi - x.lo)=x.hi - x.lo:=IntWalk.i64_in _ U;clear k0 k1
  by_cases hbig:1024<=x.hi - x.lo
  ·have tb:decide (1024<=x.hi - x.lo)=true:=aYo hbig
   have HR2:=aYl (HR.out.trans (if_pos hbig));go_enter Tryz.func181,Tryz.ntmps181;go_wp2_with fail;go_quiet (fail);go_wp2_with fail;go_ret2;rw [HR2.out];exact iK.none_ (Fr.of_ext ((Ext.refl w).drewN' _)) (HS.out.ext ((Ext.refl w).drewN' _))
  ·have tb:decide (1024<=x.hi - x.lo)=false:=aYp hbig
   have HR2:=aYl (HR.out.trans (if_neg hbig));obtain ⟨N,hN⟩:∃ N:Nat,x.hi - x.lo+1=N:=⟨(x.hi - x.lo+1).toNat,U⟩;have HN:=aYl hN;have hhi1:x.lo+N<=x.hi+1:=by omega
   have hhi2:x.hi+1<=x.lo+N:=U
   have hN2:N<=1024:=U
   clear hN;obtain ⟨i0,hi,hz0,hz1,hz2⟩:=info_parts Tryz.info85;have HI:=aYl hi;clear hi;go_enter Tryz.func181,Tryz.ntmps181;go_wp2_with fail;go_quiet (fail);clear hwr;go_wp2_with fail;go_loopw [7,8] (fun v n wr=>aFz x.lo N w v n wr) (fun _ n _=>(x.hi+1 - intOf n).toNat)
   case atStart=>exact ⟨0,[],Nat.zero_le _,Y,aN _ _ _ _,rfl,(Ext.refl w).drewN' _⟩
   case round =>
    obtain ⟨k,xs,hk,rfl,hown,hrv,hx⟩:=hrel;have HOWN:=aYl hown;have HRV:=aYl hrv;have HX:=aYl hx;have hsz:=hx.size;clear c0 c2 c3;have c3:=(HC.out.ext hx).c3;clear hown hrv hx
    by_cases hlt:k<N
    ·have tl:decide (x.lo+(k:Int)<=x.hi)=true:=aYo U
     go_wp2_with (at_builtin;go_must (refine aI _ rfl (.tmp 50) (.tmp 53) 83 al w.heap.size 85 i0 _ 4 56 Tryz.underlying83 HI.out hz0 hz1 hz2 rfl U u7 _ _ rfl (HOWN.out.alloc _) (fun _=>True) (some ⟨wr.heap.size,0,none⟩) 1 1 [.int .i64 0,.int .i64 (x.lo+k),.string ByteArray.empty,.slice none 0 0] rfl (Sl.new _ _ _ _ _ rfl) af U U ab ?_);intro v2 w2 ho2 hbl2);go_roundw
     case rel =>
      have hx2:Below w.heap.size wr w2:=((Below.refl _ wr).alloc hsz _).trans hbl2;refine ⟨k+1,_,U,ab,ho2,?_,HX.out.trans hx2⟩;rw [pC];exact RVs.append (RVs.carry (fun b _ h=>h.elim) (fun _ _ h=>h) HRV.out) (RVs.one (aJf _ _ aj))
     case measure=>simp [intOf];omega
    ·have tl:decide (x.lo+(k:Int)<=x.hi)=false:=aYp U
     have hkN:k=N:=U
     have HKN:=aYl hkN;clear hkN;obtain ⟨A2,c2,e2,-,-,-⟩:=Sl.of_own HOWN.out;subst e2;have HEQ:=aYl (show cG (aD t) x=⟨dZ x.lo k,false⟩ by rw [HR2.out,HKN.out,HN.out];simp);go_wp2_with fail;go_ret2;rw [HEQ.out];refine ⟨A2,c2,by rw [dL];rfl,?_,Fr.of_ext HX.out,HS.out.ext HX.out⟩;rw [dL];exact bV.of_own (HOWN.out.len_cast (dL _ _).symm rfl) (RVs.carry (fun _ _ _=>rfl) (fun _ _ h=>h.elim) HRV.out) (by rw [dL];omega) (fun b hb=>HS.out.newQ (HOWN.out.block_ge hb))
 have t1:(x.kind == 1)=false:=aYm k1;have HGI:=aYl (HG.out.mono (j:=i) U)
 by_cases k3:x.kind=3
 ·have t2:(x.kind == 2)=false:=aYm U
  have t3:(x.kind == 3)=true:=aYn k3;have HR:=aYl (show cG (aD t) x=qY (aD t) x by rw [aB4 HLOK.out];unfold cG;rw [if_neg k0,if_neg k1,if_pos k3]);clear k0 k1 k3;go_enter Tryz.func181,Tryz.ntmps181;go_wp2_with fail;refine (yO t _ g f i hO x a1 b1 (o1+i*12) w HA.out HC.out HB1.out HOK.out.kids U (by have:=HFEW.out.1;omega) HGI.out HS.out).mono ?_;rintro e w1 ⟨A,c,rfl,hv,hf,hs1⟩;go_wp2_with fail;go_ret2;rw [HR.out];exact ⟨A,c,rfl,hv,hf,hs1⟩
 have hki:=HA.out.kids;have c7:=HC.out.c7;have hkc:=hki.le;generalize a1.kA=Ak at *;generalize a1.kc=kc at *
 by_cases k2:x.kind=2
 ·have t2:(x.kind == 2)=true:=aYn k2
  have HR:=aYl (show cG (aD t) x=xP (aD t) [] x.kids by rw [<- oR x.kids 0 [] HLOK.out Inc.nil (show ¬ (false=true∧0=0) by simp)];unfold cG;rw [if_neg k0,if_neg k1,if_neg k3,aYp U]);have HKI:=aYl hki;clear k0 k1 k3 k2 hki;go_enter Tryz.func181,Tryz.ntmps181;go_wp2_with fail;refine (vE t _ g f i hO x.kids _ w HKI.out HOK.out.kids U HGI.out HS.out).mono ?_;rintro e w1 ⟨A,c,rfl,hv,hf,hs1⟩;go_wp2_with fail;go_ret2;rw [HR.out];exact ⟨A,c,rfl,hv,hf,hs1⟩
 have t2:(x.kind == 2)=false:=aYm k2;have t3:(x.kind == 3)=false:=aYm k3;have k4:x.kind=4:=by omega
 have hbd:=HOK.out.bind k4;have hv1:=HFEW.out.2.2 k4;have HKD:=aYl HOK.out.kids
 have HR:=aYl (show cG (aD t) x=xP (aD t) [] x.kids.tail by
  have e:cG (aD t) x=jC (aD t) true 0 [] false x.kids:=by unfold cG;rw [if_neg k0,if_neg k1,if_neg k3,aYo k4]
  rw [e];have hl:=HLOK.out
  cases hk:x.kids with
  | nil=>rw [hk] at hbd;simp at hbd
  | cons z zs =>
   rw [hk] at hl;rw [jC,if_pos ⟨rfl,rfl⟩];exact oR zs 1 [] (fun y hy=>hl y ao) Inc.nil U)
 obtain ⟨bk,ok,rfl,-,-,-⟩:=hki.get (i:=0) U
 have HKT:=aYl (show aU w g.Q (.slice (some ⟨bk,ok+1,none⟩) (x.kids.length - 1) (kc - 1)) x.kids.tail from by
  cases hk:x.kids with
  | nil=>rw [hk] at hbd;simp at hbd
  | cons z zs=>rw [hk] at hki;exact aU.tail hki)
 have hkc1:¬ kc=1:=U
 have hkl1:1<=x.kids.length:=U
 clear k0 k1 k3 k2 k4 hki hbd hv1;go_enter Tryz.func181,Tryz.ntmps181;go_wp2_with fail;refine (vE t _ g f i hO x.kids.tail _ w HKT.out (fun z hz=>HKD.out z (List.mem_of_mem_tail hz)) U HGI.out HS.out).mono ?_;rintro e w1 ⟨A,c,rfl,hv,hf,hs1⟩;go_wp2_with fail;go_ret2;rw [HR.out];exact ⟨A,c,rfl,hv,hf,hs1⟩
theorem aAz (t:List GN)(vn:Value):∀ f,uT t vn f
 | 0=>by intro g i w hf;omega
 | f+1=>aEp t vn f (aDx t vn f (aAz t vn f))
theorem aPh (t:List GN)(vn:Value)(g:SA)(i:Nat)(w:World)(hg:bD t (i+1))(hs:bQ t vn g w) :
  Calls Tryz.prog 137 #[.pointer (some ⟨g.s,0,none⟩),↑i] w (iK t vn g ((aD t).getD i default) w):=aDx t vn (i+1) (aAz t vn (i+1)) g i w U hg hs
theorem Tryz.info4:(Tryz.prog.info? 4).map (fun i=>(i.zero,i.size,i.bytes))=some (some (.bool false),1,1):=aa
theorem fF (w:World)(o:Obj):(w.alloc o).heap.size=w.heap.size+1:=Y
theorem sF (w:World)(a o2 o3 o4:Obj)(cs:Array Value)(t:TypeId):Blk (((((w.alloc a).alloc (.cells cs t)).alloc o2).alloc o3).alloc o4).drew (w.heap.size+1) t cs :=
 ((((Blk.new' (w.alloc a) t cs (fF w a).symm).alloc _).alloc _).alloc _).drew
theorem sE (w:World)(a o2 o3 o4:Obj)(cs:Array Value)(t:TypeId):Blk (((((w.alloc a).alloc o2).alloc (.cells cs t)).alloc o3).alloc o4).drew (w.heap.size+1+1) t cs :=
 (((Blk.new' ((w.alloc a).alloc o2) t cs (by rw [fF,fF])).alloc _).alloc _).drew
theorem sD (w:World)(a o2 o3 o4:Obj)(cs:Array Value)(t:TypeId):Blk (((((w.alloc a).alloc o2).alloc o3).alloc (.cells cs t)).alloc o4).drew (w.heap.size+1+1+1) t cs :=
 ((Blk.new' (((w.alloc a).alloc o2).alloc o3) t cs (by rw [fF,fF,fF])).alloc _).drew
theorem sC (w:World)(a o2 o3 o4:Obj)(cs:Array Value)(t:TypeId):Blk (((((w.alloc a).alloc o2).alloc o3).alloc o4).alloc (.cells cs t)).drew (w.heap.size+1+1+1+1) t cs :=
 (Blk.new' ((((w.alloc a).alloc o2).alloc o3).alloc o4) t cs (by rw [fF,fF,fF,fF])).drew
def aFo (t:List GN)(vn:Value)(X:Nat->Prop)(w:World)(e:Ending)(w':World):Prop :=
 ∃ g:SA,e=.returned (.pointer (some ⟨g.s,0,none⟩))∧g.X=X∧bQ t vn g w'∧Ext w w'∧w.heap.size<=g.s∧w.heap.size<=g.k∧w.heap.size<=g.l∧w.heap.size<=g.m
theorem fY {t:List GN}{vn:Value}{P X:Nat->Prop}{w w':World}{gs gk gl gm:Nat}(hx:Ext w w')(ht:Nds w P vn t)(hPX:∀ b,P b->¬ X b)(hX:∀ b,X b->b<w.heap.size)(h1:w.heap.size<=gs)(h2:w.heap.size<=gk)(h3:w.heap.size<=gl)(h4:w.heap.size<=gm)
  (n1:gs ≠ gk)(n2:gs ≠ gl)(n3:gs ≠ gm)(n4:gk ≠ gl)(n5:gk ≠ gm)(n6:gl ≠ gm)
  (hs:Blk w' gs 198 #[vn,.slice (some ⟨gk,0,none⟩) t.length t.length,.slice (some ⟨gl,0,none⟩) t.length t.length,.slice (some ⟨gm,0,none⟩) t.length t.length])
  (hk:Blk w' gk 4 (madeCells #[.bool false] t.length))(hl:Blk w' gl 83 (madeCells #[.slice none 0 0] t.length))(hm:Blk w' gm 4 (madeCells #[.bool false] t.length)) :
  aFo t vn X w (.returned (.pointer (some ⟨gs,0,none⟩))) w':=by
 rw [eV] at hk hl hm;have hQ:∀ b,b<w.heap.size->P b->(SA.mk gs gk gl gm X).Q b:=fun b hb hp=>⟨fun h=>by rcases h with h | h | h <;> (simp only at h;omega),hPX b hp⟩
 refine ⟨⟨gs,gk,gl,gm,X⟩,rfl,rfl,⟨List.replicate t.length false,List.replicate t.length (.slice none 0 0),List.replicate t.length false,n1,n2,n3,n4,n5,n6,Y,Y,Y,hs,by rw [List.map_replicate];exact hk,hl,by rw [List.map_replicate];exact hm,fun b hb=>by have:=hX b hb;have:=hx.size;omega,ht.carry (aB.of_ext hx) hQ,?_,?_⟩,hx,h1,h2,h3,h4⟩
 ·intro v hv
  rw [List.eq_of_mem_replicate hv];exact ⟨_,_,_,rfl⟩
 ·intro j hj h
  simp [List.getD,hj] at h
theorem pG (t:List GN)(P X:Nat->Prop)(vn:Value)(w:World)(ht:Nds w P vn t)(hPX:∀ b,P b->¬ X b)(hX:∀ b,X b->b<w.heap.size)(hlen:t.length<=100000) :
  Calls Tryz.prog 87 #[.agg #[vn]] w (aFo t vn X w):=by
 have HT:=aYl ht;have HPX:=aYl hPX;have HX:=aYl hX;obtain ⟨An,cn,en,hn1,hn2⟩:=ht.form;subst en;obtain ⟨i4,hi4,hz40,hz41,hz42⟩:=info_parts Tryz.info4;obtain ⟨i1,hi',hz0',hz1',hz2'⟩:=info_parts Tryz.info83
 have hmk1:∀ W:World,(Instr.makeSlice 196 (.int .i64 (t.length:Int)) (.int .i64 (t.length:Int))).run Tryz.prog W=.ok (.slice (some ⟨W.heap.size,0,none⟩) t.length t.length) (W.alloc (.cells (madeCells #[.slice none 0 0] t.length) 83)):=by
  intro W;have h:=run_make (P:=Tryz.prog) W 196 83 i1 _ Tryz.underlying196 hi' hz0' .i64 .i64 (t.length:Int) (t.length:Int) U (Int.le_refl _) (by rw [hz2'];omega) U;rw [hz1',Nat.mul_one] at h;rw [h]
  rfl
 have hmk2:∀ W:World,(Instr.makeSlice 195 (.int .i64 (t.length:Int)) (.int .i64 (t.length:Int))).run Tryz.prog W=.ok (.slice (some ⟨W.heap.size,0,none⟩) t.length t.length) (W.alloc (.cells (madeCells #[.bool false] t.length) 4)):=by
  intro W;have h:=run_make (P:=Tryz.prog) W 195 4 i4 _ Tryz.underlying195 hi4 hz40 .i64 .i64 (t.length:Int) (t.length:Int) U (Int.le_refl _) (by rw [hz42];omega) U;rw [hz41,Nat.mul_one] at h;rw [h]
  rfl
 clear ht hPX hX hi4 hi' hz40 hz41 hz42 hz0' hz1' hz2' i4 i1;go_enter Tryz.func87,Tryz.ntmps87;go_wp2_with fail;go_region
 all_goals (go_wp2_with fail)
 all_goals (go_ret)
 all_goals (show aFo _ _ _ _ (.returned (.pointer (some ⟨w.heap.size+1+1+1+1,0,none⟩))) _)
 all_goals first
  | exact fY (gs:=w.heap.size+1+1+1+1) (gk:=w.heap.size+1) (gl:=w.heap.size+1+1) (gm:=w.heap.size+1+1+1) (((((((Ext.refl w).alloc' _).alloc' _).alloc' _).alloc' _).alloc' _).drew') HT.out HPX.out HX.out U U U U U U U U U U (sC w _ _ _ _ _ _) (sF w _ _ _ _ _ _) (sE w _ _ _ _ _ _) (sD w _ _ _ _ _ _)
  | exact fY (gs:=w.heap.size+1+1+1+1) (gk:=w.heap.size+1) (gl:=w.heap.size+1+1+1) (gm:=w.heap.size+1+1) (((((((Ext.refl w).alloc' _).alloc' _).alloc' _).alloc' _).alloc' _).drew') HT.out HPX.out HX.out U U U U U U U U U U (sC w _ _ _ _ _ _) (sF w _ _ _ _ _ _) (sD w _ _ _ _ _ _) (sE w _ _ _ _ _ _)
  | exact fY (gs:=w.heap.size+1+1+1+1) (gk:=w.heap.size+1+1) (gl:=w.heap.size+1) (gm:=w.heap.size+1+1+1) (((((((Ext.refl w).alloc' _).alloc' _).alloc' _).alloc' _).alloc' _).drew') HT.out HPX.out HX.out U U U U U U U U U U (sC w _ _ _ _ _ _) (sE w _ _ _ _ _ _) (sF w _ _ _ _ _ _) (sD w _ _ _ _ _ _)
  | exact fY (gs:=w.heap.size+1+1+1+1) (gk:=w.heap.size+1+1) (gl:=w.heap.size+1+1+1) (gm:=w.heap.size+1) (((((((Ext.refl w).alloc' _).alloc' _).alloc' _).alloc' _).alloc' _).drew') HT.out HPX.out HX.out U U U U U U U U U U (sC w _ _ _ _ _ _) (sE w _ _ _ _ _ _) (sD w _ _ _ _ _ _) (sF w _ _ _ _ _ _)
  | exact fY (gs:=w.heap.size+1+1+1+1) (gk:=w.heap.size+1+1+1) (gl:=w.heap.size+1) (gm:=w.heap.size+1+1) (((((((Ext.refl w).alloc' _).alloc' _).alloc' _).alloc' _).alloc' _).drew') HT.out HPX.out HX.out U U U U U U U U U U (sC w _ _ _ _ _ _) (sD w _ _ _ _ _ _) (sF w _ _ _ _ _ _) (sE w _ _ _ _ _ _)
  | exact fY (gs:=w.heap.size+1+1+1+1) (gk:=w.heap.size+1+1+1) (gl:=w.heap.size+1+1) (gm:=w.heap.size+1) (((((((Ext.refl w).alloc' _).alloc' _).alloc' _).alloc' _).alloc' _).drew') HT.out HPX.out HX.out U U U U U U U U U U (sC w _ _ _ _ _ _) (sD w _ _ _ _ _ _) (sE w _ _ _ _ _ _) (sF w _ _ _ _ _ _)
def lZ:List GV->Int
 | []=>0
 | v :: vs=>if eP v=0 then lZ vs else eP v
def gG (x:GN):Int:=if x.kind=0 then eP x.value else lZ x.values
def aFl (l:List GV)(W:World)(k:Value)(wr:World):Prop:=∃ j:Nat,j<=l.length∧k=↑j∧Ext W wr∧lZ l=lZ (l.drop j)
theorem sP (x:GN)(a:NA)(b o:Nat)(P:Nat->Prop)(w:World)(hP:∀ b,P b->b<w.heap.size)(hn:bU w b o x a)(hx:NAt w P x a) :
  Calls Tryz.prog 90 #[.pointer (some ⟨b,o,none⟩)] w (dV (.int .i64 (gG x)) w):=by
 have HX:=aYl hx;have HP:=aYl hP;have HS:=aYl (show gG x=if x.kind=0 then eP x.value else lZ x.values from rfl);have c0:=hn.c0;have c6:=hn.c6;have c8:=hn.c8;have c9:=hn.c9;have c10:=hn.c10;have c11:=hn.c11;obtain ⟨hvl1,hvl2⟩:=hx.values.le;clear hx hn hP
 by_cases hk:x.kind=0
 ·have t0:(x.kind == 0)=true:=aYn hk
  have HK:=aYl hk;clear hk;go_enter Tryz.func90,Tryz.ntmps90;go_wp2_with fail;refine (gA x.value a.xA a.xc P w HP.out HX.out.value).mono ?_;rintro e w1 ⟨rfl,hx1⟩;have HX1:=aYl hx1;clear hx1;go_wp2_with fail;go_ret;exact ⟨aH (by rw [HS.out,if_pos HK.out]),HX1.out⟩
 ·have t0:(x.kind == 0)=false:=aYm hk
  have HN:=aYl (HS.out.trans (if_neg hk));have HVL:=aYl HX.out.values;clear hk HX HS c8 c9 c10 c11;generalize a.vA=Av at *;generalize a.vc=cv at *;go_enter Tryz.func90,Tryz.ntmps90;go_wp2_with fail;go_loopw [21] (fun k wr=>aFl x.values w k wr) (fun k _=>x.values.length - (intOf k).toNat)
  case atStart=>exact ⟨0,Nat.zero_le _,rfl,Ext.refl _,rfl⟩
  case round =>
   obtain ⟨j,hj,rfl,hxr,ht⟩:=hrel;have HT:=aYl ht;have HXR:=aYl hxr;clear ht hxr
   by_cases hlt:j<x.values.length
   ·obtain ⟨b1,o1,A1,d1,rfl,-,hv1,g10,g11,g12,g13⟩:=(HVL.out.ext HXR.out).get hlt
    have HD:=aYl (show lZ x.values=if eP (x.values.getD j default)=0 then lZ (x.values.drop (j+1)) else eP (x.values.getD j default) by
     rw [HT.out,aG default hlt];rfl)
    have HV1:=aYl hv1;clear hv1;generalize x.values.getD j default=y at *;go_wp2_with fail;refine (gA y A1 d1 P _ (fun b hb=>by have h1:=HP.out b hb;have h2:=HXR.out.size;simp;omega) (HV1.out.ext ((Ext.refl _).alloc' _))).mono ?_;rintro e w4 ⟨rfl,hx4⟩;have HX4:=aYl ((HXR.out.alloc' _).trans' hx4);clear hx4
    by_cases hz:eP y=0
    ·have HZ:=aYl hz
     have tz:(eP y != 0)=false:=ct
     clear hz;go_wp2_with fail;go_roundw
     case rel=>exact ⟨j+1,U,by go_num,HX4.out,gj⟩
     case measure=>simp [intOf];omega
    ·have tz:(eP y != 0)=true:=bne_iff_ne.2 hz
     have HN2:=aYl (show gG x=eP y by rw [HN.out,HD.out,if_neg hz]);clear hz;go_wp2_with fail;go_ret;exact ⟨aH HN2.out.symm,HX4.out⟩
   ·have HN2:=aYl (show gG x=0 by rw [HN.out,HT.out,drop_nil U];rfl)
    go_wp2_with fail;go_ret;exact ⟨aH HN2.out.symm,HXR.out⟩
theorem aGd {h l:Int}(h1:l<=h)(h2:-4611686018427387904<=l)(h3:h<=4611686018427387904):IntKind.u64.wrap (IntKind.u64.wrap h - IntKind.u64.wrap l)=h - l:=by
 simp only [IntKind.wrap,IntKind.bits,IntKind.signed];simp only [Bool.false_and,Bool.false_eq_true,if_false];omega
def aQl (x:GN)(W:World)(i:Value)(wr:World):Prop:=∃ k:Nat,k<=x.weights.length∧i=↑k∧W=wr∧bF x=(x.weights.drop k).all fH
theorem zA (x:GN)(a:NA)(b o:Nat)(P:Nat->Prop)(w:World)(hn:bU w b o x a)(hx:NAt w P x a) :
  Calls Tryz.prog 91 #[.pointer (some ⟨b,o,none⟩)] w (dV (.bool (bF x)) w):=by
 have HX:=aYl hx;have HU:=aYl (show bF x=(!uU x && x.weights.all fH) from rfl);obtain ⟨hl,hc⟩:=hx.weights.le;have hi1:=hx.lo;have hi2:=hx.hi;have HN:=aYl hn;have c2:=hn.c2;have c3:=hn.c3;unfold I64 at hi1 hi2;clear hx hn;go_enter Tryz.func91,Tryz.ntmps91;go_upto_region 1 with fail;go_cut [41] (fun s wx=>s=.bool (uU x)∧Ext w wx)
 case first =>
  by_cases ha1:x.hi<x.lo
  ·have t0a1:decide (x.hi<x.lo)=true:=aYo ha1
   go_quiet (fail);go_wp2_with fail;go_meet;exact ⟨congrArg Value.bool ec,Ext.drewN _ _⟩
  ·have t0a1:decide (x.hi<x.lo)=false:=aYp ha1
   by_cases ha2:x.lo < -4611686018427387904
   ·have t0a2:decide (x.lo < -4611686018427387904)=true:=aYo ha2
    go_quiet (fail);go_wp2_with fail;go_meet;exact ⟨congrArg Value.bool au,Ext.drewN _ _⟩
   ·have t0a2:decide (x.lo < -4611686018427387904)=false:=aYp ha2
    by_cases ha3:4611686018427387904<x.hi
    ·have t0a3:decide (4611686018427387904<x.hi)=true:=aYo ha3
     go_quiet (fail);go_wp2_with fail;go_meet;exact ⟨congrArg Value.bool an,Ext.drewN _ _⟩
    ·have t0a3:decide (4611686018427387904<x.hi)=false:=aYp ha3
     go_quiet (fail);go_wp2_with fail;go_meet;rw [aGd U U U];refine ⟨congrArg Value.bool ?_,Ext.drewN _ _⟩;unfold uU;rw [(show decide (x.hi<x.lo)=false from aYp U),(show decide (x.lo < -4611686018427387904)=false from aYp U),(show decide (4611686018427387904<x.hi)=false from aYp U)];simp only [Bool.false_or];exact decide_eq_decide.2 U
 case rest =>
  obtain ⟨rfl,he⟩:=hcut;have HE:=aYl he;have hb4:=(HN.out.ext he).c4;have HW:=aYl (HX.out.weights.ext he);clear he c2 c3;generalize a.wA=Aw at *;generalize a.wc=cw at *;generalize uU x=bn at *
  cases bn
  ·have HU2:=aYl (show bF x=(x.weights.drop 0).all fH by rw [HU.out];rfl)
   go_wp2_with fail;go_loopw [47] (fun i wr=>aQl x wc i wr) (fun i _=>x.weights.length - (intOf i).toNat)
   case atStart=>exact ⟨0,Nat.zero_le _,rfl,rfl,HU2.out⟩
   case round =>
    obtain ⟨k,hk,rfl,rfl,ht⟩:=hrel;have HT:=aYl ht;clear ht
    by_cases hlt:k<x.weights.length
    ·obtain ⟨b1,o1,rfl,-,hv,g1⟩:=HW.out.get hlt
     have HD:=aYl (show bF x=(fH (x.weights.getD k 0) && (x.weights.drop (k+1)).all fH) by rw [HT.out,aG 0 hlt];rfl);generalize x.weights.getD k 0=z at *;clear hv
     by_cases hz1:z<1
     ·have HN:=aYl (show fH z=false from aYp U)
      have tz1:decide (z<1)=true:=aYo hz1;go_wp2_with fail;go_ret;exact ⟨aC d9,HE.out⟩
     ·have tz1:decide (z<1)=false:=aYp hz1
      by_cases hz2:1000<z
      ·have HN:=aYl (show fH z=false from aYp U)
       go_wp2_with fail;go_ret;exact ⟨aC d9,HE.out⟩
      ·have tz2:decide (1000<z)=false:=aYp hz2
       have HN:=aYl (show fH z=true from aYo U);go_wp2_with fail;go_roundw
       case rel=>exact ⟨k+1,U,by go_num,rfl,d9⟩
       case measure=>simp [intOf];omega
    ·go_wp2_with fail
     go_ret;exact ⟨aC (by rw [HT.out,drop_nil U];rfl),HE.out⟩
  ·go_wp2_with fail
   go_ret;exact ⟨aC ij,HE.out⟩
theorem aGa (a b c:Int):wrap64 (wrap64 (a+b)+c)=wrap64 (a+wrap64 (b+c)):=by unfold wrap64;omega
theorem nY (a:Int):I64 (wrap64 a):=by unfold wrap64 I64;omega
theorem oO {a:Int}(h:I64 a):wrap64 a=a:=by unfold I64 at h;unfold wrap64;omega
theorem mV:∀ (l:List GV)(n m:Int),xQ (wrap64 (n+m)) l=wrap64 (n+xQ m l)
 | [],n,m=>by rw [fD,fD]
 | x :: xs,n,m=>by rw [gD,gD,aGa,mV xs n (wrap64 (m+rsz x))]
mutual
theorem aUf:∀ (x:GV)(n:Int),vis aF4 n x=(wrap64 (n+rsz x),true)
 | .mk k n s l,m=>by
  rw [zW,nJ];simp only [aF4,if_true,GV.kids];rw [aMt l (wrap64 (m+1)),mV]
theorem aMt:∀ (l:List GV)(n:Int),rE aF4 n l=(xQ n l,true)
 | [],n=>by rw [oA,fD]
 | x :: xs,n=>by rw [lI,aUf x n];simp only [if_true];rw [aMt xs _,gD]
end
theorem aJt (x:GV):(vis aF4 0 x).1=rsz x:=by rw [aUf];show wrap64 (0+rsz x)=_;rw [Int.zero_add,oO (sZ x)]
mutual
theorem aUe:∀ (x:GV)(n:Int)(m:Bool),(vis vO (n,true,m) x).2=dR aE x∧(vis vO (n,true,m) x).1.2.1=dR aE x∧(dR aE x=true->(vis vO (n,true,m) x).1=(wrap64 (n+rsz x),true,m && dR pS x))
 | .mk k n s l,a,m=>by
  rw [zW,bZ,bZ,nJ];simp only [vO,Bool.true_and,GV.kids]
  cases hf:aE (.mk k n s l)
  ·simp
  ·simp only [if_true,Bool.true_and]
   have h:=aMs l (wrap64 (a+1)) (m && pS (.mk k n s l));refine ⟨h.1,h.2.1,fun ha=>?_⟩;rw [h.2.2 ha,mV,Bool.and_assoc]
theorem aMs:∀ (l:List GV)(n:Int)(m:Bool),(rE vO (n,true,m) l).2=eO aE l∧(rE vO (n,true,m) l).1.2.1=eO aE l∧(eO aE l=true->(rE vO (n,true,m) l).1=(xQ n l,true,m && eO pS l))
 | [],n,m=>by simp [oA,dU,fD]
 | x :: xs,n,m=>by
  have h:=aUe x n m;rw [lI,dY,dY,gD]
  cases ha:dR aE x
  ·rw [ha] at h;simp [h.1,h.2.1]
  ·rw [ha] at h
   have h3:=h.2.2 rfl;rw [h.1,if_pos rfl,h3];have k:=aMs xs (wrap64 (n+rsz x)) (m && dR pS x);simp only [Bool.true_and];refine ⟨k.1,k.2.1,fun hb=>?_⟩;rw [k.2.2 hb,Bool.and_assoc]
end
theorem aEo {x:GV}(h:aE x=true):pS x=bX x:=by
 unfold aE at h;unfold pS bX;rw [Bool.eq_iff_iff]
 by_cases h0:x.kind=0
 ·rw [if_pos h0] at h;simp at h;simp [h0,h.2]
 ·rw [if_neg h0] at h
  by_cases h1:x.kind=1
  ·rw [if_pos h1] at h;simp at h;simp [h1,h.2]
  ·rw [if_neg h1] at h
   by_cases h2:x.kind=2
   ·simp [h2]
   ·rw [if_neg h2] at h
    by_cases h3:x.kind=3
    ·simp [h3];omega
    ·rw [if_neg h3] at h;cases h
mutual
theorem xJ:∀ (x:GV),dR aE x=true->dR pS x=dR bX x
 | .mk k n s l,h=>by
  rw [bZ] at h ⊢;rw [bZ];simp only [Bool.and_eq_true] at h;rw [aEo h.1];exact congrArg _ (sG l h.2)
theorem sG:∀ (l:List GV),eO aE l=true->eO pS l=eO bX l
 | [],_=>by rw [dU,dU]
 | x :: xs,h=>by
  rw [dY] at h ⊢;rw [dY];simp only [Bool.and_eq_true] at h;rw [xJ x h.1,sG xs h.2]
end
theorem oQ (x:GV):eP x=eE x:=by
 have h:=aUe x 0 true;unfold eP eE;rw [h.2.1]
 cases ha:dR aE x
 ·rfl
 ·rw [ha] at h
  rw [h.2.2 rfl,xJ x ha,Int.zero_add,oO (sZ x),Bool.true_and]
theorem wU:∀ (l:List GV),lZ l=cQ l
 | []=>rfl
 | x :: xs=>by simp only [lZ,cQ];rw [oQ,wU xs]
theorem jW:ByteArray.empty.toList=[]:=by rw [ByteArray.toList_eq];rfl
theorem vF {s:ByteArray}(h:s.toList=[]):s=ByteArray.empty:=xE (by rw [h,jW])
def cM (x:GN):Bool:=decide (0<=x.kind) && decide (x.kind<=4) && (decide (x.kind=0) || decide (cH x.value bJ=0)) && (decide (x.kind=1) || (decide (x.lo=0) && decide (x.hi=0))) &&
 (decide (x.kind=2) || (decide (x.weights.length=0) && decide (x.labels.length=0))) && (decide (x.kind=3) || aY x.name) && (decide (x.kind=4) || decide (x.values.length=0)) &&
 ((!decide (x.kind=0) && !decide (x.kind=1)) || decide (x.kids.length=0))
def oV (x:GN):Bool :=
 if x.kind=2 then decide (1<=x.kids.length) && decide (x.kids.length<=256) && decide (x.weights.length=x.kids.length) && (decide (x.labels.length=0) || decide (x.labels.length=x.kids.length))
 else if x.kind=3 then (if aY x.name then decide (x.kids.length<=256) else decide (x.kids.length<=16) && decide (eP (.mk 3 0 x.name [])=0))
 else if x.kind=4 then pM x.values && decide (x.kids.length=x.values.length+1)
 else true
def dC (i:Int)(x:GN):Bool:=x.kids.all (fun z=>!fmK i z) && oV x
theorem aF8 (v:GV):qO v=decide (cH v bJ=0):=by
 rw [Bool.eq_iff_iff,decide_eq_true_iff]
 constructor
 ·intro h
  obtain ⟨k,n,s,l⟩:=v;have h':(decide (k=0) && decide (n=0) && aY s && !decide (0<l.length))=true:=h;simp only [Bool.and_eq_true,decide_eq_true_eq,Bool.not_eq_true',decide_eq_false_iff_not,aY,List.isEmpty_iff] at h';obtain ⟨⟨⟨rfl,rfl⟩,hs⟩,hl⟩:=h';rw [vF hs,List.eq_nil_of_length_eq_zero (Nat.eq_zero_of_not_pos hl)];exact pX _
 ·intro h
  rw [fK _ _ h];have h':(decide ((0:Int)=0) && decide ((0:Int)=0) && aY ByteArray.empty && !decide (0<([]:List GV).length))=true:=by rw [gQ jW];rfl
  exact h'
theorem aLy (s:ByteArray):decide (eP (.mk 3 0 s [])=0)=qD s:=by
 rw [oQ];unfold eE;rw [bZ,bZ,nJ];simp only [GV.kids,dU,fD,Bool.and_true];have h1:aE (.mk 3 0 s [])=qD s:=by simp [aE,GV.kind,GV.n,GV.s]
 have h2:bX (.mk 3 0 s [])=true:=by simp [bX,GV.kind,GV.kids]
 rw [h1,h2]
 cases qD s <;> simp
theorem aEi (i:Int)(x:GN):(cM x && dC i x)=eI i x:=by
 unfold cM dC eI fmA gT unA unB unC fmC fmS oV;rw [aF8,aLy];have hb:x.values.length=0->pM x.values=true:=fun h=>mZ U
 generalize x.kids.all (fun z=>!fmK i z)=bk;generalize decide (cH x.value bJ=0)=bz;generalize aY x.name=be;generalize qD x.name=bc;generalize pM x.values=bi at *;generalize x.weights.length=nw at *;generalize x.labels.length=nl at *;generalize x.values.length=nv at *;generalize x.kids.length=nk at *;generalize x.lo=lo at *;generalize x.hi=hi at *;generalize x.kind=k at *
 by_cases h4:k=4
 ·subst h4;clear hb;cases bk <;> cases bz <;> cases be <;> cases bc <;> cases bi <;> simp <;> (rw [Bool.eq_iff_iff];simp;try omega)
 by_cases h0:k=0
 ·subst h0;by_cases hv:nv=0
  ·have:=hb hv;subst this hv;cases bk <;> cases bz <;> cases be <;> cases bc <;> simp <;> (rw [Bool.eq_iff_iff];simp;try omega)
  ·cases bk <;> cases bz <;> cases be <;> cases bc <;> cases bi <;> simp [hv,show 0<nv by omega]
 by_cases h1:k=1
 ·subst h1;by_cases hv:nv=0
  ·have:=hb hv;subst this hv;cases bk <;> cases bz <;> cases be <;> cases bc <;> simp <;> (rw [Bool.eq_iff_iff];simp;try omega)
  ·cases bk <;> cases bz <;> cases be <;> cases bc <;> cases bi <;> simp [hv,show 0<nv by omega]
 by_cases h2:k=2
 ·subst h2;by_cases hv:nv=0
  ·have:=hb hv;subst this hv;cases bk <;> cases bz <;> cases be <;> cases bc <;> simp <;> (rw [Bool.eq_iff_iff];simp;try omega)
  ·cases bk <;> cases bz <;> cases be <;> cases bc <;> cases bi <;> simp [hv,show 0<nv by omega]
 by_cases h3:k=3
 ·subst h3;by_cases hv:nv=0
  ·have:=hb hv;subst this hv;cases bk <;> cases bz <;> cases be <;> cases bc <;> simp <;> (rw [Bool.eq_iff_iff];simp;try omega)
  ·cases bk <;> cases bz <;> cases be <;> cases bc <;> cases bi <;> simp [hv,show 0<nv by omega]
 ·have hk:(decide (0<=k) && decide (k<=4))=false:=by
   rw [Bool.and_eq_false_iff];simp;omega
  have hk2:(decide (k<0) || decide (4<k))=true:=ab
  rw [hk];simp only [Bool.false_and];rw [Bool.or_assoc,hk2];simp
theorem wS {i:Int}{x:GN}(h:eI i x=true)(hk:x.kind=0):x.values=[]:=by
 rw [<- aEi] at h;unfold cM at h;simp [hk] at h;exact h.1.1.2
theorem aGz {i:Int}{x:GN}(h:eI i x=true):gG x=cQ (bT x):=by
 unfold gG bT
 by_cases hk:x.kind=0
 ·rw [if_pos hk,if_pos hk,wS h hk,oQ]
  simp only [cQ]
  split
  ·next h0=>exact h0
  ·rfl
 ·rw [if_neg hk,if_neg hk,wU]
theorem rM (i:Int)(x:GN):gV i x=if (cM x && dC i x)=false then 1 else if gG x=0 then (if bF x then 0 else 5) else gG x:=by
 unfold gV;rw [aEi]
 cases h:eI i x
 ·rfl
 ·rw [aGz h]
def qI (t:List GN):Prop:=∀ x ∈ t,gsz x.value<=1000000
mutual
theorem yK:∀ (x:GV),gsz x<=1000000000->rsz x=gsz x
 | .mk k n s l,h=>by
  simp only [gsz] at h ⊢;rw [nJ];simp only [GV.kids];rw [aAc l 1 U U];omega
theorem aAc:∀ (l:List GV)(n:Int),1<=n->n+kH l<=1000000001->xQ n l=n+kH l
 | [],n,_,_=>by rw [fD];simp [kH]
 | x :: xs,n,h0,h=>by
  simp only [kH] at h ⊢;rw [gD,yK x U,oO aj,aAc xs _ U U];omega
end
theorem aLf (x:GV):1<=gsz x:=by obtain ⟨k,n,s,l⟩:=x;simp only [gsz];omega
theorem wM {before:List Int}:∀ {zs:List Int}{s:Int},(∀ z ∈ zs,1<=before.getD z.toNat 0∧before.getD z.toNat 0<=1024)->0<=s->s+1024*zs.length<=1000000000->s<=dG before s zs
 | [],s,_,_,_=>by simp [dG]
 | z :: zs,s,h,h0,hs=>by
  have hz:=h z Y;simp only [List.length_cons] at hs;simp only [dG];rw [oO aj];have:=wM (before:=before) (zs:=zs) (s:=s+before.getD z.toNat 0) (fun y hy=>h y ao) U U;omega
def fO (before:List Int)(x:GN):Int :=
 if x.kind=0 then rsz x.value else if x.kind=3 then dG before 1 x.kids else if x.kind=2 then aW before true 0 1 x.kids else if x.kind=4 then aW before false 0 1 x.kids else 1
theorem lW {before:List Int}{ch:Bool}:∀ (zs:List Int)(i:Nat)(m n:Int),m<=n->(n<=aW before ch i m zs->aW before ch i n zs=aW before ch i m zs)∧(aW before ch i m zs<n->aW before ch i n zs=n)
 | [],i,m,n,h=>by simp only [aW];exact ⟨fun hh=>by omega,fun _=>trivial⟩
 | z :: zs,i,m,n,h=>by
  simp only [aW];generalize before.getD z.toNat 0=y
  by_cases hc:ch=true∨0<i
  ·simp only [if_pos hc]
   by_cases h1:n<y
   ·rw [if_pos h1,if_pos (by omega:m<y)]
    have hy:=(eW (before:=before) (ch:=ch) zs (i+1) y).1;exact ⟨fun _=>rfl,fun hh=>by omega⟩
   ·rw [if_neg h1]
    exact lW zs (i+1) _ n (by split <;> omega)
  ·simp only [if_neg hc]
   exact lW zs (i+1) m n h
theorem jO {t:List GN}{j:Nat}(hj:j<t.length){z:Int}(hz:0<=z∧z<(j:Int)):(bK (t.take j)).getD z.toNat 0=(bK t).getD z.toNat 0:=by
 unfold bK;rw [gJ jH t j U];have:z.toNat<j:=by omega
 simp [List.getD,this]
theorem lO {t:List GN}{j:Nat}(hj:j<t.length):(bK t).getD j 0=jH (bK (t.take j)) (t.getD j default):=oI jH 0 t hj
theorem oU {before:List Int}{j:Nat}{x:GN}(hn:dJ j x)(hb:∀ z:Int,0<=z->z<j->1<=before.getD z.toNat 0) :
  fO before x=jH before x∨(x.kind=4∧x.values=[]∧fO before x=1∧jH before x=0):=by
 unfold fO jH
 by_cases h0:x.kind=0
 ·left;simp [h0]
 ·by_cases h1:x.kind=1
  ·left;simp [h1]
  ·by_cases h3:x.kind=3
   ·left;simp [h3]
   ·by_cases h2:x.kind=2
    ·left
     simp only [h2];have hc:=hn.choice h2;have hk:=hn.kids _ (aF (d:=0) (show 0<x.kids.length by omega));have hg:=(eW (before:=before) (ch:=true) x.kids 0 0).2 0 U (.inl rfl);have h5:=hb _ hk.1 hk.2;have:=(lW (before:=before) (ch:=true) x.kids 0 0 1 U).1 U
     simpa using this
    ·have hk4:x.kind=4:=by have:=hn.kind;omega
     simp only [hk4];have hl:=hn.bind hk4
     by_cases hv:x.values=[]
     ·right
      rw [hv] at hl;simp only [List.length_nil] at hl;obtain ⟨z,hz⟩:∃ z,x.kids=[z]:=List.length_eq_one_iff.1 hl;rw [hz];simp [aW,hv]
     ·left
      have hvl:0<x.values.length:=List.length_pos_iff.2 hv;have hk:=hn.kids _ (aF (d:=0) (show 1<x.kids.length by omega));have hg:=(eW (before:=before) (ch:=false) x.kids 0 0).2 1 U (.inr U);have h5:=hb _ hk.1 hk.2;have:=(lW (before:=before) (ch:=false) x.kids 0 0 1 U).1 U
      simpa using this
theorem sR {t:List GN}{i:Nat}(h:bD t i)(hs:qI t):∀ j,j<i->1<=(bK t).getD j 0∧(bK t).getD j 0<=1024:=by
 intro j
 induction j using Nat.strongRecOn with
 | ind j ih =>
  intro hj;have hc:=h.at_ hj;have hlt:j<t.length:=by have:=h.1;omega
  refine ⟨?_,hc.size⟩;have hn:=hc.node
  have hk:∀ z:Int,0<=z->z<(j:Int)->1<=(bK (t.take j)).getD z.toNat 0∧(bK (t.take j)).getD z.toNat 0<=1024:=fun z h1 h2=>by
   rw [jO hlt ⟨h1,h2⟩];exact ih z.toNat U U
  have hf:=fE h hj;have hv:=hs _ (aF (d:=default) hlt);rw [lO hlt];generalize t.getD j default=x at *;have hp:=oU hn (fun z h1 h2=>(hk z h1 h2).1);have hne:x.kind=4->x.values ≠ []:=fun h4 hv=>by have:=hf.2.2 h4;rw [hv] at this;simp at this
  have hz:∀ z ∈ x.kids,1<=(bK (t.take j)).getD z.toNat 0∧(bK (t.take j)).getD z.toNat 0<=1024:=fun z hz=>hk z (hn.kids z hz).1 (hn.kids z hz).2
  generalize bK (t.take j)=before at *;rcases hp with hp | ⟨h4,hv,_⟩
  ·rw [<- hp]
   unfold fO
   split
   ·rw [yK _ U];have:=aLf x.value;omega
   ·split
    ·exact wM hz U U
    ·split
     ·exact (eW x.kids 0 1).1
     ·split
      ·exact (eW x.kids 0 1).1
      ·exact Int.le_refl _
  ·exact absurd hv (hne h4)
end Go.Proofs.YtkoeecdjijfjnaaGreat
