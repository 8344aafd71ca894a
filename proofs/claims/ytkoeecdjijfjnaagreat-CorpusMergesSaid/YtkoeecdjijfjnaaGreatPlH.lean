/- Contracts of functions, plain laws. Conditions: none. -/
import Derived.Test.YtkoeecdjijfjnaaGreatE5
set_option maxRecDepth 100000
set_option maxHeartbeats 8000000
namespace Go.Proofs.YtkoeecdjijfjnaaGreat
open Go.RowKit
theorem lB {before:List GL}{bind:Bool}:∀ (zs:List Int)(k:Nat)(out:List GV),iY before bind k out true zs=⟨[],true⟩
 | [],_,_=>by simp [iY]
 | z :: zs,k,out=>by
  simp only [iY]
  split
  ·exact lB zs _ _
  ·simp only [Bool.true_or];exact lB zs _ _
theorem oG {before:List GL}{bind:Bool}:∀ (zs:List Int)(k:Nat)(out:List GV),(∀ z ∈ zs,LOK (before.getD z.toNat default))->Inc out->¬ (bind=true∧k=0)->iY before bind k out false zs=xD before out zs
 | [],_,_,_,_,_=>by simp [iY,xD]
 | z :: zs,k,out,hz,ho,hb=>by
  have hl:=hz z U;simp only [iY,xD];rw [if_neg hb,yH ho hl.inc];simp only [Bool.false_or]
  cases e:(before.getD z.toNat default).many
  ·simp only [Bool.false_or,Bool.false_eq_true,if_false]
   by_cases h:1024<(eO (out ++ (before.getD z.toNat default).vals)).length
   ·rw [aZy h,lB,if_pos h]
   ·rw [aZz h,if_neg h]
    exact oG zs (k+1) _ (fun y hy=>hz y ap) (jF _) D
  ·simp only [Bool.true_or,if_true]
   exact lB zs _ _
theorem aBq {before:List GL}{x:GN}(hz:∀ z ∈ x.kids,LOK (before.getD z.toNat default)):qM before x=uW x before:=by
 unfold qM uW
 split
 ·next h=>rw [h]
 ·next rows h =>
  rw [h];obtain ⟨a,_,_,_⟩:=mF x.kids [[]] 0 hz (List.pairwise_singleton _ _) U U U rows h
  show _=GL.mk (eO (rows.map (bZ x.name))) false
  rw [nO (vT x.name a)]
theorem aEj {t:List GN}{i:Nat}(hg:bD t (i+1)):(aG t).getD i default=cH (aG t) (t.getD i default):=by
 have hit:i<t.length:=by have:=hg.1;omega
 have hn:=(hg.at_ (j:=i) D).node;have hk:∀ z ∈ (t.getD i default).kids,(aG (t.take i)).getD z.toNat default=(aG t).getD z.toNat default:=fun z hz=>gJ hit (hn.kids z hz)
 have hsq:∀ (zs:List Int) (rows:List (List GV)),(∀ z ∈ zs,(aG (t.take i)).getD z.toNat default=(aG t).getD z.toNat default)->bQ (aG (t.take i)) rows zs=bQ (aG t) rows zs:=by
  intro zs
  induction zs with
  | nil=>intro rows _;rfl
  | cons z zs ih=>intro rows h;simp only [bQ];rw [h z U];split;rfl;exact ih _ (fun y hy=>h y ap)
 have hun:∀ (bind:Bool) (zs:List Int) (k:Nat) (out:List GV) (m:Bool),(∀ z ∈ zs,(aG (t.take i)).getD z.toNat default=(aG t).getD z.toNat default)->iY (aG (t.take i)) bind k out m zs=iY (aG t) bind k out m zs:=by
  intro bind zs
  induction zs with
  | nil=>intro k out m _;rfl
  | cons z zs ih =>
   intro k out m h;simp only [iY];rw [h z U]
   split
   ·exact ih _ _ _ (fun y hy=>h y ap)
   ·exact ih _ _ _ (fun y hy=>h y ap)
 rw [iJ hit];unfold cH
 split
 ·rfl
 ·split
  ·rfl
  ·split
   ·unfold uW
    rw [hsq _ _ hk]
   ·exact hun _ _ _ _ _ hk
theorem bM.tail {w:World}{P:Nat->Prop}{b off c:Nat}{z:Int}{l:List Int}(h:bM w P (.slice (some ⟨b,off,none⟩) (l.length+1) c) (z :: l)):bM w P (.slice (some ⟨b,off+1,none⟩) l.length (c - 1)) l:=by
 obtain ⟨A,c',e,h1,h2,h3,h4⟩:=h;injection e with e1 e2 e3;subst e1 e3;have h5:=h4.drop (k:=1) U;simp only [List.length_cons,Nat.add_sub_cancel,List.map_cons,List.drop_succ_cons,List.drop_zero,Nat.one_mul] at h5;simp only [List.length_cons] at h1 h2;exact ⟨_,c - 1,rfl,D,D,fun y hy=>h3 y ap,h5⟩
def aF7 (lo:Int)(N:Nat)(w:World)(v n:Value)(wr:World):Prop :=
 ∃ (k:Nat) (xs:List Value),k<=N∧n=.int .i64 (lo+k)∧wr.ownsRow w.heap.size 85 4 v k xs∧RVs wr (fun _=>False) (eD lo k) xs∧Ext w wr
theorem aE1 (t:List GN)(vn:Value)(f:Nat)(hO:aAz t vn f):uD t vn (f+1):=by
 intro g i w hif hg hs;have HG:=aZv hg;have HS:=aZv hs;have hit:i<t.length:=by have:=hg.1;omega
 have hi4:t.length<=4096:=hg.2.1;have HOK:=aZv (hg.at_ (j:=i) D).node;have HLL:=aZv (aEj hg);have HFEW:=aZv (eZ hg (j:=i) D);have HLOK:=aZv (show ∀ z ∈ (t.getD i default).kids,LOK ((aG t).getD z.toNat default) from fun z hz=>by have h:=HOK.out.kids z hz;exact lM hg z.toNat D);obtain ⟨kn,ls,ms,h⟩:=hs;have hnd:=h.nodes;have HBX:=aZv h.box;obtain ⟨An,cn,en,hn1,hn2⟩:=hnd.form;subst en;obtain ⟨b1,o1,a1,rfl,hb1,ha1,hc1⟩:=hnd.get hit;have HB1:=aZv hb1;have b0:=HBX.out.cell' (u:=.slice (some ⟨b1,o1,none⟩) t.length cn) 0 rfl;have HA:=aZv ha1;have HC:=aZv hc1;have c0:=hc1.c0;have hi0:(0:Int)<=(i:Int):=by omega
 have hi1:(i:Int)<(t.length:Int):=D
 have lb1:=hc1.lt;clear hg hnd hc1 ha1 hb1 h;generalize t.getD i default=x at *;have hkd:=HOK.out.kind;rw [HLL.out]
 by_cases k0:x.kind=0
 ·have t0:(x.kind == 0)=true:=aZx k0
  have HR:=aZv (show cH (aG t) x=⟨[x.value],false⟩ by unfold cH;rw [if_pos k0]);have c8:=HC.out.c8;have c9:=HC.out.c9;have c10:=HC.out.c10;have c11:=HC.out.c11;clear k0;go_enter Tryz.func181,Tryz.ntmps181;go_wp2_with fail;go_ret2;rw [HR.out];refine ⟨some ⟨w.heap.size,0,none⟩,1,rfl,?_,Fr.of_ext ((Ext.refl w).alloc' _),HS.out.ext ((Ext.refl w).alloc' _)⟩;refine ⟨some ⟨w.heap.size,0,none⟩,1,cellsOf x.value a1.xA a1.xc,rfl,U,U,⟨rfl,fun _=>⟨w.heap.size,0,rfl,HS.out.newQ (Nat.le_refl _),fun j u hu=>pV _ _ _ _ _ _ U (by simpa [cellsOf] using hu)⟩⟩,RVs.one (HA.out.value.ext ((Ext.refl w).alloc' _)).rv⟩
 have t0:(x.kind == 0)=false:=aZw k0
 by_cases k1:x.kind=1
 ·have t1:(x.kind == 1)=true:=aZx k1
  have HR:=aZv (show cH (aG t) x=if 1024<=x.hi - x.lo then ⟨[],true⟩ else ⟨eD x.lo (x.hi - x.lo+1).toNat,false⟩ by unfold cH;rw [if_neg k0,if_pos k1]);have hnum:=cV HOK.out.numbers;have c2:=HC.out.c2;have c3:=HC.out.c3;have hwr:IntKind.i64.wrap (x.hi - x.lo)=x.hi - x.lo:=IntWalk.i64_in _ D;clear k0 k1
  by_cases hbig:1024<=x.hi - x.lo
  ·have tb:decide (1024<=x.hi - x.lo)=true:=aZy hbig
   have HR2:=aZv (HR.out.trans (if_pos hbig));go_enter Tryz.func181,Tryz.ntmps181;go_wp2_with fail;go_quiet (fail);go_wp2_with fail;go_ret2;rw [HR2.out];exact iL.none_ (Fr.of_ext ((Ext.refl w).drewN' _)) (HS.out.ext ((Ext.refl w).drewN' _))
  ·have tb:decide (1024<=x.hi - x.lo)=false:=aZz hbig
   have HR2:=aZv (HR.out.trans (if_neg hbig));obtain ⟨N,hN⟩:∃ N:Nat,x.hi - x.lo+1=N:=⟨(x.hi - x.lo+1).toNat,D⟩;have HN:=aZv hN;have hhi1:x.lo+N<=x.hi+1:=by omega
   have hhi2:x.hi+1<=x.lo+N:=D
   have hN2:N<=1024:=D
   clear hN;obtain ⟨i0,hi,hz0,hz1,hz2⟩:=info_parts Tryz.info85;have HI:=aZv hi;clear hi;go_enter Tryz.func181,Tryz.ntmps181;go_wp2_with fail;go_quiet (fail);clear hwr;go_wp2_with fail;go_loopw [7,8] (fun v n wr=>aF7 x.lo N w v n wr) (fun _ n _=>(x.hi+1 - intOf n).toNat)
   case atStart=>exact ⟨0,[],Nat.zero_le _,U,aT _ _ _ _,rfl,(Ext.refl w).drewN' _⟩
   case round =>
    obtain ⟨k,xs,hk,rfl,hown,hrv,hx⟩:=hrel;have HOWN:=aZv hown;have HRV:=aZv hrv;have HX:=aZv hx;have hsz:=hx.size;clear c0 c2 c3;have c3:=(HC.out.ext hx).c3;clear hown hrv hx
    by_cases hlt:k<N
    ·have tl:decide (x.lo+(k:Int)<=x.hi)=true:=aZy D
     go_wp2_with (at_builtin;go_must (refine aM _ rfl (.tmp 50) (.tmp 53) 83 ac w.heap.size 85 i0 _ 4 56 Tryz.underlying83 HI.out hz0 hz1 hz2 rfl D u7 _ _ rfl (HOWN.out.alloc _) (fun _=>True) (some ⟨wr.heap.size,0,none⟩) 1 1 [.int .i64 0,.int .i64 (x.lo+k),.string ByteArray.empty,.slice none 0 0] rfl (Sl.new _ _ _ _ _ rfl) af D D aa ?_);intro v2 w2 ho2 hbl2);go_roundw
     case rel =>
      have hx2:Below w.heap.size wr w2:=((Below.refl _ wr).alloc hsz _).trans hbl2;refine ⟨k+1,_,D,aa,ho2,?_,HX.out.trans hx2⟩;rw [oR];exact RVs.append (RVs.carry (fun b _ h=>h.elim) (fun _ _ h=>h) HRV.out) (RVs.one (aLo _ _ ak))
     case measure=>simp [intOf];omega
    ·have tl:decide (x.lo+(k:Int)<=x.hi)=false:=aZz D
     have hkN:k=N:=D
     have HKN:=aZv hkN;clear hkN;obtain ⟨A2,c2,e2,-,-,-⟩:=Sl.of_own HOWN.out;subst e2;have HEQ:=aZv (show cH (aG t) x=⟨eD x.lo k,false⟩ by rw [HR2.out,HKN.out,HN.out];simp);go_wp2_with fail;go_ret2;rw [HEQ.out];refine ⟨A2,c2,by rw [dO];rfl,?_,Fr.of_ext HX.out,HS.out.ext HX.out⟩;rw [dO];exact bW.of_own (HOWN.out.len_cast (dO _ _).symm rfl) (RVs.carry (fun _ _ _=>rfl) (fun _ _ h=>h.elim) HRV.out) (by rw [dO];omega) (fun b hb=>HS.out.newQ (HOWN.out.block_ge hb))
 have t1:(x.kind == 1)=false:=aZw k1;have HGI:=aZv (HG.out.mono (j:=i) D)
 by_cases k3:x.kind=3
 ·have t2:(x.kind == 2)=false:=aZw D
  have t3:(x.kind == 3)=true:=aZx k3;have HR:=aZv (show cH (aG t) x=qM (aG t) x by rw [aBq HLOK.out];unfold cH;rw [if_neg k0,if_neg k1,if_pos k3]);clear k0 k1 k3;go_enter Tryz.func181,Tryz.ntmps181;go_wp2_with fail;refine (xZ t _ g f i hO x a1 b1 (o1+i*12) w HA.out HC.out HB1.out HOK.out.kids D (by have:=HFEW.out.1;omega) HGI.out HS.out).mono ?_;rintro e w1 ⟨A,c,rfl,hv,hf,hs1⟩;go_wp2_with fail;go_ret2;rw [HR.out];exact ⟨A,c,rfl,hv,hf,hs1⟩
 have hki:=HA.out.kids;have c7:=HC.out.c7;have hkc:=hki.le;generalize a1.kA=Ak at *;generalize a1.kc=kc at *
 by_cases k2:x.kind=2
 ·have t2:(x.kind == 2)=true:=aZx k2
  have HR:=aZv (show cH (aG t) x=xD (aG t) [] x.kids by rw [<- oG x.kids 0 [] HLOK.out Inc.nil (show ¬ (false=true∧0=0) by simp)];unfold cH;rw [if_neg k0,if_neg k1,if_neg k3,aZz D]);have HKI:=aZv hki;clear k0 k1 k3 k2 hki;go_enter Tryz.func181,Tryz.ntmps181;go_wp2_with fail;refine (uO t _ g f i hO x.kids _ w HKI.out HOK.out.kids D HGI.out HS.out).mono ?_;rintro e w1 ⟨A,c,rfl,hv,hf,hs1⟩;go_wp2_with fail;go_ret2;rw [HR.out];exact ⟨A,c,rfl,hv,hf,hs1⟩
 have t2:(x.kind == 2)=false:=aZw k2;have t3:(x.kind == 3)=false:=aZw k3;have k4:x.kind=4:=by omega
 have hbd:=HOK.out.bind k4;have hv1:=HFEW.out.2.2 k4;have HKD:=aZv HOK.out.kids
 have HR:=aZv (show cH (aG t) x=xD (aG t) [] x.kids.tail by
  have e:cH (aG t) x=iY (aG t) true 0 [] false x.kids:=by unfold cH;rw [if_neg k0,if_neg k1,if_neg k3,aZy k4]
  rw [e];have hl:=HLOK.out
  cases hk:x.kids with
  | nil=>rw [hk] at hbd;simp at hbd
  | cons z zs =>
   rw [hk] at hl;rw [iY,if_pos ⟨rfl,rfl⟩];exact oG zs 1 [] (fun y hy=>hl y ap) Inc.nil D)
 obtain ⟨bk,ok,rfl,-,-,-⟩:=hki.get (i:=0) D
 have HKT:=aZv (show bM w g.Q (.slice (some ⟨bk,ok+1,none⟩) (x.kids.length - 1) (kc - 1)) x.kids.tail from by
  cases hk:x.kids with
  | nil=>rw [hk] at hbd;simp at hbd
  | cons z zs=>rw [hk] at hki;exact bM.tail hki)
 have hkc1:¬ kc=1:=D
 have hkc2:1<=kc:=D
 have hkl1:1<=x.kids.length:=D
 clear k0 k1 k3 k2 k4 hki hbd hv1;go_enter Tryz.func181,Tryz.ntmps181;go_wp2_with fail;refine (uO t _ g f i hO x.kids.tail _ w HKT.out (fun z hz=>HKD.out z (List.mem_of_mem_tail hz)) D HGI.out HS.out).mono ?_;rintro e w1 ⟨A,c,rfl,hv,hf,hs1⟩;go_wp2_with fail;go_ret2;rw [HR.out];exact ⟨A,c,rfl,hv,hf,hs1⟩
theorem aAf (t:List GN)(vn:Value):∀ f,uD t vn f
 | 0=>by intro g i w hf;omega
 | f+1=>aE1 t vn f (aD8 t vn f (aAf t vn f))
theorem aS1 (t:List GN)(vn:Value)(g:SA)(i:Nat)(w:World)(hg:bD t (i+1))(hs:bS t vn g w) :
  Calls Tryz.prog 137 #[.pointer (some ⟨g.s,0,none⟩),↑i] w (iL t vn g ((aG t).getD i default) w):=aD8 t vn (i+1) (aAf t vn (i+1)) g i w D hg hs
theorem Tryz.info4:(Tryz.prog.info? 4).map (fun i=>(i.zero,i.size,i.bytes))=some (some (.bool false),1,1):=Y
theorem fO (w:World)(o:Obj):(w.alloc o).heap.size=w.heap.size+1:=U
theorem rQ (w:World)(a o2 o3 o4:Obj)(cs:Array Value)(t:TypeId):Blk (((((w.alloc a).alloc (.cells cs t)).alloc o2).alloc o3).alloc o4).drew (w.heap.size+1) t cs :=
 ((((Blk.new' (w.alloc a) t cs (fO w a).symm).alloc _).alloc _).alloc _).drew
theorem rP (w:World)(a o2 o3 o4:Obj)(cs:Array Value)(t:TypeId):Blk (((((w.alloc a).alloc o2).alloc (.cells cs t)).alloc o3).alloc o4).drew (w.heap.size+1+1) t cs :=
 (((Blk.new' ((w.alloc a).alloc o2) t cs (by rw [fO,fO])).alloc _).alloc _).drew
theorem rO (w:World)(a o2 o3 o4:Obj)(cs:Array Value)(t:TypeId):Blk (((((w.alloc a).alloc o2).alloc o3).alloc (.cells cs t)).alloc o4).drew (w.heap.size+1+1+1) t cs :=
 ((Blk.new' (((w.alloc a).alloc o2).alloc o3) t cs (by rw [fO,fO,fO])).alloc _).drew
theorem rN (w:World)(a o2 o3 o4:Obj)(cs:Array Value)(t:TypeId):Blk (((((w.alloc a).alloc o2).alloc o3).alloc o4).alloc (.cells cs t)).drew (w.heap.size+1+1+1+1) t cs :=
 (Blk.new' ((((w.alloc a).alloc o2).alloc o3).alloc o4) t cs (by rw [fO,fO,fO,fO])).drew
def aFz (t:List GN)(vn:Value)(X:Nat->Prop)(w:World)(e:Ending)(w':World):Prop :=
 ∃ g:SA,e=.returned (.pointer (some ⟨g.s,0,none⟩))∧g.X=X∧bS t vn g w'∧Ext w w'∧w.heap.size<=g.s∧w.heap.size<=g.k∧w.heap.size<=g.l∧w.heap.size<=g.m
theorem gD {t:List GN}{vn:Value}{P X:Nat->Prop}{w w':World}{gs gk gl gm:Nat}(hx:Ext w w')(ht:Nds w P vn t)(hPX:∀ b,P b->¬ X b)(hX:∀ b,X b->b<w.heap.size)(h1:w.heap.size<=gs)(h2:w.heap.size<=gk)(h3:w.heap.size<=gl)(h4:w.heap.size<=gm)
  (n1:gs ≠ gk)(n2:gs ≠ gl)(n3:gs ≠ gm)(n4:gk ≠ gl)(n5:gk ≠ gm)(n6:gl ≠ gm)
  (hs:Blk w' gs 198 #[vn,.slice (some ⟨gk,0,none⟩) t.length t.length,.slice (some ⟨gl,0,none⟩) t.length t.length,.slice (some ⟨gm,0,none⟩) t.length t.length])
  (hk:Blk w' gk 4 (madeCells #[.bool false] t.length))(hl:Blk w' gl 83 (madeCells #[.slice none 0 0] t.length))(hm:Blk w' gm 4 (madeCells #[.bool false] t.length)) :
  aFz t vn X w (.returned (.pointer (some ⟨gs,0,none⟩))) w':=by
 rw [gA] at hk hl hm;have hQ:∀ b,b<w.heap.size->P b->(SA.mk gs gk gl gm X).Q b:=fun b hb hp=>⟨fun h=>by rcases h with h | h | h <;> (simp only at h;omega),hPX b hp⟩
 refine ⟨⟨gs,gk,gl,gm,X⟩,rfl,rfl,⟨List.replicate t.length false,List.replicate t.length (.slice none 0 0),List.replicate t.length false,n1,n2,n3,n4,n5,n6,U,U,U,hs,by rw [List.map_replicate];exact hk,hl,by rw [List.map_replicate];exact hm,fun b hb=>by have:=hX b hb;have:=hx.size;omega,ht.carry (aB.of_ext hx) hQ,?_,?_⟩,hx,h1,h2,h3,h4⟩
 ·intro v hv
  rw [List.eq_of_mem_replicate hv];exact ⟨_,_,_,rfl⟩
 ·intro j hj h
  simp [List.getD,hj] at h
theorem oV (t:List GN)(P X:Nat->Prop)(vn:Value)(w:World)(ht:Nds w P vn t)(hPX:∀ b,P b->¬ X b)(hX:∀ b,X b->b<w.heap.size)(hlen:t.length<=100000) :
  Calls Tryz.prog 87 #[.agg #[vn]] w (aFz t vn X w):=by
 have HT:=aZv ht;have HPX:=aZv hPX;have HX:=aZv hX;obtain ⟨An,cn,en,hn1,hn2⟩:=ht.form;subst en;obtain ⟨i4,hi4,hz40,hz41,hz42⟩:=info_parts Tryz.info4;obtain ⟨i1,hi',hz0',hz1',hz2'⟩:=info_parts Tryz.info83
 have hmk1:∀ W:World,(Instr.makeSlice 196 (.int .i64 (t.length:Int)) (.int .i64 (t.length:Int))).run Tryz.prog W=.ok (.slice (some ⟨W.heap.size,0,none⟩) t.length t.length) (W.alloc (.cells (madeCells #[.slice none 0 0] t.length) 83)):=by
  intro W;have h:=run_make (P:=Tryz.prog) W 196 83 i1 _ Tryz.underlying196 hi' hz0' .i64 .i64 (t.length:Int) (t.length:Int) D (Int.le_refl _) (by rw [hz2'];omega) D;rw [hz1',Nat.mul_one] at h;rw [h]
  rfl
 have hmk2:∀ W:World,(Instr.makeSlice 195 (.int .i64 (t.length:Int)) (.int .i64 (t.length:Int))).run Tryz.prog W=.ok (.slice (some ⟨W.heap.size,0,none⟩) t.length t.length) (W.alloc (.cells (madeCells #[.bool false] t.length) 4)):=by
  intro W;have h:=run_make (P:=Tryz.prog) W 195 4 i4 _ Tryz.underlying195 hi4 hz40 .i64 .i64 (t.length:Int) (t.length:Int) D (Int.le_refl _) (by rw [hz42];omega) D;rw [hz41,Nat.mul_one] at h;rw [h]
  rfl
 clear ht hPX hX hi4 hi' hz40 hz41 hz42 hz0' hz1' hz2' i4 i1;go_enter Tryz.func87,Tryz.ntmps87;go_wp2_with fail;go_region
 all_goals (go_wp2_with fail)
 all_goals (go_ret)
 all_goals (show aFz _ _ _ _ (.returned (.pointer (some ⟨w.heap.size+1+1+1+1,0,none⟩))) _)
 all_goals first
  | exact gD (gs:=w.heap.size+1+1+1+1) (gk:=w.heap.size+1) (gl:=w.heap.size+1+1) (gm:=w.heap.size+1+1+1) (((((((Ext.refl w).alloc' _).alloc' _).alloc' _).alloc' _).alloc' _).drew') HT.out HPX.out HX.out D D D D D D D D D D (rN w _ _ _ _ _ _) (rQ w _ _ _ _ _ _) (rP w _ _ _ _ _ _) (rO w _ _ _ _ _ _)
  | exact gD (gs:=w.heap.size+1+1+1+1) (gk:=w.heap.size+1) (gl:=w.heap.size+1+1+1) (gm:=w.heap.size+1+1) (((((((Ext.refl w).alloc' _).alloc' _).alloc' _).alloc' _).alloc' _).drew') HT.out HPX.out HX.out D D D D D D D D D D (rN w _ _ _ _ _ _) (rQ w _ _ _ _ _ _) (rO w _ _ _ _ _ _) (rP w _ _ _ _ _ _)
  | exact gD (gs:=w.heap.size+1+1+1+1) (gk:=w.heap.size+1+1) (gl:=w.heap.size+1) (gm:=w.heap.size+1+1+1) (((((((Ext.refl w).alloc' _).alloc' _).alloc' _).alloc' _).alloc' _).drew') HT.out HPX.out HX.out D D D D D D D D D D (rN w _ _ _ _ _ _) (rP w _ _ _ _ _ _) (rQ w _ _ _ _ _ _) (rO w _ _ _ _ _ _)
  | exact gD (gs:=w.heap.size+1+1+1+1) (gk:=w.heap.size+1+1) (gl:=w.heap.size+1+1+1) (gm:=w.heap.size+1) (((((((Ext.refl w).alloc' _).alloc' _).alloc' _).alloc' _).alloc' _).drew') HT.out HPX.out HX.out D D D D D D D D D D (rN w _ _ _ _ _ _) (rP w _ _ _ _ _ _) (rO w _ _ _ _ _ _) (rQ w _ _ _ _ _ _)
  | exact gD (gs:=w.heap.size+1+1+1+1) (gk:=w.heap.size+1+1+1) (gl:=w.heap.size+1) (gm:=w.heap.size+1+1) (((((((Ext.refl w).alloc' _).alloc' _).alloc' _).alloc' _).alloc' _).drew') HT.out HPX.out HX.out D D D D D D D D D D (rN w _ _ _ _ _ _) (rO w _ _ _ _ _ _) (rQ w _ _ _ _ _ _) (rP w _ _ _ _ _ _)
  | exact gD (gs:=w.heap.size+1+1+1+1) (gk:=w.heap.size+1+1+1) (gl:=w.heap.size+1+1) (gm:=w.heap.size+1) (((((((Ext.refl w).alloc' _).alloc' _).alloc' _).alloc' _).alloc' _).drew') HT.out HPX.out HX.out D D D D D D D D D D (rN w _ _ _ _ _ _) (rO w _ _ _ _ _ _) (rP w _ _ _ _ _ _) (rQ w _ _ _ _ _ _)
def lO:List GV->Int
 | []=>0
 | v :: vs=>if eQ v=0 then lO vs else eQ v
def gI (x:GN):Int:=if x.kind=0 then eQ x.value else lO x.values
def aFw (l:List GV)(W:World)(k:Value)(wr:World):Prop:=∃ j:Nat,j<=l.length∧k=↑j∧Ext W wr∧lO l=lO (l.drop j)
theorem sA (x:GN)(a:NA)(b o:Nat)(P:Nat->Prop)(w:World)(hP:∀ b,P b->b<w.heap.size)(hn:bX w b o x a)(hx:NAt w P x a) :
  Calls Tryz.prog 90 #[.pointer (some ⟨b,o,none⟩)] w (cT (.int .i64 (gI x)) w):=by
 have HX:=aZv hx;have HP:=aZv hP;have HS:=aZv (show gI x=if x.kind=0 then eQ x.value else lO x.values from rfl);have c0:=hn.c0;have c6:=hn.c6;have c8:=hn.c8;have c9:=hn.c9;have c10:=hn.c10;have c11:=hn.c11;obtain ⟨hvl1,hvl2⟩:=hx.values.le;clear hx hn hP
 by_cases hk:x.kind=0
 ·have t0:(x.kind == 0)=true:=aZx hk
  have HK:=aZv hk;clear hk;go_enter Tryz.func90,Tryz.ntmps90;go_wp2_with fail;refine (gE x.value a.xA a.xc P w HP.out HX.out.value).mono ?_;rintro e w1 ⟨rfl,hx1⟩;have HX1:=aZv hx1;clear hx1;go_wp2_with fail;go_ret;exact ⟨aL (by rw [HS.out,if_pos HK.out]),HX1.out⟩
 ·have t0:(x.kind == 0)=false:=aZw hk
  have HN:=aZv (HS.out.trans (if_neg hk));have HVL:=aZv HX.out.values;clear hk HX HS c8 c9 c10 c11;generalize a.vA=Av at *;generalize a.vc=cv at *;go_enter Tryz.func90,Tryz.ntmps90;go_wp2_with fail;go_loopw [21] (fun k wr=>aFw x.values w k wr) (fun k _=>x.values.length - (intOf k).toNat)
  case atStart=>exact ⟨0,Nat.zero_le _,rfl,Ext.refl _,rfl⟩
  case round =>
   obtain ⟨j,hj,rfl,hxr,ht⟩:=hrel;have HT:=aZv ht;have HXR:=aZv hxr;clear ht hxr
   by_cases hlt:j<x.values.length
   ·obtain ⟨b1,o1,A1,d1,rfl,-,hv1,g10,g11,g12,g13⟩:=(HVL.out.ext HXR.out).get hlt
    have HD:=aZv (show lO x.values=if eQ (x.values.getD j default)=0 then lO (x.values.drop (j+1)) else eQ (x.values.getD j default) by
     rw [HT.out,aF default hlt];rfl)
    have HV1:=aZv hv1;clear hv1;generalize x.values.getD j default=y at *;go_wp2_with fail;refine (gE y A1 d1 P _ (fun b hb=>by have h1:=HP.out b hb;have h2:=HXR.out.size;simp;omega) (HV1.out.ext ((Ext.refl _).alloc' _))).mono ?_;rintro e w4 ⟨rfl,hx4⟩;have HX4:=aZv ((HXR.out.alloc' _).trans' hx4);clear hx4
    by_cases hz:eQ y=0
    ·have HZ:=aZv hz
     have tz:(eQ y != 0)=false:=db
     clear hz;go_wp2_with fail;go_roundw
     case rel=>exact ⟨j+1,D,by go_num,HX4.out,ic⟩
     case measure=>simp [intOf];omega
    ·have tz:(eQ y != 0)=true:=bne_iff_ne.2 hz
     have HN2:=aZv (show gI x=eQ y by rw [HN.out,HD.out,if_neg hz]);clear hz;go_wp2_with fail;go_ret;exact ⟨aL HN2.out.symm,HX4.out⟩
   ·have HN2:=aZv (show gI x=0 by rw [HN.out,HT.out,drop_nil D];rfl)
    go_wp2_with fail;go_ret;exact ⟨aL HN2.out.symm,HXR.out⟩
theorem aGj {h l:Int}(h1:l<=h)(h2:-4611686018427387904<=l)(h3:h<=4611686018427387904):IntKind.u64.wrap (IntKind.u64.wrap h - IntKind.u64.wrap l)=h - l:=by
 simp only [IntKind.wrap,IntKind.bits,IntKind.signed];simp only [Bool.false_and,Bool.false_eq_true,if_false];omega
def aT7 (x:GN)(W:World)(i:Value)(wr:World):Prop:=∃ k:Nat,k<=x.weights.length∧i=↑k∧W=wr∧bJ x=(x.weights.drop k).all fP
theorem yO (x:GN)(a:NA)(b o:Nat)(P:Nat->Prop)(w:World)(hn:bX w b o x a)(hx:NAt w P x a) :
  Calls Tryz.prog 91 #[.pointer (some ⟨b,o,none⟩)] w (cT (.bool (bJ x)) w):=by
 have HX:=aZv hx;have HU:=aZv (show bJ x=(!uE x && x.weights.all fP) from rfl);obtain ⟨hl,hc⟩:=hx.weights.le;have hi1:=hx.lo;have hi2:=hx.hi;have HN:=aZv hn;have c2:=hn.c2;have c3:=hn.c3;unfold I64 at hi1 hi2;clear hx hn;go_enter Tryz.func91,Tryz.ntmps91;go_upto_region 1 with fail;go_cut [41] (fun s wx=>s=.bool (uE x)∧Ext w wx)
 case first =>
  by_cases ha1:x.hi<x.lo
  ·have t0a1:decide (x.hi<x.lo)=true:=aZy ha1
   go_quiet (fail);go_wp2_with fail;go_meet;exact ⟨congrArg Value.bool d8,Ext.drewN _ _⟩
  ·have t0a1:decide (x.hi<x.lo)=false:=aZz ha1
   by_cases ha2:x.lo < -4611686018427387904
   ·have t0a2:decide (x.lo < -4611686018427387904)=true:=aZy ha2
    go_quiet (fail);go_wp2_with fail;go_meet;exact ⟨congrArg Value.bool ar,Ext.drewN _ _⟩
   ·have t0a2:decide (x.lo < -4611686018427387904)=false:=aZz ha2
    by_cases ha3:4611686018427387904<x.hi
    ·have t0a3:decide (4611686018427387904<x.hi)=true:=aZy ha3
     go_quiet (fail);go_wp2_with fail;go_meet;exact ⟨congrArg Value.bool an,Ext.drewN _ _⟩
    ·have t0a3:decide (4611686018427387904<x.hi)=false:=aZz ha3
     go_quiet (fail);go_wp2_with fail;go_meet;rw [aGj D D D];refine ⟨congrArg Value.bool ?_,Ext.drewN _ _⟩;unfold uE;rw [(show decide (x.hi<x.lo)=false from aZz D),(show decide (x.lo < -4611686018427387904)=false from aZz D),(show decide (4611686018427387904<x.hi)=false from aZz D)];simp only [Bool.false_or];exact decide_eq_decide.2 D
 case rest =>
  obtain ⟨rfl,he⟩:=hcut;have HE:=aZv he;have hb4:=(HN.out.ext he).c4;have HW:=aZv (HX.out.weights.ext he);clear he c2 c3;generalize a.wA=Aw at *;generalize a.wc=cw at *;generalize uE x=bn at *
  cases bn
  ·have HU2:=aZv (show bJ x=(x.weights.drop 0).all fP by rw [HU.out];rfl)
   go_wp2_with fail;go_loopw [47] (fun i wr=>aT7 x wc i wr) (fun i _=>x.weights.length - (intOf i).toNat)
   case atStart=>exact ⟨0,Nat.zero_le _,rfl,rfl,HU2.out⟩
   case round =>
    obtain ⟨k,hk,rfl,rfl,ht⟩:=hrel;have HT:=aZv ht;clear ht
    by_cases hlt:k<x.weights.length
    ·obtain ⟨b1,o1,rfl,-,hv,g1⟩:=HW.out.get hlt
     have HD:=aZv (show bJ x=(fP (x.weights.getD k 0) && (x.weights.drop (k+1)).all fP) by rw [HT.out,aF 0 hlt];rfl);generalize x.weights.getD k 0=z at *;clear hv
     by_cases hz1:z<1
     ·have HN:=aZv (show fP z=false from aZz D)
      have tz1:decide (z<1)=true:=aZy hz1;go_wp2_with fail;go_ret;exact ⟨aC dz,HE.out⟩
     ·have tz1:decide (z<1)=false:=aZz hz1
      by_cases hz2:1000<z
      ·have HN:=aZv (show fP z=false from aZz D)
       go_wp2_with fail;go_ret;exact ⟨aC dz,HE.out⟩
      ·have tz2:decide (1000<z)=false:=aZz hz2
       have HN:=aZv (show fP z=true from aZy D);go_wp2_with fail;go_roundw
       case rel=>exact ⟨k+1,D,by go_num,rfl,dz⟩
       case measure=>simp [intOf];omega
    ·go_wp2_with fail
     go_ret;exact ⟨aC (by rw [HT.out,drop_nil D];rfl),HE.out⟩
  ·go_wp2_with fail
   go_ret;exact ⟨aC iw,HE.out⟩
theorem aGh (a b c:Int):wrap64 (wrap64 (a+b)+c)=wrap64 (a+wrap64 (b+c)):=by unfold wrap64;omega
theorem nL (a:Int):I64 (wrap64 a):=by unfold wrap64 I64;omega
theorem oB {a:Int}(h:I64 a):wrap64 a=a:=by unfold I64 at h;unfold wrap64;omega
theorem mG:∀ (l:List GV)(n m:Int),xE (wrap64 (n+m)) l=wrap64 (n+xE m l)
 | [],n,m=>by rw [fM,fM]
 | x :: xs,n,m=>by rw [gG,gG,aGh,mG xs n (wrap64 (m+rsz x))]
mutual
theorem aXw:∀ (x:GV)(n:Int),vis aGd n x=(wrap64 (n+rsz x),true)
 | .mk k n s l,m=>by
  rw [yZ,mU];simp only [aGd,if_true,GV.kids];rw [aQc l (wrap64 (m+1)),mG]
theorem aQc:∀ (l:List GV)(n:Int),qS aGd n l=(xE n l,true)
 | [],n=>by rw [nN,fM]
 | x :: xs,n=>by rw [kY,aXw x n];simp only [if_true];rw [aQc xs _,gG]
end
theorem aLx (x:GV):(vis aGd 0 x).1=rsz x:=by rw [aXw];show wrap64 (0+rsz x)=_;rw [Int.zero_add,oB (sK x)]
mutual
theorem aXv:∀ (x:GV)(n:Int)(m:Bool),(vis uX (n,true,m) x).2=dU aH x∧(vis uX (n,true,m) x).1.2.1=dU aH x∧(dU aH x=true->(vis uX (n,true,m) x).1=(wrap64 (n+rsz x),true,m && dU pI x))
 | .mk k n s l,a,m=>by
  rw [yZ,cC,cC,mU];simp only [uX,Bool.true_and,GV.kids]
  cases hf:aH (.mk k n s l)
  ·simp
  ·simp only [if_true,Bool.true_and]
   have h:=aQb l (wrap64 (a+1)) (m && pI (.mk k n s l));refine ⟨h.1,h.2.1,fun ha=>?_⟩;rw [h.2.2 ha,mG,Bool.and_assoc]
theorem aQb:∀ (l:List GV)(n:Int)(m:Bool),(qS uX (n,true,m) l).2=eP aH l∧(qS uX (n,true,m) l).1.2.1=eP aH l∧(eP aH l=true->(qS uX (n,true,m) l).1=(xE n l,true,m && eP pI l))
 | [],n,m=>by simp [nN,dY,fM]
 | x :: xs,n,m=>by
  have h:=aXv x n m;rw [kY,eC,eC,gG]
  cases ha:dU aH x
  ·rw [ha] at h;simp [h.1,h.2.1]
  ·rw [ha] at h
   have h3:=h.2.2 rfl;rw [h.1,if_pos rfl,h3];have k:=aQb xs (wrap64 (n+rsz x)) (m && dU pI x);simp only [Bool.true_and];refine ⟨k.1,k.2.1,fun hb=>?_⟩;rw [k.2.2 hb,Bool.and_assoc]
end
theorem aE0 {x:GV}(h:aH x=true):pI x=cA x:=by
 unfold aH at h;unfold pI cA;rw [Bool.eq_iff_iff]
 by_cases h0:x.kind=0
 ·rw [if_pos h0] at h;simp at h;simp [h0,h.2]
 ·rw [if_neg h0] at h
  by_cases h1:x.kind=1
  ·rw [if_pos h1] at h;simp at h;simp [h1,h.2]
  ·rw [if_neg h1] at h
   by_cases h2:x.kind=2
   ·simp [h2]
   ·rw [if_neg h2] at h
    by_cases h3:x.kind=3
    ·simp [h3];omega
    ·rw [if_neg h3] at h;cases h
mutual
theorem wW:∀ (x:GV),dU aH x=true->dU pI x=dU cA x
 | .mk k n s l,h=>by
  rw [cC] at h ⊢;rw [cC];simp only [Bool.and_eq_true] at h;rw [aE0 h.1];exact congrArg _ (rR l h.2)
theorem rR:∀ (l:List GV),eP aH l=true->eP pI l=eP cA l
 | [],_=>by rw [dY,dY]
 | x :: xs,h=>by
  rw [eC] at h ⊢;rw [eC];simp only [Bool.and_eq_true] at h;rw [wW x h.1,rR xs h.2]
end
theorem oF (x:GV):eQ x=eF x:=by
 have h:=aXv x 0 true;unfold eQ eF;rw [h.2.1]
 cases ha:dU aH x
 ·rfl
 ·rw [ha] at h
  rw [h.2.2 rfl,wW x ha,Int.zero_add,oB (sK x),Bool.true_and]
theorem wI:∀ (l:List GV),lO l=cQ l
 | []=>rfl
 | x :: xs=>by simp only [lO,cQ];rw [oF,wI xs]
theorem jQ:ByteArray.empty.toList=[]:=by rw [ByteArray.toList_eq];rfl
theorem uP {s:ByteArray}(h:s.toList=[]):s=ByteArray.empty:=wS (by rw [h,jQ])
def cK (x:GN):Bool:=decide (0<=x.kind) && decide (x.kind<=4) && (decide (x.kind=0) || decide (cE x.value bN=0)) && (decide (x.kind=1) || (decide (x.lo=0) && decide (x.hi=0))) &&
 (decide (x.kind=2) || (decide (x.weights.length=0) && decide (x.labels.length=0))) && (decide (x.kind=3) || aY x.name) && (decide (x.kind=4) || decide (x.values.length=0)) &&
 ((!decide (x.kind=0) && !decide (x.kind=1)) || decide (x.kids.length=0))
def oK (x:GN):Bool :=
 if x.kind=2 then decide (1<=x.kids.length) && decide (x.kids.length<=256) && decide (x.weights.length=x.kids.length) && (decide (x.labels.length=0) || decide (x.labels.length=x.kids.length))
 else if x.kind=3 then (if aY x.name then decide (x.kids.length<=256) else decide (x.kids.length<=16) && decide (eQ (.mk 3 0 x.name [])=0))
 else if x.kind=4 then pC x.values && decide (x.kids.length=x.values.length+1)
 else true
def dB (i:Int)(x:GN):Bool:=x.kids.all (fun z=>!fmK i z) && oK x
theorem aGg (v:GV):qE v=decide (cE v bN=0):=by
 rw [Bool.eq_iff_iff,decide_eq_true_iff]
 constructor
 ·intro h
  obtain ⟨k,n,s,l⟩:=v;have h':(decide (k=0) && decide (n=0) && aY s && !decide (0<l.length))=true:=h;simp only [Bool.and_eq_true,decide_eq_true_eq,Bool.not_eq_true',decide_eq_false_iff_not,aY,List.isEmpty_iff] at h';obtain ⟨⟨⟨rfl,rfl⟩,hs⟩,hl⟩:=h';rw [uP hs,List.eq_nil_of_length_eq_zero (Nat.eq_zero_of_not_pos hl)];exact lP _
 ·intro h
  rw [fT _ _ h];have h':(decide ((0:Int)=0) && decide ((0:Int)=0) && aY ByteArray.empty && !decide (0<([]:List GV).length))=true:=by rw [gT jQ];rfl
  exact h'
theorem aPh (s:ByteArray):decide (eQ (.mk 3 0 s [])=0)=pW s:=by
 rw [oF];unfold eF;rw [cC,cC,mU];simp only [GV.kids,dY,fM,Bool.and_true];have h1:aH (.mk 3 0 s [])=pW s:=by simp [aH,GV.kind,GV.n,GV.s]
 have h2:cA (.mk 3 0 s [])=true:=by simp [cA,GV.kind,GV.kids]
 rw [h1,h2]
 cases pW s <;> simp
theorem aEu (i:Int)(x:GN):(cK x && dB i x)=eH i x:=by
 unfold cK dB eH fmA fW unA unB unC fmC fmS oK;rw [aGg,aPh];have hb:x.values.length=0->pC x.values=true:=fun h=>mK D
 generalize x.kids.all (fun z=>!fmK i z)=bk;generalize decide (cE x.value bN=0)=bz;generalize aY x.name=be;generalize pW x.name=bc;generalize pC x.values=bi at *;generalize x.weights.length=nw at *;generalize x.labels.length=nl at *;generalize x.values.length=nv at *;generalize x.kids.length=nk at *;generalize x.lo=lo at *;generalize x.hi=hi at *;generalize x.kind=k at *
 by_cases h4:k=4
 ·subst h4;clear hb;cases bk <;> cases bz <;> cases be <;> cases bc <;> cases bi <;> simp <;> (rw [Bool.eq_iff_iff];simp;try omega)
 by_cases h0:k=0
 ·subst h0;by_cases hv:nv=0
  ·have:=hb hv;subst this hv;cases bk <;> cases bz <;> cases be <;> cases bc <;> simp <;> (rw [Bool.eq_iff_iff];simp;try omega)
  ·cases bk <;> cases bz <;> cases be <;> cases bc <;> cases bi <;> simp [hv,show 0<nv by omega]
 by_cases h1:k=1
 ·subst h1;by_cases hv:nv=0
  ·have:=hb hv;subst this hv;cases bk <;> cases bz <;> cases be <;> cases bc <;> simp <;> (rw [Bool.eq_iff_iff];simp;try omega)
  ·cases bk <;> cases bz <;> cases be <;> cases bc <;> cases bi <;> simp [hv,show 0<nv by omega]
 by_cases h2:k=2
 ·subst h2;by_cases hv:nv=0
  ·have:=hb hv;subst this hv;cases bk <;> cases bz <;> cases be <;> cases bc <;> simp <;> (rw [Bool.eq_iff_iff];simp;try omega)
  ·cases bk <;> cases bz <;> cases be <;> cases bc <;> cases bi <;> simp [hv,show 0<nv by omega]
 by_cases h3:k=3
 ·subst h3;by_cases hv:nv=0
  ·have:=hb hv;subst this hv;cases bk <;> cases bz <;> cases be <;> cases bc <;> simp <;> (rw [Bool.eq_iff_iff];simp;try omega)
  ·cases bk <;> cases bz <;> cases be <;> cases bc <;> cases bi <;> simp [hv,show 0<nv by omega]
 ·have hk:(decide (0<=k) && decide (k<=4))=false:=by
   rw [Bool.and_eq_false_iff];simp;omega
  have hk2:(decide (k<0) || decide (4<k))=true:=aa
  rw [hk];simp only [Bool.false_and];rw [Bool.or_assoc,hk2];simp
theorem wG {i:Int}{x:GN}(h:eH i x=true)(hk:x.kind=0):x.values=[]:=by
 rw [<- aEu] at h;unfold cK at h;simp [hk] at h;exact h.1.1.2
theorem aH9 {i:Int}{x:GN}(h:eH i x=true):gI x=cQ (bU x):=by
 unfold gI bU
 by_cases hk:x.kind=0
 ·rw [if_pos hk,if_pos hk,wG h hk,oF]
  simp only [cQ]
  split
  ·next h0=>exact h0
  ·rfl
 ·rw [if_neg hk,if_neg hk,wI]
theorem qZ (i:Int)(x:GN):gY i x=if (cK x && dB i x)=false then 1 else if gI x=0 then (if bJ x then 0 else 5) else gI x:=by
 unfold gY;rw [aEu]
 cases h:eH i x
 ·rfl
 ·rw [aH9 h]
def qQ (t:List GN):Prop:=∀ x ∈ t,gsz x.value<=1000000
mutual
theorem xT:∀ (x:GV),gsz x<=1000000000->rsz x=gsz x
 | .mk k n s l,h=>by
  simp only [gsz] at h ⊢;rw [mU];simp only [GV.kids];rw [zG l 1 D D];omega
theorem zG:∀ (l:List GV)(n:Int),1<=n->n+jD l<=1000000001->xE n l=n+jD l
 | [],n,_,_=>by rw [fM];simp [jD]
 | x :: xs,n,h0,h=>by
  simp only [jD] at h ⊢;rw [gG,xT x D,oB ak,zG xs _ D D];omega
end
theorem aO2 (x:GV):1<=gsz x:=by obtain ⟨k,n,s,l⟩:=x;simp only [gsz];omega
theorem vV {before:List Int}:∀ {zs:List Int}{s:Int},(∀ z ∈ zs,1<=before.getD z.toNat 0∧before.getD z.toNat 0<=1024)->0<=s->s+1024*zs.length<=1000000000->s<=bV before s zs
 | [],s,_,_,_=>by simp [bV]
 | z :: zs,s,h,h0,hs=>by
  have hz:=h z U;simp only [List.length_cons] at hs;simp only [bV];rw [oB ak];have:=vV (before:=before) (zs:=zs) (s:=s+before.getD z.toNat 0) (fun y hy=>h y ap) D D;omega
def fX (before:List Int)(x:GN):Int :=
 if x.kind=0 then rsz x.value else if x.kind=3 then bV before 1 x.kids else if x.kind=2 then aK before true 0 1 x.kids else if x.kind=4 then aK before false 0 1 x.kids else 1
theorem lL {before:List Int}{ch:Bool}:∀ (zs:List Int)(i:Nat)(m n:Int),m<=n->(n<=aK before ch i m zs->aK before ch i n zs=aK before ch i m zs)∧(aK before ch i m zs<n->aK before ch i n zs=n)
 | [],i,m,n,h=>by simp only [aK];exact ⟨fun hh=>by omega,fun _=>trivial⟩
 | z :: zs,i,m,n,h=>by
  simp only [aK];generalize before.getD z.toNat 0=y
  by_cases hc:ch=true∨0<i
  ·simp only [if_pos hc]
   by_cases h1:n<y
   ·rw [if_pos h1,if_pos (by omega:m<y)]
    have hy:=(eX (before:=before) (ch:=ch) zs (i+1) y).1;exact ⟨fun _=>rfl,fun hh=>by omega⟩
   ·rw [if_neg h1]
    exact lL zs (i+1) _ n (by split <;> omega)
  ·simp only [if_neg hc]
   exact lL zs (i+1) m n h
theorem jI {t:List GN}{j:Nat}(hj:j<t.length){z:Int}(hz:0<=z∧z<(j:Int)):(bO (t.take j)).getD z.toNat 0=(bO t).getD z.toNat 0:=by
 unfold bO;rw [gO fE t j D];have:z.toNat<j:=by omega
 simp [List.getD,this]
theorem lD {t:List GN}{j:Nat}(hj:j<t.length):(bO t).getD j 0=fE (bO (t.take j)) (t.getD j default):=nW fE 0 t hj
theorem oJ {before:List Int}{j:Nat}{x:GN}(hn:dL j x)(hb:∀ z:Int,0<=z->z<j->1<=before.getD z.toNat 0) :
  fX before x=fE before x∨(x.kind=4∧x.values=[]∧fX before x=1∧fE before x=0):=by
 unfold fX fE
 by_cases h0:x.kind=0
 ·left;simp [h0]
 ·by_cases h1:x.kind=1
  ·left;simp [h1]
  ·by_cases h3:x.kind=3
   ·left;simp [h3]
   ·by_cases h2:x.kind=2
    ·left
     simp only [h2];have hc:=hn.choice h2;have hk:=hn.kids _ (aD (d:=0) (show 0<x.kids.length by omega));have hg:=(eX (before:=before) (ch:=true) x.kids 0 0).2 0 D (.inl rfl);have h5:=hb _ hk.1 hk.2;have:=(lL (before:=before) (ch:=true) x.kids 0 0 1 D).1 D
     simpa using this
    ·have hk4:x.kind=4:=by have:=hn.kind;omega
     simp only [hk4];have hl:=hn.bind hk4
     by_cases hv:x.values=[]
     ·right
      rw [hv] at hl;simp only [List.length_nil] at hl;obtain ⟨z,hz⟩:∃ z,x.kids=[z]:=List.length_eq_one_iff.1 hl;rw [hz];simp [aK,hv]
     ·left
      have hvl:0<x.values.length:=List.length_pos_iff.2 hv;have hk:=hn.kids _ (aD (d:=0) (show 1<x.kids.length by omega));have hg:=(eX (before:=before) (ch:=false) x.kids 0 0).2 1 D (.inr D);have h5:=hb _ hk.1 hk.2;have:=(lL (before:=before) (ch:=false) x.kids 0 0 1 D).1 D
      simpa using this
theorem sD {t:List GN}{i:Nat}(h:bD t i)(hs:qQ t):∀ j,j<i->1<=(bO t).getD j 0∧(bO t).getD j 0<=1024:=by
 intro j
 induction j using Nat.strongRecOn with
 | ind j ih =>
  intro hj;have hc:=h.at_ hj;have hlt:j<t.length:=by have:=h.1;omega
  refine ⟨?_,hc.size⟩;have hn:=hc.node
  have hk:∀ z:Int,0<=z->z<(j:Int)->1<=(bO (t.take j)).getD z.toNat 0∧(bO (t.take j)).getD z.toNat 0<=1024:=fun z h1 h2=>by
   rw [jI hlt ⟨h1,h2⟩];exact ih z.toNat D D
  have hf:=eZ h hj;have hv:=hs _ (aD (d:=default) hlt);rw [lD hlt];generalize t.getD j default=x at *;have hp:=oJ hn (fun z h1 h2=>(hk z h1 h2).1);have hne:x.kind=4->x.values ≠ []:=fun h4 hv=>by have:=hf.2.2 h4;rw [hv] at this;simp at this
  have hz:∀ z ∈ x.kids,1<=(bO (t.take j)).getD z.toNat 0∧(bO (t.take j)).getD z.toNat 0<=1024:=fun z hz=>hk z (hn.kids z hz).1 (hn.kids z hz).2
  generalize bO (t.take j)=before at *;rcases hp with hp | ⟨h4,hv,_⟩
  ·rw [<- hp]
   unfold fX
   split
   ·rw [xT _ D];have:=aO2 x.value;omega
   ·split
    ·exact vV hz D D
    ·split
     ·exact (eX x.kids 0 1).1
     ·split
      ·exact (eX x.kids 0 1).1
      ·exact Int.le_refl _
  ·exact absurd hv (hne h4)
end Go.Proofs.YtkoeecdjijfjnaaGreat
