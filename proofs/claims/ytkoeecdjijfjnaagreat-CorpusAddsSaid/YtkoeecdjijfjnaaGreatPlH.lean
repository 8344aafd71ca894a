/- Contracts of functions, plain laws. Conditions: none. -/
import Derived.Test.YtkoeecdjijfjnaaGreatE5
set_option maxRecDepth 100000
set_option maxHeartbeats 8000000
namespace Go.Proofs.YtkoeecdjijfjnaaGreat
open Go.RowKit
theorem lP {before:List GL}{bind:Bool}:∀ (zs:List Int)(k:Nat)(out:List GV),jH before bind k out true zs=⟨[],true⟩
 | [],_,_=>by simp [jH]
 | z :: zs,k,out=>by
  simp only [jH]
  split
  ·exact lP zs _ _
  ·simp only [Bool.true_or];exact lP zs _ _
theorem oV {before:List GL}{bind:Bool}:∀ (zs:List Int)(k:Nat)(out:List GV),(∀ z ∈ zs,LOK (before.getD z.toNat default))->Inc out->¬ (bind=true∧k=0)->jH before bind k out false zs=xE before out zs
 | [],_,_,_,_,_=>by simp [jH,xE]
 | z :: zs,k,out,hz,ho,hb=>by
  have hl:=hz z (by simp);simp only [jH,xE];rw [if_neg hb,yA ho hl.inc];simp only [Bool.false_or]
  cases e:(before.getD z.toNat default).many
  ·simp only [Bool.false_or,Bool.false_eq_true,if_false]
   by_cases h:1024<(eS (out ++ (before.getD z.toNat default).vals)).length
   ·rw [aV7 h,lP,if_pos h]
   ·rw [aV8 h,if_neg h]
    exact oV zs (k+1) _ (fun y hy=>hz y (by simp [hy])) (jR _) (by omega)
  ·simp only [Bool.true_or,if_true]
   exact lP zs _ _
theorem aBh {before:List GL}{x:GN}(hz:∀ z ∈ x.kids,LOK (before.getD z.toNat default)):rD before x=vO x before:=by
 unfold rD vO
 split
 ·next h=>rw [h]
 ·next rows h =>
  rw [h];obtain ⟨a,_,_,_⟩:=mT x.kids [[]] 0 hz (List.pairwise_singleton _ _) (by simp) (by simp) (by simp) rows h
  show _=GL.mk (eS (rows.map (cE x.name))) false
  rw [oF (wD x.name a)]
theorem aD8 {t:List GN}{i:Nat}(hg:bJ t (i+1)):(aI t).getD i default=cN (aI t) (t.getD i default):=by
 have hit:i<t.length:=by have:=hg.1;omega
 have hn:=(hg.at_ (j:=i) (by omega)).node;have hk:∀ z ∈ (t.getD i default).kids,(aI (t.take i)).getD z.toNat default=(aI t).getD z.toNat default:=fun z hz=>gV hit (hn.kids z hz)
 have hsq:∀ (zs:List Int) (rows:List (List GV)),(∀ z ∈ zs,(aI (t.take i)).getD z.toNat default=(aI t).getD z.toNat default)->bS (aI (t.take i)) rows zs=bS (aI t) rows zs:=by
  intro zs
  induction zs with
  | nil=>intro rows _;rfl
  | cons z zs ih=>intro rows h;simp only [bS];rw [h z (by simp)];split;rfl;exact ih _ (fun y hy=>h y (by simp [hy]))
 have hun:∀ (bind:Bool) (zs:List Int) (k:Nat) (out:List GV) (m:Bool),(∀ z ∈ zs,(aI (t.take i)).getD z.toNat default=(aI t).getD z.toNat default)->jH (aI (t.take i)) bind k out m zs=jH (aI t) bind k out m zs:=by
  intro bind zs
  induction zs with
  | nil=>intro k out m _;rfl
  | cons z zs ih =>
   intro k out m h;simp only [jH];rw [h z (by simp)]
   split
   ·exact ih _ _ _ (fun y hy=>h y (by simp [hy]))
   ·exact ih _ _ _ (fun y hy=>h y (by simp [hy]))
 rw [iQ hit];unfold cN
 split
 ·rfl
 ·split
  ·rfl
  ·split
   ·unfold vO
    rw [hsq _ _ hk]
   ·exact hun _ _ _ _ _ hk
theorem bT.tail {w:World}{P:Nat->Prop}{b off c:Nat}{z:Int}{l:List Int}(h:bT w P (.slice (some ⟨b,off,none⟩) (l.length+1) c) (z :: l)):bT w P (.slice (some ⟨b,off+1,none⟩) l.length (c - 1)) l:=by
 obtain ⟨A,c',e,h1,h2,h3,h4⟩:=h;injection e with e1 e2 e3;subst e1 e3;have h5:=h4.drop (k:=1) (by simp);simp only [List.length_cons,Nat.add_sub_cancel,List.map_cons,List.drop_succ_cons,List.drop_zero,Nat.one_mul] at h5;simp only [List.length_cons] at h1 h2;exact ⟨_,c - 1,rfl,by omega,by omega,fun y hy=>h3 y (by simp [hy]),h5⟩
def aFp (lo:Int)(N:Nat)(w:World)(v n:Value)(wr:World):Prop :=
 ∃ (k:Nat) (xs:List Value),k<=N∧n=.int .i64 (lo+k)∧wr.ownsRow w.heap.size 85 4 v k xs∧RVs wr (fun _=>False) (eF lo k) xs∧Ext w wr
theorem aEp (t:List GN)(vn:Value)(f:Nat)(hO:aAn t vn f):uU t vn (f+1):=by
 intro g i w hif hg hs;have HG:=aV4 hg;have HS:=aV4 hs;have hit:i<t.length:=by have:=hg.1;omega
 have hi4:t.length<=4096:=hg.2.1;have HOK:=aV4 (hg.at_ (j:=i) (by omega)).node;have HLL:=aV4 (aD8 hg);have HFEW:=aV4 (fE hg (j:=i) (by omega));have HLOK:=aV4 (show ∀ z ∈ (t.getD i default).kids,LOK ((aI t).getD z.toNat default) from fun z hz=>by have h:=HOK.out.kids z hz;exact mC hg z.toNat (by omega));obtain ⟨kn,ls,ms,h⟩:=hs;have hnd:=h.nodes;have HBX:=aV4 h.box;obtain ⟨An,cn,en,hn1,hn2⟩:=hnd.form;subst en;obtain ⟨b1,o1,a1,rfl,hb1,ha1,hc1⟩:=hnd.get hit;have HB1:=aV4 hb1;have b0:=HBX.out.cell' (u:=.slice (some ⟨b1,o1,none⟩) t.length cn) 0 rfl;have HA:=aV4 ha1;have HC:=aV4 hc1;have c0:=hc1.c0;have hi0:(0:Int)<=(i:Int):=by omega
 have hi1:(i:Int)<(t.length:Int):=by omega
 have lb1:=hc1.lt;clear hg hnd hc1 ha1 hb1 h;generalize t.getD i default=x at *;have hkd:=HOK.out.kind;rw [HLL.out]
 by_cases k0:x.kind=0
 ·have t0:(x.kind == 0)=true:=aV6 k0
  have HR:=aV4 (show cN (aI t) x=⟨[x.value],false⟩ by unfold cN;rw [if_pos k0]);have c8:=HC.out.c8;have c9:=HC.out.c9;have c10:=HC.out.c10;have c11:=HC.out.c11;clear k0;go_enter Tryz.func181,Tryz.ntmps181;go_wp2_with fail;go_ret2;rw [HR.out];refine ⟨some ⟨w.heap.size,0,none⟩,1,rfl,?_,Fr.of_ext ((Ext.refl w).alloc' _),HS.out.ext ((Ext.refl w).alloc' _)⟩;refine ⟨some ⟨w.heap.size,0,none⟩,1,cellsOf x.value a1.xA a1.xc,rfl,by simp,by simp,⟨rfl,fun _=>⟨w.heap.size,0,rfl,HS.out.newQ (Nat.le_refl _),fun j u hu=>kF _ _ _ _ _ _ (by simp) (by simpa [cellsOf] using hu)⟩⟩,RVs.one (HA.out.value.ext ((Ext.refl w).alloc' _)).rv⟩
 have t0:(x.kind == 0)=false:=aV5 k0
 by_cases k1:x.kind=1
 ·have t1:(x.kind == 1)=true:=aV6 k1
  have HR:=aV4 (show cN (aI t) x=if 1024<=x.hi - x.lo then ⟨[],true⟩ else ⟨eF x.lo (x.hi - x.lo+1).toNat,false⟩ by unfold cN;rw [if_neg k0,if_pos k1]);have hnum:=cY HOK.out.numbers;have c2:=HC.out.c2;have c3:=HC.out.c3;have hwr:IntKind.i64.wrap (x.hi - x.lo)=x.hi - x.lo:=IntWalk.i64_in _ (by omega);clear k0 k1
  by_cases hbig:1024<=x.hi - x.lo
  ·have tb:decide (1024<=x.hi - x.lo)=true:=aV7 hbig
   have HR2:=aV4 (HR.out.trans (if_pos hbig));go_enter Tryz.func181,Tryz.ntmps181;go_wp2_with fail;go_quiet (fail);go_wp2_with fail;go_ret2;rw [HR2.out];exact iS.none_ (Fr.of_ext ((Ext.refl w).drewN' _)) (HS.out.ext ((Ext.refl w).drewN' _))
  ·have tb:decide (1024<=x.hi - x.lo)=false:=aV8 hbig
   have HR2:=aV4 (HR.out.trans (if_neg hbig));obtain ⟨N,hN⟩:∃ N:Nat,x.hi - x.lo+1=N:=⟨(x.hi - x.lo+1).toNat,by omega⟩;have HN:=aV4 hN;have hhi1:x.lo+N<=x.hi+1:=by omega
   have hhi2:x.hi+1<=x.lo+N:=by omega
   have hN2:N<=1024:=by omega
   clear hN;obtain ⟨i0,hi,hz0,hz1,hz2⟩:=info_parts Tryz.info85;have HI:=aV4 hi;clear hi;go_enter Tryz.func181,Tryz.ntmps181;go_wp2_with fail;go_quiet (fail);clear hwr;go_wp2_with fail;go_loopw [7,8] (fun v n wr=>aFp x.lo N w v n wr) (fun _ n _=>(x.hi+1 - intOf n).toNat)
   case atStart=>exact ⟨0,[],Nat.zero_le _,by simp,aX _ _ _ _,rfl,(Ext.refl w).drewN' _⟩
   case round =>
    obtain ⟨k,xs,hk,rfl,hown,hrv,hx⟩:=hrel;have HOWN:=aV4 hown;have HRV:=aV4 hrv;have HX:=aV4 hx;have hsz:=hx.size;clear c0 c2 c3;have c3:=(HC.out.ext hx).c3;clear hown hrv hx
    by_cases hlt:k<N
    ·have tl:decide (x.lo+(k:Int)<=x.hi)=true:=aV7 (by omega)
     go_wp2_with (at_builtin;go_must (refine aN _ rfl (.tmp 50) (.tmp 53) 83 (by rfl) w.heap.size 85 i0 _ 4 56 Tryz.underlying83 HI.out hz0 hz1 hz2 rfl (by omega) u7 _ _ rfl (HOWN.out.alloc _) (fun _=>True) (some ⟨wr.heap.size,0,none⟩) 1 1 [.int .i64 0,.int .i64 (x.lo+k),.string ByteArray.empty,.slice none 0 0] rfl (Sl.new _ _ _ _ _ rfl) (by simp [Value.oneCell']) (by omega) (by omega) (by simp;omega) ?_);intro v2 w2 ho2 hbl2);go_roundw
     case rel =>
      have hx2:Below w.heap.size wr w2:=((Below.refl _ wr).alloc hsz _).trans hbl2;refine ⟨k+1,_,by omega,by simp;omega,ho2,?_,HX.out.trans hx2⟩;rw [pH];exact RVs.append (RVs.carry (fun b _ h=>h.elim) (fun _ _ h=>h) HRV.out) (RVs.one (aJ1 _ _ (by unfold I64;omega)))
     case measure=>simp [intOf];omega
    ·have tl:decide (x.lo+(k:Int)<=x.hi)=false:=aV8 (by omega)
     have hkN:k=N:=by omega
     have HKN:=aV4 hkN;clear hkN;obtain ⟨A2,c2,e2,-,-,-⟩:=Sl.of_own HOWN.out;subst e2;have HEQ:=aV4 (show cN (aI t) x=⟨eF x.lo k,false⟩ by rw [HR2.out,HKN.out,HN.out];simp);go_wp2_with fail;go_ret2;rw [HEQ.out];refine ⟨A2,c2,by rw [dS];rfl,?_,Fr.of_ext HX.out,HS.out.ext HX.out⟩;rw [dS];exact cB.of_own (HOWN.out.len_cast (dS _ _).symm rfl) (RVs.carry (fun _ _ _=>rfl) (fun _ _ h=>h.elim) HRV.out) (by rw [dS];omega) (fun b hb=>HS.out.newQ (HOWN.out.block_ge hb))
 have t1:(x.kind == 1)=false:=aV5 k1;have HGI:=aV4 (HG.out.mono (j:=i) (by omega))
 by_cases k3:x.kind=3
 ·have t2:(x.kind == 2)=false:=aV5 (by omega)
  have t3:(x.kind == 3)=true:=aV6 k3;have HR:=aV4 (show cN (aI t) x=rD (aI t) x by rw [aBh HLOK.out];unfold cN;rw [if_neg k0,if_neg k1,if_pos k3]);clear k0 k1 k3;go_enter Tryz.func181,Tryz.ntmps181;go_wp2_with fail;refine (xW t _ g f i hO x a1 b1 (o1+i*12) w HA.out HC.out HB1.out HOK.out.kids (by omega) (by have:=HFEW.out.1;omega) HGI.out HS.out).mono ?_;rintro e w1 ⟨A,c,rfl,hv,hf,hs1⟩;go_wp2_with fail;go_ret2;rw [HR.out];exact ⟨A,c,rfl,hv,hf,hs1⟩
 have hki:=HA.out.kids;have c7:=HC.out.c7;have hkc:=hki.le;generalize a1.kA=Ak at *;generalize a1.kc=kc at *
 by_cases k2:x.kind=2
 ·have t2:(x.kind == 2)=true:=aV6 k2
  have HR:=aV4 (show cN (aI t) x=xE (aI t) [] x.kids by rw [<- oV x.kids 0 [] HLOK.out Inc.nil (show ¬ (false=true∧0=0) by simp)];unfold cN;rw [if_neg k0,if_neg k1,if_neg k3,aV8 (by omega)]);have HKI:=aV4 hki;clear k0 k1 k3 k2 hki;go_enter Tryz.func181,Tryz.ntmps181;go_wp2_with fail;refine (vJ t _ g f i hO x.kids _ w HKI.out HOK.out.kids (by omega) HGI.out HS.out).mono ?_;rintro e w1 ⟨A,c,rfl,hv,hf,hs1⟩;go_wp2_with fail;go_ret2;rw [HR.out];exact ⟨A,c,rfl,hv,hf,hs1⟩
 have t2:(x.kind == 2)=false:=aV5 k2;have t3:(x.kind == 3)=false:=aV5 k3;have k4:x.kind=4:=by omega
 have hbd:=HOK.out.bind k4;have hv1:=HFEW.out.2.2 k4;have HKD:=aV4 HOK.out.kids
 have HR:=aV4 (show cN (aI t) x=xE (aI t) [] x.kids.tail by
  have e:cN (aI t) x=jH (aI t) true 0 [] false x.kids:=by unfold cN;rw [if_neg k0,if_neg k1,if_neg k3,aV7 k4]
  rw [e];have hl:=HLOK.out
  cases hk:x.kids with
  | nil=>rw [hk] at hbd;simp at hbd
  | cons z zs =>
   rw [hk] at hl;rw [jH,if_pos ⟨rfl,rfl⟩];exact oV zs 1 [] (fun y hy=>hl y (by simp [hy])) Inc.nil (by omega))
 obtain ⟨bk,ok,rfl,-,-,-⟩:=hki.get (i:=0) (by omega)
 have HKT:=aV4 (show bT w g.Q (.slice (some ⟨bk,ok+1,none⟩) (x.kids.length - 1) (kc - 1)) x.kids.tail from by
  cases hk:x.kids with
  | nil=>rw [hk] at hbd;simp at hbd
  | cons z zs=>rw [hk] at hki;exact bT.tail hki)
 have hkc1:¬ kc=1:=by omega
 have hkc2:1<=kc:=by omega
 have hkl1:1<=x.kids.length:=by omega
 clear k0 k1 k3 k2 k4 hki hbd hv1;go_enter Tryz.func181,Tryz.ntmps181;go_wp2_with fail;refine (vJ t _ g f i hO x.kids.tail _ w HKT.out (fun z hz=>HKD.out z (List.mem_of_mem_tail hz)) (by omega) HGI.out HS.out).mono ?_;rintro e w1 ⟨A,c,rfl,hv,hf,hs1⟩;go_wp2_with fail;go_ret2;rw [HR.out];exact ⟨A,c,rfl,hv,hf,hs1⟩
theorem zW (t:List GN)(vn:Value):∀ f,uU t vn f
 | 0=>by intro g i w hf;omega
 | f+1=>aEp t vn f (aD2 t vn f (zW t vn f))
theorem aRf (t:List GN)(vn:Value)(g:SA)(i:Nat)(w:World)(hg:bJ t (i+1))(hs:bV t vn g w) :
  Calls Tryz.prog 137 #[.pointer (some ⟨g.s,0,none⟩),.int .i64 i] w (iS t vn g ((aI t).getD i default) w):=aD2 t vn (i+1) (zW t vn (i+1)) g i w (by omega) hg hs
theorem Tryz.info4:(Tryz.prog.info? 4).map (fun i=>(i.zero,i.size,i.bytes))=some (some (.bool false),1,1):=by kernel_rfl
theorem fR (w:World)(o:Obj):(w.alloc o).heap.size=w.heap.size+1:=by simp
theorem sL (w:World)(a o2 o3 o4:Obj)(cs:Array Value)(t:TypeId):Blk (((((w.alloc a).alloc (.cells cs t)).alloc o2).alloc o3).alloc o4).drew (w.heap.size+1) t cs :=
 ((((Blk.new' (w.alloc a) t cs (fR w a).symm).alloc _).alloc _).alloc _).drew
theorem sK (w:World)(a o2 o3 o4:Obj)(cs:Array Value)(t:TypeId):Blk (((((w.alloc a).alloc o2).alloc (.cells cs t)).alloc o3).alloc o4).drew (w.heap.size+1+1) t cs :=
 (((Blk.new' ((w.alloc a).alloc o2) t cs (by rw [fR,fR])).alloc _).alloc _).drew
theorem sJ (w:World)(a o2 o3 o4:Obj)(cs:Array Value)(t:TypeId):Blk (((((w.alloc a).alloc o2).alloc o3).alloc (.cells cs t)).alloc o4).drew (w.heap.size+1+1+1) t cs :=
 ((Blk.new' (((w.alloc a).alloc o2).alloc o3) t cs (by rw [fR,fR,fR])).alloc _).drew
theorem sI (w:World)(a o2 o3 o4:Obj)(cs:Array Value)(t:TypeId):Blk (((((w.alloc a).alloc o2).alloc o3).alloc o4).alloc (.cells cs t)).drew (w.heap.size+1+1+1+1) t cs :=
 (Blk.new' ((((w.alloc a).alloc o2).alloc o3).alloc o4) t cs (by rw [fR,fR,fR,fR])).drew
def aFg (t:List GN)(vn:Value)(X:Nat->Prop)(w:World)(e:Ending)(w':World):Prop :=
 ∃ g:SA,e=.returned (.pointer (some ⟨g.s,0,none⟩))∧g.X=X∧bV t vn g w'∧Ext w w'∧w.heap.size<=g.s∧w.heap.size<=g.k∧w.heap.size<=g.l∧w.heap.size<=g.m
theorem gH {t:List GN}{vn:Value}{P X:Nat->Prop}{w w':World}{gs gk gl gm:Nat}(hx:Ext w w')(ht:Nds w P vn t)(hPX:∀ b,P b->¬ X b)(hX:∀ b,X b->b<w.heap.size)(h1:w.heap.size<=gs)(h2:w.heap.size<=gk)(h3:w.heap.size<=gl)(h4:w.heap.size<=gm)
  (n1:gs ≠ gk)(n2:gs ≠ gl)(n3:gs ≠ gm)(n4:gk ≠ gl)(n5:gk ≠ gm)(n6:gl ≠ gm)
  (hs:Blk w' gs 198 #[vn,.slice (some ⟨gk,0,none⟩) t.length t.length,.slice (some ⟨gl,0,none⟩) t.length t.length,.slice (some ⟨gm,0,none⟩) t.length t.length])
  (hk:Blk w' gk 4 (madeCells #[.bool false] t.length))(hl:Blk w' gl 83 (madeCells #[.slice none 0 0] t.length))(hm:Blk w' gm 4 (madeCells #[.bool false] t.length)) :
  aFg t vn X w (.returned (.pointer (some ⟨gs,0,none⟩))) w':=by
 rw [gF] at hk hl hm;have hQ:∀ b,b<w.heap.size->P b->(SA.mk gs gk gl gm X).Q b:=fun b hb hp=>⟨fun h=>by rcases h with h | h | h <;> (simp only at h;omega),hPX b hp⟩
 refine ⟨⟨gs,gk,gl,gm,X⟩,rfl,rfl,⟨List.replicate t.length false,List.replicate t.length (.slice none 0 0),List.replicate t.length false,n1,n2,n3,n4,n5,n6,by simp,by simp,by simp,hs,by rw [List.map_replicate];exact hk,hl,by rw [List.map_replicate];exact hm,fun b hb=>by have:=hX b hb;have:=hx.size;omega,ht.carry (aD.of_ext hx) hQ,?_,?_⟩,hx,h1,h2,h3,h4⟩
 ·intro v hv
  rw [List.eq_of_mem_replicate hv];exact ⟨_,_,_,rfl⟩
 ·intro j hj h
  simp [List.getD,hj] at h
theorem pO (t:List GN)(P X:Nat->Prop)(vn:Value)(w:World)(ht:Nds w P vn t)(hPX:∀ b,P b->¬ X b)(hX:∀ b,X b->b<w.heap.size)(hlen:t.length<=100000) :
  Calls Tryz.prog 87 #[.agg #[vn]] w (aFg t vn X w):=by
 have HT:=aV4 ht;have HPX:=aV4 hPX;have HX:=aV4 hX;obtain ⟨An,cn,en,hn1,hn2⟩:=ht.form;subst en;obtain ⟨i4,hi4,hz40,hz41,hz42⟩:=info_parts Tryz.info4;obtain ⟨i1,hi',hz0',hz1',hz2'⟩:=info_parts Tryz.info83
 have hmk1:∀ W:World,(Instr.makeSlice 196 (.int .i64 (t.length:Int)) (.int .i64 (t.length:Int))).run Tryz.prog W=.ok (.slice (some ⟨W.heap.size,0,none⟩) t.length t.length) (W.alloc (.cells (madeCells #[.slice none 0 0] t.length) 83)):=by
  intro W;have h:=run_make (P:=Tryz.prog) W 196 83 i1 _ Tryz.underlying196 hi' hz0' .i64 .i64 (t.length:Int) (t.length:Int) (by omega) (Int.le_refl _) (by rw [hz2'];omega) (by omega);rw [hz1',Nat.mul_one] at h;rw [h]
  rfl
 have hmk2:∀ W:World,(Instr.makeSlice 195 (.int .i64 (t.length:Int)) (.int .i64 (t.length:Int))).run Tryz.prog W=.ok (.slice (some ⟨W.heap.size,0,none⟩) t.length t.length) (W.alloc (.cells (madeCells #[.bool false] t.length) 4)):=by
  intro W;have h:=run_make (P:=Tryz.prog) W 195 4 i4 _ Tryz.underlying195 hi4 hz40 .i64 .i64 (t.length:Int) (t.length:Int) (by omega) (Int.le_refl _) (by rw [hz42];omega) (by omega);rw [hz41,Nat.mul_one] at h;rw [h]
  rfl
 clear ht hPX hX hi4 hi' hz40 hz41 hz42 hz0' hz1' hz2' i4 i1;go_enter Tryz.func87,Tryz.ntmps87;go_wp2_with fail;go_region
 all_goals (go_wp2_with fail)
 all_goals (go_ret)
 all_goals (show aFg _ _ _ _ (.returned (.pointer (some ⟨w.heap.size+1+1+1+1,0,none⟩))) _)
 all_goals first
  | exact gH (gs:=w.heap.size+1+1+1+1) (gk:=w.heap.size+1) (gl:=w.heap.size+1+1) (gm:=w.heap.size+1+1+1) (((((((Ext.refl w).alloc' _).alloc' _).alloc' _).alloc' _).alloc' _).drew') HT.out HPX.out HX.out (by omega) (by omega) (by omega) (by omega) (by omega) (by omega) (by omega) (by omega) (by omega) (by omega) (sI w _ _ _ _ _ _) (sL w _ _ _ _ _ _) (sK w _ _ _ _ _ _) (sJ w _ _ _ _ _ _)
  | exact gH (gs:=w.heap.size+1+1+1+1) (gk:=w.heap.size+1) (gl:=w.heap.size+1+1+1) (gm:=w.heap.size+1+1) (((((((Ext.refl w).alloc' _).alloc' _).alloc' _).alloc' _).alloc' _).drew') HT.out HPX.out HX.out (by omega) (by omega) (by omega) (by omega) (by omega) (by omega) (by omega) (by omega) (by omega) (by omega) (sI w _ _ _ _ _ _) (sL w _ _ _ _ _ _) (sJ w _ _ _ _ _ _) (sK w _ _ _ _ _ _)
  | exact gH (gs:=w.heap.size+1+1+1+1) (gk:=w.heap.size+1+1) (gl:=w.heap.size+1) (gm:=w.heap.size+1+1+1) (((((((Ext.refl w).alloc' _).alloc' _).alloc' _).alloc' _).alloc' _).drew') HT.out HPX.out HX.out (by omega) (by omega) (by omega) (by omega) (by omega) (by omega) (by omega) (by omega) (by omega) (by omega) (sI w _ _ _ _ _ _) (sK w _ _ _ _ _ _) (sL w _ _ _ _ _ _) (sJ w _ _ _ _ _ _)
  | exact gH (gs:=w.heap.size+1+1+1+1) (gk:=w.heap.size+1+1) (gl:=w.heap.size+1+1+1) (gm:=w.heap.size+1) (((((((Ext.refl w).alloc' _).alloc' _).alloc' _).alloc' _).alloc' _).drew') HT.out HPX.out HX.out (by omega) (by omega) (by omega) (by omega) (by omega) (by omega) (by omega) (by omega) (by omega) (by omega) (sI w _ _ _ _ _ _) (sK w _ _ _ _ _ _) (sJ w _ _ _ _ _ _) (sL w _ _ _ _ _ _)
  | exact gH (gs:=w.heap.size+1+1+1+1) (gk:=w.heap.size+1+1+1) (gl:=w.heap.size+1) (gm:=w.heap.size+1+1) (((((((Ext.refl w).alloc' _).alloc' _).alloc' _).alloc' _).alloc' _).drew') HT.out HPX.out HX.out (by omega) (by omega) (by omega) (by omega) (by omega) (by omega) (by omega) (by omega) (by omega) (by omega) (sI w _ _ _ _ _ _) (sJ w _ _ _ _ _ _) (sL w _ _ _ _ _ _) (sK w _ _ _ _ _ _)
  | exact gH (gs:=w.heap.size+1+1+1+1) (gk:=w.heap.size+1+1+1) (gl:=w.heap.size+1+1) (gm:=w.heap.size+1) (((((((Ext.refl w).alloc' _).alloc' _).alloc' _).alloc' _).alloc' _).drew') HT.out HPX.out HX.out (by omega) (by omega) (by omega) (by omega) (by omega) (by omega) (by omega) (by omega) (by omega) (by omega) (sI w _ _ _ _ _ _) (sJ w _ _ _ _ _ _) (sK w _ _ _ _ _ _) (sL w _ _ _ _ _ _)
def mD:List GV->Int
 | []=>0
 | v :: vs=>if eW v=0 then mD vs else eW v
def gU (x:GN):Int:=if x.kind=0 then eW x.value else mD x.values
def aFe (l:List GV)(W:World)(k:Value)(wr:World):Prop:=∃ j:Nat,j<=l.length∧k=.int .i64 j∧Ext W wr∧mD l=mD (l.drop j)
theorem sW (x:GN)(a:NA)(b o:Nat)(P:Nat->Prop)(w:World)(hP:∀ b,P b->b<w.heap.size)(hn:cC w b o x a)(hx:NAt w P x a) :
  Calls Tryz.prog 90 #[.pointer (some ⟨b,o,none⟩)] w (dC (.int .i64 (gU x)) w):=by
 have HX:=aV4 hx;have HP:=aV4 hP;have HS:=aV4 (show gU x=if x.kind=0 then eW x.value else mD x.values from rfl);have c0:=hn.c0;have c6:=hn.c6;have c8:=hn.c8;have c9:=hn.c9;have c10:=hn.c10;have c11:=hn.c11;obtain ⟨hvl1,hvl2⟩:=hx.values.le;clear hx hn hP
 by_cases hk:x.kind=0
 ·have t0:(x.kind == 0)=true:=aV6 hk
  have HK:=aV4 hk;clear hk;go_enter Tryz.func90,Tryz.ntmps90;go_wp2_with fail;refine (gO x.value a.xA a.xc P w HP.out HX.out.value).mono ?_;rintro e w1 ⟨rfl,hx1⟩;have HX1:=aV4 hx1;clear hx1;go_wp2_with fail;go_ret;exact ⟨aM (by rw [HS.out,if_pos HK.out]),HX1.out⟩
 ·have t0:(x.kind == 0)=false:=aV5 hk
  have HN:=aV4 (HS.out.trans (if_neg hk));have HVL:=aV4 HX.out.values;clear hk HX HS c8 c9 c10 c11;generalize a.vA=Av at *;generalize a.vc=cv at *;go_enter Tryz.func90,Tryz.ntmps90;go_wp2_with fail;go_loopw [21] (fun k wr=>aFe x.values w k wr) (fun k _=>x.values.length - (intOf k).toNat)
  case atStart=>exact ⟨0,Nat.zero_le _,rfl,Ext.refl _,rfl⟩
  case round =>
   obtain ⟨j,hj,rfl,hxr,ht⟩:=hrel;have HT:=aV4 ht;have HXR:=aV4 hxr;clear ht hxr
   by_cases hlt:j<x.values.length
   ·obtain ⟨b1,o1,A1,d1,rfl,-,hv1,g10,g11,g12,g13⟩:=(HVL.out.ext HXR.out).get hlt
    have HD:=aV4 (show mD x.values=if eW (x.values.getD j default)=0 then mD (x.values.drop (j+1)) else eW (x.values.getD j default) by
     rw [HT.out,aH default hlt];rfl)
    have HV1:=aV4 hv1;clear hv1;generalize x.values.getD j default=y at *;go_wp2_with fail;refine (gO y A1 d1 P _ (fun b hb=>by have h1:=HP.out b hb;have h2:=HXR.out.size;simp;omega) (HV1.out.ext ((Ext.refl _).alloc' _))).mono ?_;rintro e w4 ⟨rfl,hx4⟩;have HX4:=aV4 ((HXR.out.alloc' _).trans' hx4);clear hx4
    by_cases hz:eW y=0
    ·have HZ:=aV4 hz
     have tz:(eW y != 0)=false:=by rw [bne_eq_false_iff_eq];exact hz
     clear hz;go_wp2_with fail;go_roundw
     case rel=>exact ⟨j+1,by omega,by go_num,HX4.out,by rw [HD.out,if_pos HZ.out]⟩
     case measure=>simp [intOf];omega
    ·have tz:(eW y != 0)=true:=bne_iff_ne.2 hz
     have HN2:=aV4 (show gU x=eW y by rw [HN.out,HD.out,if_neg hz]);clear hz;go_wp2_with fail;go_ret;exact ⟨aM HN2.out.symm,HX4.out⟩
   ·have HN2:=aV4 (show gU x=0 by rw [HN.out,HT.out,drop_nil (by omega)];rfl)
    go_wp2_with fail;go_ret;exact ⟨aM HN2.out.symm,HXR.out⟩
theorem aF2 {h l:Int}(h1:l<=h)(h2:-4611686018427387904<=l)(h3:h<=4611686018427387904):IntKind.u64.wrap (IntKind.u64.wrap h - IntKind.u64.wrap l)=h - l:=by
 simp only [IntKind.wrap,IntKind.bits,IntKind.signed];simp only [Bool.false_and,Bool.false_eq_true,if_false];omega
def aSa (x:GN)(W:World)(i:Value)(wr:World):Prop:=∃ k:Nat,k<=x.weights.length∧i=.int .i64 k∧W=wr∧bM x=(x.weights.drop k).all fT
theorem yH (x:GN)(a:NA)(b o:Nat)(P:Nat->Prop)(w:World)(hn:cC w b o x a)(hx:NAt w P x a) :
  Calls Tryz.prog 91 #[.pointer (some ⟨b,o,none⟩)] w (dC (.bool (bM x)) w):=by
 have HX:=aV4 hx;have HU:=aV4 (show bM x=(!uV x && x.weights.all fT) from rfl);obtain ⟨hl,hc⟩:=hx.weights.le;have hi1:=hx.lo;have hi2:=hx.hi;have HN:=aV4 hn;have c2:=hn.c2;have c3:=hn.c3;unfold I64 at hi1 hi2;clear hx hn;go_enter Tryz.func91,Tryz.ntmps91;go_upto_region 1 with fail;go_cut [41] (fun s wx=>s=.bool (uV x)∧Ext w wx)
 case first =>
  by_cases ha1:x.hi<x.lo
  ·have t0a1:decide (x.hi<x.lo)=true:=aV7 ha1
   go_quiet (fail);go_wp2_with fail;go_meet;exact ⟨congrArg Value.bool (by unfold uV;rw [(show decide (x.hi<x.lo)=true from aV7 (by omega))];try rfl),Ext.drewN _ _⟩
  ·have t0a1:decide (x.hi<x.lo)=false:=aV8 ha1
   by_cases ha2:x.lo < -4611686018427387904
   ·have t0a2:decide (x.lo < -4611686018427387904)=true:=aV7 ha2
    go_quiet (fail);go_wp2_with fail;go_meet;exact ⟨congrArg Value.bool (by unfold uV;rw [(show decide (x.hi<x.lo)=false from aV8 (by omega)),(show decide (x.lo < -4611686018427387904)=true from aV7 (by omega))];try rfl),Ext.drewN _ _⟩
   ·have t0a2:decide (x.lo < -4611686018427387904)=false:=aV8 ha2
    by_cases ha3:4611686018427387904<x.hi
    ·have t0a3:decide (4611686018427387904<x.hi)=true:=aV7 ha3
     go_quiet (fail);go_wp2_with fail;go_meet;exact ⟨congrArg Value.bool (by unfold uV;rw [(show decide (x.hi<x.lo)=false from aV8 (by omega)),(show decide (x.lo < -4611686018427387904)=false from aV8 (by omega)),(show decide (4611686018427387904<x.hi)=true from aV7 (by omega))];try rfl),Ext.drewN _ _⟩
    ·have t0a3:decide (4611686018427387904<x.hi)=false:=aV8 ha3
     go_quiet (fail);go_wp2_with fail;go_meet;rw [aF2 (by omega) (by omega) (by omega)];refine ⟨congrArg Value.bool ?_,Ext.drewN _ _⟩;unfold uV;rw [(show decide (x.hi<x.lo)=false from aV8 (by omega)),(show decide (x.lo < -4611686018427387904)=false from aV8 (by omega)),(show decide (4611686018427387904<x.hi)=false from aV8 (by omega))];simp only [Bool.false_or];exact decide_eq_decide.2 (by omega)
 case rest =>
  obtain ⟨rfl,he⟩:=hcut;have HE:=aV4 he;have hb4:=(HN.out.ext he).c4;have HW:=aV4 (HX.out.weights.ext he);clear he c2 c3;generalize a.wA=Aw at *;generalize a.wc=cw at *;generalize uV x=bn at *
  cases bn
  ·have HU2:=aV4 (show bM x=(x.weights.drop 0).all fT by rw [HU.out];rfl)
   go_wp2_with fail;go_loopw [47] (fun i wr=>aSa x wc i wr) (fun i _=>x.weights.length - (intOf i).toNat)
   case atStart=>exact ⟨0,Nat.zero_le _,rfl,rfl,HU2.out⟩
   case round =>
    obtain ⟨k,hk,rfl,rfl,ht⟩:=hrel;have HT:=aV4 ht;clear ht
    by_cases hlt:k<x.weights.length
    ·obtain ⟨b1,o1,rfl,-,hv,g1⟩:=HW.out.get hlt
     have HD:=aV4 (show bM x=(fT (x.weights.getD k 0) && (x.weights.drop (k+1)).all fT) by rw [HT.out,aH 0 hlt];rfl);generalize x.weights.getD k 0=z at *;clear hv
     by_cases hz1:z<1
     ·have HN:=aV4 (show fT z=false from aV8 (by omega))
      have tz1:decide (z<1)=true:=aV7 hz1;go_wp2_with fail;go_ret;exact ⟨aF (by rw [HD.out,HN.out];rfl),HE.out⟩
     ·have tz1:decide (z<1)=false:=aV8 hz1
      by_cases hz2:1000<z
      ·have HN:=aV4 (show fT z=false from aV8 (by omega))
       go_wp2_with fail;go_ret;exact ⟨aF (by rw [HD.out,HN.out];rfl),HE.out⟩
      ·have tz2:decide (1000<z)=false:=aV8 hz2
       have HN:=aV4 (show fT z=true from aV7 (by omega));go_wp2_with fail;go_roundw
       case rel=>exact ⟨k+1,by omega,by go_num,rfl,by rw [HD.out,HN.out];rfl⟩
       case measure=>simp [intOf];omega
    ·go_wp2_with fail
     go_ret;exact ⟨aF (by rw [HT.out,drop_nil (by omega)];rfl),HE.out⟩
  ·go_wp2_with fail
   go_ret;exact ⟨aF (by rw [HU.out];rfl),HE.out⟩
theorem aF0 (a b c:Int):wrap64 (wrap64 (a+b)+c)=wrap64 (a+wrap64 (b+c)):=by unfold wrap64;omega
theorem oD (a:Int):I64 (wrap64 a):=by unfold wrap64 I64;omega
theorem oQ {a:Int}(h:I64 a):wrap64 a=a:=by unfold I64 at h;unfold wrap64;omega
theorem mU:∀ (l:List GV)(n m:Int),xF (wrap64 (n+m)) l=wrap64 (n+xF m l)
 | [],n,m=>by rw [fP,fP]
 | x :: xs,n,m=>by rw [gR,gR,aF0,mU xs n (wrap64 (m+rsz x))]
mutual
theorem aUv:∀ (x:GV)(n:Int),vis aFu n x=(wrap64 (n+rsz x),true)
 | .mk k n s l,m=>by
  rw [yY,nI];simp only [aFu,if_true,GV.kids];rw [aOs l (wrap64 (m+1)),mU]
theorem aOs:∀ (l:List GV)(n:Int),rN aFu n l=(xF n l,true)
 | [],n=>by rw [oE,fP]
 | x :: xs,n=>by rw [lN,aUv x n];simp only [if_true];rw [aOs xs _,gR]
end
theorem aKc (x:GV):(vis aFu 0 x).1=rsz x:=by rw [aUv];show wrap64 (0+rsz x)=_;rw [Int.zero_add,oQ (tG x)]
mutual
theorem aUu:∀ (x:GV)(n:Int)(m:Bool),(vis vP (n,true,m) x).2=dY aJ x∧(vis vP (n,true,m) x).1.2.1=dY aJ x∧(dY aJ x=true->(vis vP (n,true,m) x).1=(wrap64 (n+rsz x),true,m && dY pZ x))
 | .mk k n s l,a,m=>by
  rw [yY,cI,cI,nI];simp only [vP,Bool.true_and,GV.kids]
  cases hf:aJ (.mk k n s l)
  ·simp
  ·simp only [if_true,Bool.true_and]
   have h:=aOr l (wrap64 (a+1)) (m && pZ (.mk k n s l));refine ⟨h.1,h.2.1,fun ha=>?_⟩;rw [h.2.2 ha,mU,Bool.and_assoc]
theorem aOr:∀ (l:List GV)(n:Int)(m:Bool),(rN vP (n,true,m) l).2=eU aJ l∧(rN vP (n,true,m) l).1.2.1=eU aJ l∧(eU aJ l=true->(rN vP (n,true,m) l).1=(xF n l,true,m && eU pZ l))
 | [],n,m=>by simp [oE,eB,fP]
 | x :: xs,n,m=>by
  have h:=aUu x n m;rw [lN,eE,eE,gR]
  cases ha:dY aJ x
  ·rw [ha] at h;simp [h.1,h.2.1]
  ·rw [ha] at h
   have h3:=h.2.2 rfl;rw [h.1,if_pos rfl,h3];have k:=aOr xs (wrap64 (n+rsz x)) (m && dY pZ x);simp only [Bool.true_and];refine ⟨k.1,k.2.1,fun hb=>?_⟩;rw [k.2.2 hb,Bool.and_assoc]
end
theorem aEo {x:GV}(h:aJ x=true):pZ x=cF x:=by
 unfold aJ at h;unfold pZ cF;rw [Bool.eq_iff_iff]
 by_cases h0:x.kind=0
 ·rw [if_pos h0] at h;simp at h;simp [h0,h.2]
 ·rw [if_neg h0] at h
  by_cases h1:x.kind=1
  ·rw [if_pos h1] at h;simp at h;simp [h1,h.2]
  ·rw [if_neg h1] at h
   by_cases h2:x.kind=2
   ·simp [h2]
   ·rw [if_neg h2] at h
    by_cases h3:x.kind=3
    ·simp [h3];omega
    ·rw [if_neg h3] at h;cases h
mutual
theorem wZ:∀ (x:GV),dY aJ x=true->dY pZ x=dY cF x
 | .mk k n s l,h=>by
  rw [cI] at h ⊢;rw [cI];simp only [Bool.and_eq_true] at h;rw [aEo h.1];exact congrArg _ (sM l h.2)
theorem sM:∀ (l:List GV),eU aJ l=true->eU pZ l=eU cF l
 | [],_=>by rw [eB,eB]
 | x :: xs,h=>by
  rw [eE] at h ⊢;rw [eE];simp only [Bool.and_eq_true] at h;rw [wZ x h.1,sM xs h.2]
end
theorem oU (x:GV):eW x=eJ x:=by
 have h:=aUu x 0 true;unfold eW eJ;rw [h.2.1]
 cases ha:dY aJ x
 ·rfl
 ·rw [ha] at h
  rw [h.2.2 rfl,wZ x ha,Int.zero_add,oQ (tG x),Bool.true_and]
theorem wR:∀ (l:List GV),mD l=cU l
 | []=>rfl
 | x :: xs=>by simp only [mD,cU];rw [oU,wR xs]
theorem kE:ByteArray.empty.toList=[]:=by rw [ByteArray.toList_eq];rfl
theorem vK {s:ByteArray}(h:s.toList=[]):s=ByteArray.empty:=wW (by rw [h,kE])
def cQ (x:GN):Bool:=decide (0<=x.kind) && decide (x.kind<=4) && (decide (x.kind=0) || decide (cO x.value bO=0)) && (decide (x.kind=1) || (decide (x.lo=0) && decide (x.hi=0))) &&
 (decide (x.kind=2) || (decide (x.weights.length=0) && decide (x.labels.length=0))) && (decide (x.kind=3) || bC x.name) && (decide (x.kind=4) || decide (x.values.length=0)) &&
 ((!decide (x.kind=0) && !decide (x.kind=1)) || decide (x.kids.length=0))
def pA (x:GN):Bool :=
 if x.kind=2 then decide (1<=x.kids.length) && decide (x.kids.length<=256) && decide (x.weights.length=x.kids.length) && (decide (x.labels.length=0) || decide (x.labels.length=x.kids.length))
 else if x.kind=3 then (if bC x.name then decide (x.kids.length<=256) else decide (x.kids.length<=16) && decide (eW (.mk 3 0 x.name [])=0))
 else if x.kind=4 then pT x.values && decide (x.kids.length=x.values.length+1)
 else true
def dG (i:Int)(x:GN):Bool:=x.kids.all (fun z=>!fmK i z) && pA x
theorem aFw (v:GV):qU v=decide (cO v bO=0):=by
 rw [Bool.eq_iff_iff,decide_eq_true_iff]
 constructor
 ·intro h
  obtain ⟨k,n,s,l⟩:=v;have h':(decide (k=0) && decide (n=0) && bC s && !decide (0<l.length))=true:=h;simp only [Bool.and_eq_true,decide_eq_true_eq,Bool.not_eq_true',decide_eq_false_iff_not,bC,List.isEmpty_iff] at h';obtain ⟨⟨⟨rfl,rfl⟩,hs⟩,hl⟩:=h';rw [vK hs,List.eq_nil_of_length_eq_zero (Nat.eq_zero_of_not_pos hl)];exact qE _
 ·intro h
  rw [fW _ _ h];have h':(decide ((0:Int)=0) && decide ((0:Int)=0) && bC ByteArray.empty && !decide (0<([]:List GV).length))=true:=by rw [iB kE];rfl
  exact h'
theorem aN3 (s:ByteArray):decide (eW (.mk 3 0 s [])=0)=qK s:=by
 rw [oU];unfold eJ;rw [cI,cI,nI];simp only [GV.kids,eB,fP,Bool.and_true];have h1:aJ (.mk 3 0 s [])=qK s:=by simp [aJ,GV.kind,GV.n,GV.s]
 have h2:cF (.mk 3 0 s [])=true:=by simp [cF,GV.kind,GV.kids]
 rw [h1,h2]
 cases qK s <;> simp
theorem aEi (i:Int)(x:GN):(cQ x && dG i x)=eO i x:=by
 unfold cQ dG eO fmA gP unA unB unC fmC fmS pA;rw [aFw,aN3];have hb:x.values.length=0->pT x.values=true:=fun h=>mZ (by omega)
 generalize x.kids.all (fun z=>!fmK i z)=bk;generalize decide (cO x.value bO=0)=bz;generalize bC x.name=be;generalize qK x.name=bc;generalize pT x.values=bi at *;generalize x.weights.length=nw at *;generalize x.labels.length=nl at *;generalize x.values.length=nv at *;generalize x.kids.length=nk at *;generalize x.lo=lo at *;generalize x.hi=hi at *;generalize x.kind=k at *
 by_cases h4:k=4
 ·subst h4;clear hb;cases bk <;> cases bz <;> cases be <;> cases bc <;> cases bi <;> simp <;> (rw [Bool.eq_iff_iff];simp;try omega)
 by_cases h0:k=0
 ·subst h0;by_cases hv:nv=0
  ·have:=hb hv;subst this hv;cases bk <;> cases bz <;> cases be <;> cases bc <;> simp <;> (rw [Bool.eq_iff_iff];simp;try omega)
  ·cases bk <;> cases bz <;> cases be <;> cases bc <;> cases bi <;> simp [hv,show 0<nv by omega]
 by_cases h1:k=1
 ·subst h1;by_cases hv:nv=0
  ·have:=hb hv;subst this hv;cases bk <;> cases bz <;> cases be <;> cases bc <;> simp <;> (rw [Bool.eq_iff_iff];simp;try omega)
  ·cases bk <;> cases bz <;> cases be <;> cases bc <;> cases bi <;> simp [hv,show 0<nv by omega]
 by_cases h2:k=2
 ·subst h2;by_cases hv:nv=0
  ·have:=hb hv;subst this hv;cases bk <;> cases bz <;> cases be <;> cases bc <;> simp <;> (rw [Bool.eq_iff_iff];simp;try omega)
  ·cases bk <;> cases bz <;> cases be <;> cases bc <;> cases bi <;> simp [hv,show 0<nv by omega]
 by_cases h3:k=3
 ·subst h3;by_cases hv:nv=0
  ·have:=hb hv;subst this hv;cases bk <;> cases bz <;> cases be <;> cases bc <;> simp <;> (rw [Bool.eq_iff_iff];simp;try omega)
  ·cases bk <;> cases bz <;> cases be <;> cases bc <;> cases bi <;> simp [hv,show 0<nv by omega]
 ·have hk:(decide (0<=k) && decide (k<=4))=false:=by
   rw [Bool.and_eq_false_iff];simp;omega
  have hk2:(decide (k<0) || decide (4<k))=true:=by simp;omega
  rw [hk];simp only [Bool.false_and];rw [Bool.or_assoc,hk2];simp
theorem wP {i:Int}{x:GN}(h:eO i x=true)(hk:x.kind=0):x.values=[]:=by
 rw [<- aEi] at h;unfold cQ at h;simp [hk] at h;exact h.1.1.2
theorem aHh {i:Int}{x:GN}(h:eO i x=true):gU x=cU (bY x):=by
 unfold gU bY
 by_cases hk:x.kind=0
 ·rw [if_pos hk,if_pos hk,wP h hk,oU]
  simp only [cU]
  split
  ·next h0=>exact h0
  ·rfl
 ·rw [if_neg hk,if_neg hk,wR]
theorem rU (i:Int)(x:GN):iF i x=if (cQ x && dG i x)=false then 1 else if gU x=0 then (if bM x then 0 else 5) else gU x:=by
 unfold iF;rw [aEi]
 cases h:eO i x
 ·rfl
 ·rw [aHh h]
def oA (t:List GN):Prop:=∀ x ∈ t,gsz x.value<=1000000
mutual
theorem xS:∀ (x:GV),gsz x<=1000000000->rsz x=gsz x
 | .mk k n s l,h=>by
  simp only [gsz] at h ⊢;rw [nI];simp only [GV.kids];rw [zD l 1 (by omega) (by omega)];omega
theorem zD:∀ (l:List GV)(n:Int),1<=n->n+jO l<=1000000001->xF n l=n+jO l
 | [],n,_,_=>by rw [fP];simp [jO]
 | x :: xs,n,h0,h=>by
  simp only [jO] at h ⊢;rw [gR,xS x (by omega),oQ (by unfold I64;omega),zD xs _ (by omega) (by omega)];omega
end
theorem aNl (x:GV):1<=gsz x:=by obtain ⟨k,n,s,l⟩:=x;simp only [gsz];omega
theorem wG {before:List Int}:∀ {zs:List Int}{s:Int},(∀ z ∈ zs,1<=before.getD z.toNat 0∧before.getD z.toNat 0<=1024)->0<=s->s+1024*zs.length<=1000000000->s<=bZ before s zs
 | [],s,_,_,_=>by simp [bZ]
 | z :: zs,s,h,h0,hs=>by
  have hz:=h z (by simp);simp only [List.length_cons] at hs;simp only [bZ];rw [oQ (by unfold I64;omega)];have:=wG (before:=before) (zs:=zs) (s:=s+before.getD z.toNat 0) (fun y hy=>h y (by simp [hy])) (by omega) (by omega);omega
def fZ (before:List Int)(x:GN):Int :=
 if x.kind=0 then rsz x.value else if x.kind=3 then bZ before 1 x.kids else if x.kind=2 then aL before true 0 1 x.kids else if x.kind=4 then aL before false 0 1 x.kids else 1
theorem mB {before:List Int}{ch:Bool}:∀ (zs:List Int)(i:Nat)(m n:Int),m<=n->(n<=aL before ch i m zs->aL before ch i n zs=aL before ch i m zs)∧(aL before ch i m zs<n->aL before ch i n zs=n)
 | [],i,m,n,h=>by simp only [aL];exact ⟨fun hh=>by omega,fun _=>trivial⟩
 | z :: zs,i,m,n,h=>by
  simp only [aL];generalize before.getD z.toNat 0=y
  by_cases hc:ch=true∨0<i
  ·simp only [if_pos hc]
   by_cases h1:n<y
   ·rw [if_pos h1,if_pos (by omega:m<y)]
    have hy:=(fD (before:=before) (ch:=ch) zs (i+1) y).1;exact ⟨fun _=>rfl,fun hh=>by omega⟩
   ·rw [if_neg h1]
    exact mB zs (i+1) _ n (by split <;> omega)
  ·simp only [if_neg hc]
   exact mB zs (i+1) m n h
theorem jU {t:List GN}{j:Nat}(hj:j<t.length){z:Int}(hz:0<=z∧z<(j:Int)):(bP (t.take j)).getD z.toNat 0=(bP t).getD z.toNat 0:=by
 unfold bP;rw [gZ fI t j (by omega)];have:z.toNat<j:=by omega
 simp [List.getD,this]
theorem lR {t:List GN}{j:Nat}(hj:j<t.length):(bP t).getD j 0=fI (bP (t.take j)) (t.getD j default):=oL fI 0 t hj
theorem oZ {before:List Int}{j:Nat}{x:GN}(hn:dP j x)(hb:∀ z:Int,0<=z->z<j->1<=before.getD z.toNat 0) :
  fZ before x=fI before x∨(x.kind=4∧x.values=[]∧fZ before x=1∧fI before x=0):=by
 unfold fZ fI
 by_cases h0:x.kind=0
 ·left;simp [h0]
 ·by_cases h1:x.kind=1
  ·left;simp [h1]
  ·by_cases h3:x.kind=3
   ·left;simp [h3]
   ·by_cases h2:x.kind=2
    ·left
     simp only [h2];have hc:=hn.choice h2;have hk:=hn.kids _ (aG (d:=0) (show 0<x.kids.length by omega));have hg:=(fD (before:=before) (ch:=true) x.kids 0 0).2 0 (by omega) (.inl rfl);have h5:=hb _ hk.1 hk.2;have:=(mB (before:=before) (ch:=true) x.kids 0 0 1 (by omega)).1 (by omega)
     simpa using this
    ·have hk4:x.kind=4:=by have:=hn.kind;omega
     simp only [hk4];have hl:=hn.bind hk4
     by_cases hv:x.values=[]
     ·right
      rw [hv] at hl;simp only [List.length_nil] at hl;obtain ⟨z,hz⟩:∃ z,x.kids=[z]:=List.length_eq_one_iff.1 hl;rw [hz];simp [aL,hv]
     ·left
      have hvl:0<x.values.length:=List.length_pos_iff.2 hv;have hk:=hn.kids _ (aG (d:=0) (show 1<x.kids.length by omega));have hg:=(fD (before:=before) (ch:=false) x.kids 0 0).2 1 (by omega) (.inr (by omega));have h5:=hb _ hk.1 hk.2;have:=(mB (before:=before) (ch:=false) x.kids 0 0 1 (by omega)).1 (by omega)
      simpa using this
theorem sY {t:List GN}{i:Nat}(h:bJ t i)(hs:oA t):∀ j,j<i->1<=(bP t).getD j 0∧(bP t).getD j 0<=1024:=by
 intro j
 induction j using Nat.strongRecOn with
 | ind j ih =>
  intro hj;have hc:=h.at_ hj;have hlt:j<t.length:=by have:=h.1;omega
  refine ⟨?_,hc.size⟩;have hn:=hc.node
  have hk:∀ z:Int,0<=z->z<(j:Int)->1<=(bP (t.take j)).getD z.toNat 0∧(bP (t.take j)).getD z.toNat 0<=1024:=fun z h1 h2=>by
   rw [jU hlt ⟨h1,h2⟩];exact ih z.toNat (by omega) (by omega)
  have hf:=fE h hj;have hv:=hs _ (aG (d:=default) hlt);rw [lR hlt];generalize t.getD j default=x at *;have hp:=oZ hn (fun z h1 h2=>(hk z h1 h2).1);have hne:x.kind=4->x.values ≠ []:=fun h4 hv=>by have:=hf.2.2 h4;rw [hv] at this;simp at this
  have hz:∀ z ∈ x.kids,1<=(bP (t.take j)).getD z.toNat 0∧(bP (t.take j)).getD z.toNat 0<=1024:=fun z hz=>hk z (hn.kids z hz).1 (hn.kids z hz).2
  generalize bP (t.take j)=before at *;rcases hp with hp | ⟨h4,hv,_⟩
  ·rw [<- hp]
   unfold fZ
   split
   ·rw [xS _ (by omega)];have:=aNl x.value;omega
   ·split
    ·exact wG hz (by omega) (by omega)
    ·split
     ·exact (fD x.kids 0 1).1
     ·split
      ·exact (fD x.kids 0 1).1
      ·exact Int.le_refl _
  ·exact absurd hv (hne h4)
end Go.Proofs.YtkoeecdjijfjnaaGreat
