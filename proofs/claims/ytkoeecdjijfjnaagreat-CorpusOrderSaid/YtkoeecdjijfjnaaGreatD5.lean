/- The contract of the reference's parts. Conditions: none. -/
import Derived.Test.YtkoeecdjijfjnaaGreatD4
namespace Go.Proofs.YtkoeecdjijfjnaaGreat
open Go.RowKit
structure PartsW (vn:Value)(x:GN)(a:NA)(w W:World):Prop where
 ext:Ext w W
 size:W.heap.size=w.heap.size+4
 tree:Blk W w.heap.size 25 #[vn]
 box:Blk W (w.heap.size+1) 87 (ncells x a).toArray
 res:Blk W (w.heap.size+2) 154 zcells
 out:Blk W (w.heap.size+3) 154 (ocells 0 (-1) (.slice none 0 0))
theorem PartsW.mk' (vn:Value)(x:GN)(a:NA)(w:World):PartsW vn x a w ((((w.alloc (.cells #[vn] 25)).alloc (.cells (ncells x a).toArray 87)).alloc (.cells zcells 154)).alloc (.cells (ocells 0 (-1) (.slice none 0 0)) 154)) :=
 ⟨((((Ext.refl w).alloc' _).alloc' _).alloc' _).alloc' _,by simp,(((Blk.new w 25 #[vn]).alloc _).alloc _).alloc _,((Blk.new' _ _ _ (by simp)).alloc _).alloc _,(Blk.new' _ _ _ (by simp)).alloc _,Blk.new' _ _ _ (by simp)⟩
def PartInv (t:List GN)(path:List Int)(f:Nat)(x:GN)(at_:Int)(P:Nat→Prop)(W:World)(g:Nat)(vv i:Value)(wr:World):Prop :=
 ∃ (k:Nat) (used:Int) (acc:List GV) (sv:Value) (m:Nat) (xs ys:List Value),k≤x.kids.length∧i=.int .i64 k∧PSt P W g used sv m xs vv acc ys wr∧m≤k*5 ^ f∧acc.length=k∧0≤used∧at_+used≤path.length ∧
  readParts (readR t path f) x.name at_ 0 [] x.kids=readParts (readR t path f) x.name at_ used acc (x.kids.drop k)
theorem sp_bound {m k n N:Nat}(h1:m≤k*N)(h2:n+1≤N):m+1+n≤(k+1)*N:=by rw [Nat.add_mul];omega
theorem sp_big {m k N:Nat}(h1:m≤k*N)(hk:k≤4)(hN:N≤30517578125):m≤122070312500:=by
 have h2:k*N≤4*30517578125:=Nat.mul_le_mul hk hN
 omega
theorem pow_big {f:Nat}(hf:f<16):5 ^ f≤30517578125:=by
 have h1:5 ^ f≤5 ^ 15:=Nat.pow_le_pow_right (by omega) (by omega)
 exact h1
theorem sp_last {m k f:Nat}(h1:m≤k*5 ^ f)(hk:k≤4):m+1≤5 ^ (f+1):=by
 have h2:k*5 ^ f≤4*5 ^ f:=Nat.mul_le_mul_right _ hk
 have h3:0<5 ^ f:=Nat.pos_of_ne_zero (by simp)
 rw [Nat.pow_succ]
 omega
set_option maxRecDepth 100000 in
set_option maxHeartbeats 8000000 in
theorem parts_any (t:List GN)(path:List Int)(f i:Nat)(at_:Int)(P:Nat→Prop)(vn vp:Value)(w:World)(x:GN)(a:NA)(hS:ReadSaid t path f)(hR:∀ (z:Nat)(k:Int),z<f→z<t.length→0≤k→k≤path.length→ReadOK t path z k (readR t path f z k))
  (hkids:∀ z ∈ x.kids,0≤z∧z<(i:Int))(hif:i<f+1)(hi:i<t.length)(hfew:x.kids.length≤4)(hf16:f<16)(h0:0≤at_)(h1:at_≤path.length)(hpl:path.length≤1000000)(hP:∀ b,P b→b<w.heap.size)(ht:Nds w P vn t)(hx:NAt w P x a)(hvp:Ints w P vp path) :
  Calls Tryz.prog 183 #[.agg #[vn],nagg x a,vp,.int .i64 at_] w (RetR P (readParts (readR t path f) x.name at_ 0 [] x.kids) (5 ^ (f+1)) w):=by
 have HT:=Lib.hid ht
 have HPP:=Lib.hid hP
 have HA:=Lib.hid hx
 have HVP:=Lib.hid hvp
 have HKI:=Lib.hid hkids
 have HPW:=Lib.hid (pow_big hf16)
 obtain ⟨An,cn,en,hn1,hn2⟩:=ht.form
 subst en
 obtain ⟨Ap,cp,ep,hp1,hp2⟩:=hvp.form
 subst ep
 have hkl:=hx.kids.le
 obtain ⟨i3,hi3,hz30,hz31,hz32⟩:=info_parts Tryz.info254
 have HI3:=Lib.hid hi3
 obtain ⟨i8,hi8,hz80,hz81,hz82⟩:=info_parts Tryz.info85
 have HI8:=Lib.hid hi8
 clear ht hP hx hvp hkids hi3 hi8
 go_enter Tryz.func183,Tryz.ntmps183
 go_upto_region 2 with fail
 have HW:=Lib.hid (PartsW.mk' (.slice An t.length cn) x a w)
 generalize hW:((((w.alloc (.cells #[.slice An t.length cn] 25)).alloc (.cells (ncells x a).toArray 87)).alloc (.cells zcells 154)).alloc (.cells (ocells 0 (-1) (.slice none 0 0)) 154))=W at *
 clear hW
 have hsw:w.heap.size+4≤W.heap.size:=by have:=HW.out.size;omega
 go_wp2_with fail
 go_loopw [10,11] (fun v k wr=>PartInv t path f x at_ P W (w.heap.size+3) v k wr) (fun _ k _=>x.kids.length - (intOf k).toNat)
 case atStart =>
  exact ⟨0,0,[],.slice none 0 0,0,[],[],Nat.zero_le _,rfl,⟨by omega,fun h=>by have:=HPP.out _ h;omega,HW.out.out,own_none _ _ _ _,by simp,own_none _ _ _ _,rfl,fun b h=>by simp [Value.ownBlock] at h,Fr.refl _ _⟩,by simp,rfl,Int.le_refl _,by omega,rfl⟩
 case round =>
  obtain ⟨k,used,acc,sv,m,xs,ys,hk,rfl,hps,hm,hacc,hu0,hu1,hrp⟩:=hrel
  have HPS:=Lib.hid hps
  have HRP:=Lib.hid hrp
  have HM:=Lib.hid hm
  have HACC:=Lib.hid hacc
  have hmb:=sp_big hm (by omega) HPW.out
  have HWR:=Lib.hid (show Ext w wr from Fr.new_ext ((Fr.of_ext HW.out.ext).trans hps.fr) (fun b hb=>by omega))
  have hszr:=hps.size
  have BOX:=Lib.hid (HW.out.box.fr hps.fr (by omega))
  have TREE:=Lib.hid (HW.out.tree.fr hps.fr (by omega))
  have RES:=Lib.hid (HW.out.res.fr hps.fr (by omega))
  have x7:=BOX.out.cell' (u:=.slice a.kA x.kids.length a.kc) 7 rfl
  obtain ⟨As,cs,es,-,-,-⟩:=Sl.of_own hps.sp
  subst es
  have o0:=hps.out.cell' (u:=.int .i64 0) 0 rfl
  have o1:=hps.out.cell' (u:=.int .i64 0) 1 rfl
  have o2:=hps.out.cell' (u:=.string ⟨#[]⟩) 2 rfl
  have o3:=hps.out.cell' (u:=.slice none 0 0) 3 rfl
  have o4:=hps.out.cell' (u:=.int .i64 used) 4 rfl
  have o5:=hps.out.cell' (u:=.int .i64 (-1)) 5 rfl
  have o6:=hps.out.cell' (u:=.slice As m cs) 6 rfl
  have fo0:=hps.out.frozen 0
  have fo1:=hps.out.frozen 1
  have fo2:=hps.out.frozen 2
  have fo3:=hps.out.frozen 3
  have fo4:=hps.out.frozen 4
  have fo5:=hps.out.frozen 5
  have fo6:=hps.out.frozen 6
  clear hps hrp hm hacc
  by_cases hlt:k<x.kids.length
  ·obtain ⟨bk,ok,ek,-,-,gk⟩:=(HA.out.kids.ext HWR.out).get hlt
   have hz:=HKI.out _ (getD_mem (d:=0) hlt)
   have lbk:=lt_of_cell gk
   have HD:=Lib.hid (HRP.out.trans (by rw [drop_getD 0 hlt,readParts]))
   have HZ:=Lib.hid (show x.kids.getD k 0=((x.kids.getD k 0).toNat:Int) by omega)
   generalize (x.kids.getD k 0).toNat=zn at *
   rw [HZ.out] at gk hz HD
   rw [ek] at x7
   have y0:=TREE.out.cell' (u:=.slice An t.length cn) 0 rfl
   clear ek
   have hk0:(0:Int)≤(k:Int):=by omega
   have hk1:(k:Int)<(x.kids.length:Int):=by omega
   have hwrap:IntKind.i64.wrap (at_+used)=at_+used:=IntWalk.i64_in _ (by omega)
   go_upto_region 6 with fail
   have HSA:=Lib.hid (hS zn (at_+used) P _ _ ((wr.alloc (.cells zcells 154)).drew) (by omega) (by omega) (by omega) (by omega) (fun b hb=>by have:=HPP.out b hb;simp;omega) ((HT.out.ext HWR.out).ext ((Ext.refl _).alloc' _).drew') ((HVP.out.ext HWR.out).ext ((Ext.refl _).alloc' _).drew'))
   have HSB:=Lib.hid (hS zn (at_+used) P _ _ wr.drew (by omega) (by omega) (by omega) (by omega) (fun b hb=>by have:=HPP.out b hb;show b<wr.heap.size;omega) ((HT.out.ext HWR.out).ext (Ext.refl _).drew') ((HVP.out.ext HWR.out).ext (Ext.refl _).drew'))
   have hro:=hR zn (at_+used) (by omega) (by omega) (by omega) (by omega)
   generalize hgr:readR t path f (zn:Int) (at_+used)=rb at *
   clear hgr
   have hrb0:=hro.used0
   have hrb1:=hro.usedP
   have Hrb:=Lib.hid hro
   clear hro
   have hl0:w.heap.size<wr.heap.size:=by omega
   have hn0:¬ w.heap.size=wr.heap.size:=by omega
   have hl1:w.heap.size+1<wr.heap.size:=by omega
   have hn1:¬ w.heap.size+1=wr.heap.size:=by omega
   have hl2:bk<wr.heap.size:=by omega
   have hn2:¬ bk=wr.heap.size:=by omega
   have hl3:w.heap.size+1+1+1<wr.heap.size:=by omega
   have hn3:¬ w.heap.size+1+1+1=wr.heap.size:=by omega
   go_cut [12] (fun s wx=>RdCut P rb (5 ^ f) wr s wx)
   case first =>
    go_region_held3 (fun w'=>w'.cell? ⟨w.heap.size,0,none⟩=some (.slice An t.length cn)∧w'.cell? ⟨w.heap.size+1,7,none⟩=some (.slice (some ⟨bk,ok,none⟩) x.kids.length a.kc)∧w'.cell? ⟨bk,ok+k,none⟩=some (.int .i64 zn)∧w'.cell? ⟨w.heap.size+1+1+1,4,none⟩=some (.int .i64 used))
     (first
      | (go_split_ands
         with_reducible exact ⟨cell_set7 hn0 ‹_›,cell_set7 hn1 ‹_›,cell_set7 hn2 ‹_›,cell_set7 hn3 ‹_›⟩)
      | (go_split_ands
         with_reducible exact ⟨cell_ext hx2 ‹_›,cell_ext hx2 ‹_›,cell_ext hx2 ‹_›,cell_ext hx2 ‹_›⟩)
      | (go_split_ands
         with_reducible exact ⟨cell_realloc hq0 ‹_›,cell_realloc hq1 ‹_›,cell_realloc hq2 ‹_›,cell_realloc hq3 ‹_›⟩)
      | (go_split_ands
         with_reducible exact ⟨cell_alloc_of ‹_› _,cell_alloc_of ‹_› _,cell_alloc_of ‹_› _,cell_alloc_of ‹_› _⟩)
      | go_keep)
     (first
      | (go_at_call 144;(with_reducible refine HSB.out.mono ?_);rintro e w2 ⟨A2,d2,sv,m,xs,rfl,hv2,hown2,hm2,hx2⟩;obtain ⟨A3,c3,e3,-,-,-⟩:=Sl.of_own hown2;subst e3;have hs2:=hx2.size;simp at hs2;have hq0:w.heap.size<w2.heap.size:=(by omega);have hq1:w.heap.size+1<w2.heap.size:=(by omega);have hq2:bk<w2.heap.size:=(by omega);have hq3:w.heap.size+1+1+1<w2.heap.size:=(by omega))
      | (go_at_call 144;(with_reducible refine HSA.out.mono ?_);rintro e w2 ⟨A2,d2,sv,m,xs,rfl,hv2,hown2,hm2,hx2⟩;obtain ⟨A3,c3,e3,-,-,-⟩:=Sl.of_own hown2;subst e3;have hs2:=hx2.size;simp at hs2;have BZ:=((Blk.new' wr 154 zcells (g:=wr.heap.size) rfl).drew).ext hx2;have z0:=BZ.cell' (u:=.int .i64 0) 0 rfl;have z1:=BZ.cell' (u:=.int .i64 0) 1 rfl;have z2:=BZ.cell' (u:=.string ⟨#[]⟩) 2 rfl;have z3:=BZ.cell' (u:=.slice none 0 0) 3 rfl;have z4:=BZ.cell' (u:=.int .i64 0) 4 rfl;have z5:=BZ.cell' (u:=.int .i64 0) 5 rfl;have z6:=BZ.cell' (u:=.slice none 0 0) 6 rfl;have fz0:=BZ.frozen 0;have fz1:=BZ.frozen 1;have fz2:=BZ.frozen 2;have fz3:=BZ.frozen 3;have fz4:=BZ.frozen 4;have fz5:=BZ.frozen 5;have fz6:=BZ.frozen 6;clear BZ))
    ·go_wp2_with fail
     go_meet
     exact RdCut.late (fun b hb=>by have:=HPP.out b hb;omega) hv2 hown2 hm2 ((Ext.refl wr).drew'.trans' hx2)
    ·go_wp2_with fail
     go_meet
     exact RdCut.early (fun b hb=>by have:=HPP.out b hb;omega) hv2 hown2 hm2 (by simp) ((Ext.refl _).drew'.trans' hx2)
   case rest =>
    obtain ⟨wy,grb,Arb,drb,svrb,mrb,xsrb,rfl,rfl,hB,hgrb,hv,hown,hmrb,hsg,hx2⟩:=hcut
    obtain ⟨Brb,crb,e3,-,-,-⟩:=Sl.of_own hown
    subst e3
    have HBrb:=Lib.hid hB
    have HVrb:=Lib.hid hv
    have HOrb:=Lib.hid hown
    have HSGrb:=Lib.hid hsg
    have HXrb:=Lib.hid hx2
    have hglrb:=hB.lt
    have hszrb:=hx2.size
    clear hB hv hown hsg hx2
    clear hwrap x7 y0 gk hn0 hn1 hn2 hn3 hl0 hl1 hl2 hl3
    clear o0 o1 o2 o3 o4 o5 o6 fo0 fo1 fo2 fo3 fo4 fo5 fo6
    have HP0:=Lib.hid (HPS.out.ext HXrb.out)
    have hmr:=hmrb.le hf16
    have hrk:grb<wy.heap.size:=hglrb
    have HSPO:=Lib.hid (show ∀ b,(Value.slice As m cs).ownBlock=some b→W.heap.size≤b∧b<wr.heap.size from fun b hb=>⟨HPS.out.sp.block_ge hb,HPS.out.sp.block_lt hb⟩)
    have HVVO:=Lib.hid (show ∀ b,u10.ownBlock=some b→W.heap.size≤b∧b<wr.heap.size from fun b hb=>⟨HPS.out.vs.block_ge hb,HPS.out.vs.block_lt hb⟩)
    have HRBV:=Lib.hid (HVrb.out.carry (Q:=OffS P W.heap.size wy (.slice As m cs) u10) (fun _ _ _=>rfl) (fun b hb h=>⟨h.1.elim .inl (fun h=>.inr (by omega)),hb,fun e=>by have h2:=HSPO.out b e.symm;rcases h.1 with h | h;(have:=HPP.out b h;omega);omega,fun e=>by have h2:=HVVO.out b e.symm;rcases h.1 with h | h;(have:=HPP.out b h;omega);omega⟩))
    have o0:=HP0.out.out.cell' (u:=.int .i64 0) 0 rfl
    have o1:=HP0.out.out.cell' (u:=.int .i64 0) 1 rfl
    have o2:=HP0.out.out.cell' (u:=.string ⟨#[]⟩) 2 rfl
    have o3:=HP0.out.out.cell' (u:=.slice none 0 0) 3 rfl
    have o4:=HP0.out.out.cell' (u:=.int .i64 used) 4 rfl
    have o5:=HP0.out.out.cell' (u:=.int .i64 (-1)) 5 rfl
    have o6:=HP0.out.out.cell' (u:=.slice As m cs) 6 rfl
    have fo0:=HP0.out.out.frozen 0
    have fo1:=HP0.out.out.frozen 1
    have fo2:=HP0.out.out.frozen 2
    have fo3:=HP0.out.out.frozen 3
    have fo4:=HP0.out.out.frozen 4
    have fo5:=HP0.out.out.frozen 5
    have fo6:=HP0.out.out.frozen 6
    have k0:=HBrb.out.cell' (u:=.int .i64 rb.val.kind) 0 rfl
    have k1:=HBrb.out.cell' (u:=.int .i64 rb.val.n) 1 rfl
    have k2:=HBrb.out.cell' (u:=.string rb.val.s) 2 rfl
    have k3:=HBrb.out.cell' (u:=.slice Arb rb.val.kids.length drb) 3 rfl
    have k4:=HBrb.out.cell' (u:=.int .i64 rb.used) 4 rfl
    have k5:=HBrb.out.cell' (u:=.int .i64 rb.stop) 5 rfl
    have k6:=HBrb.out.cell' (u:=.slice Brb mrb crb) 6 rfl
    have hgg:¬ grb=w.heap.size+1+1+1:=by omega
    have hgl3:w.heap.size+1+1+1<wy.heap.size:=by omega
    have hwz:W.heap.size≤wy.heap.size:=by omega
    go_upto_region 8 with (at_builtin;go_must (refine wpList_append_sl _ rfl (.tmp 34) (.tmp 48) 152 (by rfl) W.heap.size 254 i3 _ 3 24 Tryz.underlying152 HI3.out hz30 hz31 hz32 rfl (by omega) (.slice As m cs) m xs rfl (HP0.out.sp.alloc _) (fun _=>True) (some ⟨wy.heap.size,0,none⟩) 1 1 [.int .i64 at_,.int .i64 (at_+used),.int .i64 (at_+used+rb.used)] rfl (Sl.new wy _ _ _ _ rfl) (by simp [Value.oneCell']) (by omega) (by omega) (by simp;omega) ?_);intro v5 w5 ho5 hf5 hb5;obtain ⟨A5,c5,e5,-,-,-⟩:=Sl.of_own ho5;subst e5;have BO5:=(HP0.out.out.alloc (.cells #[.int .i64 at_,.int .i64 (at_+used),.int .i64 (at_+used+rb.used)] 254)).fr hf5 (fun e=>by have:=(HSPO.out _ e.symm).1;omega);have p6:=BO5.cell' (u:=.slice As m cs) 6 rfl;have fp6:=BO5.frozen 6;clear BO5)
    have HP1:=Lib.hid ((HP0.out.ext ((Ext.refl wy).alloc' (.cells #[.int .i64 at_,.int .i64 (at_+used),.int .i64 (at_+used+rb.used)] 254))).spans ho5 (by simp [Value.oneCell']) hf5 hb5)
    have hkp:=(HP0.out.ext ((Ext.refl wy).alloc' (.cells #[.int .i64 at_,.int .i64 (at_+used),.int .i64 (at_+used+rb.used)] 254))).spans_keep (sv2:=.slice A5 (m+1) c5) hf5 hb5
    have HV1:=Lib.hid ((HRBV.out.carry (Q:=OffS P W.heap.size (wy.alloc (.cells #[.int .i64 at_,.int .i64 (at_+used),.int .i64 (at_+used+rb.used)] 254)) (.slice As m cs) u10) (Keeps.of_ext ((Ext.refl wy).alloc' _)) (fun b hb h=>⟨h.1,by simp;omega,h.2.2⟩)).carry hkp.1 hkp.2)
    have hng:¬ some grb=(Value.slice As m cs).ownBlock:=fun e=>by have:=HSPO.out _ e.symm;omega
    have BR1:=Lib.hid (((HBrb.out.alloc (.cells #[.int .i64 at_,.int .i64 (at_+used),.int .i64 (at_+used+rb.used)] 254)).fr hf5 hng).far (p:=⟨w.heap.size+1+1+1,6,none⟩) hgg (.slice A5 (m+1) c5))
    have HOB:=Lib.hid (ownsRow_setCell_below (own_fr (HOrb.out.alloc (.cells #[.int .i64 at_,.int .i64 (at_+used),.int .i64 (at_+used+rb.used)] 254)) hf5 (fun b hb e=>by have h1:=HOrb.out.block_ge hb;have h2:=HSPO.out b e.symm;omega)) (a:=⟨w.heap.size+1+1+1,6,none⟩) (by show w.heap.size+1+1+1<wr.heap.size;omega) (.slice A5 (m+1) c5))
    have HOW1:=Lib.hid (show ∀ b,(Value.slice A5 (m+1) c5).ownBlock=some b→b ≠ grb from by
     intro b hb e
     subst e
     rcases hb5 with h | h
     ·exact hng (by rw [← h];exact hb.symm)
     ·rw [hb] at h;injection h with h;simp at h;omega)
    have hs5:=hf5.size
    simp at hs5
    have hsz1:wy.heap.size≤(w5.setCell ⟨w.heap.size+1+1+1,6,none⟩ (.slice A5 (m+1) c5)).heap.size:=by simp [World.setCell];omega
    clear hkp hng ho5 hf5 hb5 p6 fp6 hs5
    clear o0 o1 o2 o3 o4 o5 o6 fo0 fo1 fo2 fo3 fo4 fo5 fo6
    clear k0 k1 k2 k3 k4 k5 k6
    generalize hw6:w5.setCell ⟨w.heap.size+1+1+1,6,none⟩ (.slice A5 (m+1) c5)=w6 at *
    clear hw6
    have o0:=HP1.out.out.cell' (u:=.int .i64 0) 0 rfl
    have o1:=HP1.out.out.cell' (u:=.int .i64 0) 1 rfl
    have o2:=HP1.out.out.cell' (u:=.string ⟨#[]⟩) 2 rfl
    have o3:=HP1.out.out.cell' (u:=.slice none 0 0) 3 rfl
    have o4:=HP1.out.out.cell' (u:=.int .i64 used) 4 rfl
    have o5:=HP1.out.out.cell' (u:=.int .i64 (-1)) 5 rfl
    have o6:=HP1.out.out.cell' (u:=.slice A5 (m+1) c5) 6 rfl
    have fo0:=HP1.out.out.frozen 0
    have fo1:=HP1.out.out.frozen 1
    have fo2:=HP1.out.out.frozen 2
    have fo3:=HP1.out.out.frozen 3
    have fo4:=HP1.out.out.frozen 4
    have fo5:=HP1.out.out.frozen 5
    have fo6:=HP1.out.out.frozen 6
    have k0:=BR1.out.cell' (u:=.int .i64 rb.val.kind) 0 rfl
    have k1:=BR1.out.cell' (u:=.int .i64 rb.val.n) 1 rfl
    have k2:=BR1.out.cell' (u:=.string rb.val.s) 2 rfl
    have k3:=BR1.out.cell' (u:=.slice Arb rb.val.kids.length drb) 3 rfl
    have k4:=BR1.out.cell' (u:=.int .i64 rb.used) 4 rfl
    have k5:=BR1.out.cell' (u:=.int .i64 rb.stop) 5 rfl
    have k6:=BR1.out.cell' (u:=.slice Brb mrb crb) 6 rfl
    go_upto_region 9 with (at_builtin;go_must (refine wpList_append_sl _ rfl (.tmp 52) (.tmp 54) 152 (by rfl) W.heap.size 254 i3 _ 3 24 Tryz.underlying152 HI3.out hz30 hz31 hz32 rfl (by omega) (.slice A5 (m+1) c5) _ _ rfl HP1.out.sp (fun _=>True) Brb mrb crb xsrb rfl (own_sl HOB.out) hmrb.2 (by omega) (by omega) (by omega) ?_);intro v7 w7 ho7 hf7 hb7;obtain ⟨A7,c7,e7,-,-,-⟩:=Sl.of_own ho7;subst e7;have BO7:=HP1.out.out.fr hf7 (fun e=>by have:=HP1.out.sp.block_ge e.symm;omega);have p6:=BO7.cell' (u:=.slice A5 (m+1) c5) 6 rfl;have fp6:=BO7.frozen 6;clear BO7)
    have HP2:=Lib.hid (HP1.out.spans ho7 hmrb.2 hf7 hb7)
    have hkp:=HP1.out.spans_keep (sv2:=.slice A7 (m+1+mrb) c7) hf7 hb7
    have HV2:=Lib.hid (HV1.out.carry hkp.1 hkp.2)
    have BR2:=Lib.hid ((BR1.out.fr hf7 (fun e=>HOW1.out _ e.symm rfl)).far (p:=⟨w.heap.size+1+1+1,6,none⟩) hgg (.slice A7 (m+1+mrb) c7))
    have hs7:=hf7.size
    have hsz2:w6.heap.size≤(w7.setCell ⟨w.heap.size+1+1+1,6,none⟩ (.slice A7 (m+1+mrb) c7)).heap.size:=by simp [World.setCell];omega
    clear hkp ho7 hf7 hb7 p6 fp6 hs7
    clear o0 o1 o2 o3 o4 o5 o6 fo0 fo1 fo2 fo3 fo4 fo5 fo6
    clear k0 k1 k2 k3 k4 k5 k6
    generalize hw8:w7.setCell ⟨w.heap.size+1+1+1,6,none⟩ (.slice A7 (m+1+mrb) c7)=w8 at *
    clear hw8
    have o0:=HP2.out.out.cell' (u:=.int .i64 0) 0 rfl
    have o1:=HP2.out.out.cell' (u:=.int .i64 0) 1 rfl
    have o2:=HP2.out.out.cell' (u:=.string ⟨#[]⟩) 2 rfl
    have o3:=HP2.out.out.cell' (u:=.slice none 0 0) 3 rfl
    have o4:=HP2.out.out.cell' (u:=.int .i64 used) 4 rfl
    have o5:=HP2.out.out.cell' (u:=.int .i64 (-1)) 5 rfl
    have o6:=HP2.out.out.cell' (u:=.slice A7 (m+1+mrb) c7) 6 rfl
    have fo0:=HP2.out.out.frozen 0
    have fo1:=HP2.out.out.frozen 1
    have fo2:=HP2.out.out.frozen 2
    have fo3:=HP2.out.out.frozen 3
    have fo4:=HP2.out.out.frozen 4
    have fo5:=HP2.out.out.frozen 5
    have fo6:=HP2.out.out.frozen 6
    have k0:=BR2.out.cell' (u:=.int .i64 rb.val.kind) 0 rfl
    have k1:=BR2.out.cell' (u:=.int .i64 rb.val.n) 1 rfl
    have k2:=BR2.out.cell' (u:=.string rb.val.s) 2 rfl
    have k3:=BR2.out.cell' (u:=.slice Arb rb.val.kids.length drb) 3 rfl
    have k4:=BR2.out.cell' (u:=.int .i64 rb.used) 4 rfl
    have k5:=BR2.out.cell' (u:=.int .i64 rb.stop) 5 rfl
    have k6:=BR2.out.cell' (u:=.slice Brb mrb crb) 6 rfl
    go_upto_region 10 with fail
    have HP3:=Lib.hid (HP2.out.set_used (used+rb.used))
    have hkp:=HP2.out.used_keep (.int .i64 (used+rb.used))
    have HV3:=Lib.hid (HV2.out.carry hkp.1 hkp.2)
    have BR3:=Lib.hid (BR2.out.far (p:=⟨w.heap.size+1+1+1,4,none⟩) hgg (.int .i64 (used+rb.used)))
    have hsz3:w8.heap.size≤(w8.setCell ⟨w.heap.size+1+1+1,4,none⟩ (.int .i64 (used+rb.used))).heap.size:=by simp [World.setCell]
    clear hkp
    clear o0 o1 o2 o3 o4 o5 o6 fo0 fo1 fo2 fo3 fo4 fo5 fo6
    clear k0 k1 k2 k3 k4 k5 k6
    generalize hw9:w8.setCell ⟨w.heap.size+1+1+1,4,none⟩ (.int .i64 (used+rb.used))=w9 at *
    clear hw9
    have k0:=BR3.out.cell' (u:=.int .i64 rb.val.kind) 0 rfl
    have k1:=BR3.out.cell' (u:=.int .i64 rb.val.n) 1 rfl
    have k2:=BR3.out.cell' (u:=.string rb.val.s) 2 rfl
    have k3:=BR3.out.cell' (u:=.slice Arb rb.val.kids.length drb) 3 rfl
    have k4:=BR3.out.cell' (u:=.int .i64 rb.used) 4 rfl
    have k5:=BR3.out.cell' (u:=.int .i64 rb.stop) 5 rfl
    have k6:=BR3.out.cell' (u:=.slice Brb mrb crb) 6 rfl
    go_upto_region 11 with (at_builtin;go_must (refine wpList_append_sl _ rfl (.tmp 63) (.tmp 66) 83 (by rfl) W.heap.size 85 i8 _ 4 56 Tryz.underlying83 HI8.out hz80 hz81 hz82 rfl (by omega) u10 _ _ rfl (HP3.out.vs.alloc _) (fun _=>True) (some ⟨w9.heap.size,0,none⟩) 1 1 [.int .i64 rb.val.kind,.int .i64 rb.val.n,.string rb.val.s,.slice Arb rb.val.kids.length drb] rfl (Sl.new w9 _ _ _ _ rfl) (by simp [Value.oneCell']) (by have:=HACC.out;omega) (by have:=HACC.out;omega) (by simp;omega) ?_);intro v11 w11 ho11 hf11 hb11)
    have HP4:=Lib.hid ((HP3.out.ext ((Ext.refl w9).alloc' (.cells #[.int .i64 rb.val.kind,.int .i64 rb.val.n,.string rb.val.s,.slice Arb rb.val.kids.length drb] 85))).kid (y:=rb.val) (A:=Arb) (c:=drb) ho11 (HV3.out.carry (Keeps.of_ext ((Ext.refl w9).alloc' _)) (fun b hb h=>⟨h.1,by simp;omega,h.2.2⟩)) hf11 hb11)
    have BR4:=Lib.hid ((BR3.out.alloc (.cells #[.int .i64 rb.val.kind,.int .i64 rb.val.n,.string rb.val.s,.slice Arb rb.val.kids.length drb] 85)).fr hf11 (fun e=>by have:=HVVO.out _ e.symm;omega))
    have hb11':v11.ownBlock=u10.ownBlock∨v11.ownBlock=some (w9.heap.size+1):=by simpa using hb11
    clear ho11 hf11 hb11
    clear k0 k1 k2 k3 k4 k5 k6
    have hs11:=HP4.out.size
    have k5:=BR4.out.cell' (u:=.int .i64 rb.stop) 5 rfl
    by_cases hst:rb.stop=-1
    ·have ts:(rb.stop != -1)=false:=by rw [bne_eq_false_iff_eq];exact hst
     have HST:=Lib.hid hst
     clear hst
     go_wp2_with fail
     go_roundw
     case rel =>
      have hd:=HD.out
      rw [if_pos HST.out] at hd
      exact ⟨k+1,used+rb.used,acc ++ [rb.val],.slice A7 (m+1+mrb) c7,m+1+mrb,_,_,by omega,by go_num,HP4.out,sp_bound HM.out hmrb.1,by simp [HACC.out],by omega,by omega,hd⟩
     case measure=>simp [intOf];omega
    ·have ts:(rb.stop != -1)=true:=bne_iff_ne.2 hst
     have HR2:=Lib.hid (HD.out.trans (if_neg hst))
     clear hst
     have o0:=HP4.out.out.cell' (u:=.int .i64 0) 0 rfl
     have o1:=HP4.out.out.cell' (u:=.int .i64 0) 1 rfl
     have o2:=HP4.out.out.cell' (u:=.string ⟨#[]⟩) 2 rfl
     have o3:=HP4.out.out.cell' (u:=.slice none 0 0) 3 rfl
     have o4:=HP4.out.out.cell' (u:=.int .i64 (used+rb.used)) 4 rfl
     have o5:=HP4.out.out.cell' (u:=.int .i64 (-1)) 5 rfl
     have o6:=HP4.out.out.cell' (u:=.slice A7 (m+1+mrb) c7) 6 rfl
     have fo0:=HP4.out.out.frozen 0
     have fo1:=HP4.out.out.frozen 1
     have fo2:=HP4.out.out.frozen 2
     have fo3:=HP4.out.out.frozen 3
     have fo4:=HP4.out.out.frozen 4
     have fo5:=HP4.out.out.frozen 5
     have fo6:=HP4.out.out.frozen 6
     have RES4:=Lib.hid (HW.out.res.fr HP4.out.fr (by omega))
     have r0:=RES4.out.cell' (u:=.int .i64 0) 0 rfl
     have f0:=RES4.out.frozen 0
     have r1:=RES4.out.cell' (u:=.int .i64 0) 1 rfl
     have f1:=RES4.out.frozen 1
     have r2:=RES4.out.cell' (u:=.string ⟨#[]⟩) 2 rfl
     have f2:=RES4.out.frozen 2
     have r3:=RES4.out.cell' (u:=.slice none 0 0) 3 rfl
     have f3:=RES4.out.frozen 3
     have r4:=RES4.out.cell' (u:=.int .i64 0) 4 rfl
     have f4:=RES4.out.frozen 4
     have r5:=RES4.out.cell' (u:=.int .i64 0) 5 rfl
     have f5:=RES4.out.frozen 5
     have r6:=RES4.out.cell' (u:=.slice none 0 0) 6 rfl
     have f6:=RES4.out.frozen 6
     go_wp2_with fail
     have RES5:=Lib.hid (RES4.out.far (p:=⟨w.heap.size+1+1+1,5,none⟩) (by show w.heap.size+1+1 ≠ w.heap.size+1+1+1;omega) (.int .i64 rb.stop))
     have HE4:=Lib.hid ((show Ext w w11 from Fr.new_ext ((Fr.of_ext HW.out.ext).trans HP4.out.fr) (fun b hb=>by omega)).setCell' (p:=⟨w.heap.size+1+1+1,5,none⟩) (by show w.heap.size≤w.heap.size+1+1+1;omega) (.int .i64 rb.stop))
     have q:=set7_blk RES5.out (.int .i64 0) (.int .i64 0) (.string ⟨#[]⟩) (.slice none 0 0) (.int .i64 (used+rb.used)) (.int .i64 rb.stop) (.slice A7 (m+1+mrb) c7)
     have HX2:=Lib.hid (set7_ext HE4.out (show w.heap.size≤w.heap.size+1+1 by omega) (.int .i64 0) (.int .i64 0) (.string ⟨#[]⟩) (.slice none 0 0) (.int .i64 (used+rb.used)) (.int .i64 rb.stop) (.slice A7 (m+1+mrb) c7))
     have HO:=Lib.hid ((set7_own (ownsRow_setCell_below HP4.out.sp (a:=⟨w.heap.size+1+1+1,5,none⟩) (by show w.heap.size+1+1+1<W.heap.size;omega) (.int .i64 rb.stop)) (show w.heap.size+1+1<W.heap.size by omega) (.int .i64 0) (.int .i64 0) (.string ⟨#[]⟩) (.slice none 0 0) (.int .i64 (used+rb.used)) (.int .i64 rb.stop) (.slice A7 (m+1+mrb) c7)).base_le (show w.heap.size≤W.heap.size by omega))
     change bodyPost Tryz.prog Tryz.f183 _ Exit.ret _ (set7 (w11.setCell ⟨w.heap.size+1+1+1,5,none⟩ (.int .i64 rb.stop)) (w.heap.size+1+1) (.int .i64 0) (.int .i64 0) (.string ⟨#[]⟩) (.slice none 0 0) (.int .i64 (used+rb.used)) (.int .i64 rb.stop) (.slice A7 (m+1+mrb) c7))
     generalize set7 (w11.setCell ⟨w.heap.size+1+1+1,5,none⟩ (.int .i64 rb.stop)) (w.heap.size+1+1) (.int .i64 0) (.int .i64 0) (.string ⟨#[]⟩) (.slice none 0 0) (.int .i64 (used+rb.used)) (.int .i64 rb.stop) (.slice A7 (m+1+mrb) c7)=W' at *
     have q0:=q.cell' (u:=.int .i64 0) 0 rfl
     have q1:=q.cell' (u:=.int .i64 0) 1 rfl
     have q2:=q.cell' (u:=.string ⟨#[]⟩) 2 rfl
     have q3:=q.cell' (u:=.slice none 0 0) 3 rfl
     have q4:=q.cell' (u:=.int .i64 (used+rb.used)) 4 rfl
     have q5:=q.cell' (u:=.int .i64 rb.stop) 5 rfl
     have q6:=q.cell' (u:=.slice A7 (m+1+mrb) c7) 6 rfl
     rw [HR2.out]
     refine bodyPost_ret (v:=.agg (rcells ⟨zeroGV,used+rb.used,rb.stop⟩ none 0 (.slice A7 (m+1+mrb) c7))) (by simp [results,Tryz.results183,go_sem,q0,q1,q2,q3,q4,q5,q6];try (first | rfl | exact ⟨rfl,rfl,rfl,rfl⟩)) rfl ⟨none,0,.slice A7 (m+1+mrb) c7,(m+1+mrb),_,rfl,VAt.zero _ _,HO.out,?_,HX2.out⟩
     exact ⟨sp_last (sp_bound HM.out hmrb.1) (by omega),HP4.out.one⟩
  ·have HEND:=Lib.hid (show readParts (readR t path f) x.name at_ 0 [] x.kids=⟨madeV x.name acc,used,-1⟩ by rw [HRP.out,drop_nil (by omega),readParts])
   have HVS:=Lib.hid HPS.out.vs
   obtain ⟨A10,c10,e10,-,-,-⟩:=Sl.of_own HVS.out
   subst e10
   have HVL:=Lib.hid (show Vals wr (fun b=>P b∨W.heap.size≤b) (.slice A10 acc.length c10) acc from Vals.of_own HVS.out (RVs.carry (fun _ _ _=>rfl) (fun b _ h=>h.1) HPS.out.acc) (by have:=HACC.out;omega) (fun b hb=>.inr (HVS.out.block_ge hb)))
   have HVA:=Lib.hid (VAt.made HA.out.name HVL.out)
   have x0:=BOX.out.cell' (u:=.int .i64 x.kind) 0 rfl
   have x1:=BOX.out.cell' (u:=.string x.name) 1 rfl
   have x2:=BOX.out.cell' (u:=.int .i64 x.lo) 2 rfl
   have x3:=BOX.out.cell' (u:=.int .i64 x.hi) 3 rfl
   have x4:=BOX.out.cell' (u:=.slice a.wA x.weights.length a.wc) 4 rfl
   have x5:=BOX.out.cell' (u:=.slice a.lA x.labels.length a.lc) 5 rfl
   have x6:=BOX.out.cell' (u:=.slice a.vA x.values.length a.vc) 6 rfl
   have x8:=BOX.out.cell' (u:=.int .i64 x.value.kind) 8 rfl
   have x9:=BOX.out.cell' (u:=.int .i64 x.value.n) 9 rfl
   have x10:=BOX.out.cell' (u:=.string x.value.s) 10 rfl
   have x11:=BOX.out.cell' (u:=.slice a.xA x.value.kids.length a.xc) 11 rfl
   clear o0 o1 o2 o3 o4 o5 o6 fo0 fo1 fo2 fo3 fo4 fo5 fo6
   go_wp2_with fail
   refine (refMade_any x a acc A10 c10 _).mono ?_
   rintro e w1 ⟨rfl,hx1⟩
   have HP1:=Lib.hid (HPS.out.ext hx1)
   have HV1:=Lib.hid (HVA.out.carry (Q:=fun b=>P b∨W.heap.size≤b) (Keeps.of_ext hx1) (fun _ _ h=>h))
   have RES1:=Lib.hid (HW.out.res.fr HP1.out.fr (by omega))
   clear hx1 x0 x1 x2 x3 x4 x5 x6 x7 x8 x9 x10 x11
   have o0:=HP1.out.out.cell' (u:=.int .i64 0) 0 rfl
   have o1:=HP1.out.out.cell' (u:=.int .i64 0) 1 rfl
   have o2:=HP1.out.out.cell' (u:=.string ⟨#[]⟩) 2 rfl
   have o3:=HP1.out.out.cell' (u:=.slice none 0 0) 3 rfl
   have o4:=HP1.out.out.cell' (u:=.int .i64 used) 4 rfl
   have o5:=HP1.out.out.cell' (u:=.int .i64 (-1)) 5 rfl
   have o6:=HP1.out.out.cell' (u:=.slice As m cs) 6 rfl
   have fo0:=HP1.out.out.frozen 0
   have fo1:=HP1.out.out.frozen 1
   have fo2:=HP1.out.out.frozen 2
   have fo3:=HP1.out.out.frozen 3
   have fo4:=HP1.out.out.frozen 4
   have fo5:=HP1.out.out.frozen 5
   have fo6:=HP1.out.out.frozen 6
   have r0:=RES1.out.cell' (u:=.int .i64 0) 0 rfl
   have f0:=RES1.out.frozen 0
   have r1:=RES1.out.cell' (u:=.int .i64 0) 1 rfl
   have f1:=RES1.out.frozen 1
   have r2:=RES1.out.cell' (u:=.string ⟨#[]⟩) 2 rfl
   have f2:=RES1.out.frozen 2
   have r3:=RES1.out.cell' (u:=.slice none 0 0) 3 rfl
   have f3:=RES1.out.frozen 3
   have r4:=RES1.out.cell' (u:=.int .i64 0) 4 rfl
   have f4:=RES1.out.frozen 4
   have r5:=RES1.out.cell' (u:=.int .i64 0) 5 rfl
   have f5:=RES1.out.frozen 5
   have r6:=RES1.out.cell' (u:=.slice none 0 0) 6 rfl
   have f6:=RES1.out.frozen 6
   generalize madeV x.name acc=mv at *
   have hsz1:=HP1.out.size
   go_wp2_with fail
   have HQN:∀ b,(P b∨W.heap.size≤b)→b ≠ w.heap.size+1+1+1∧b ≠ w.heap.size+1+1:=by
    rintro b (h | h)
    ·have:=HPP.out b h;omega
    ·omega
   have RES5:=Lib.hid ((((RES1.out.far (p:=⟨w.heap.size+1+1+1,0,none⟩) (by show w.heap.size+1+1 ≠ w.heap.size+1+1+1;omega) (.int .i64 mv.kind)).far (p:=⟨w.heap.size+1+1+1,1,none⟩) (by show w.heap.size+1+1 ≠ w.heap.size+1+1+1;omega) (.int .i64 mv.n)).far (p:=⟨w.heap.size+1+1+1,2,none⟩) (by show w.heap.size+1+1 ≠ w.heap.size+1+1+1;omega) (.string mv.s)).far (p:=⟨w.heap.size+1+1+1,3,none⟩) (by show w.heap.size+1+1 ≠ w.heap.size+1+1+1;omega) (.slice A10 mv.kids.length c10))
   have HE4:=Lib.hid (((((show Ext w w1 from Fr.new_ext ((Fr.of_ext HW.out.ext).trans HP1.out.fr) (fun b hb=>by omega)).setCell' (p:=⟨w.heap.size+1+1+1,0,none⟩) (by show w.heap.size≤w.heap.size+1+1+1;omega) (.int .i64 mv.kind)).setCell' (p:=⟨w.heap.size+1+1+1,1,none⟩) (by show w.heap.size≤w.heap.size+1+1+1;omega) (.int .i64 mv.n)).setCell' (p:=⟨w.heap.size+1+1+1,2,none⟩) (by show w.heap.size≤w.heap.size+1+1+1;omega) (.string mv.s)).setCell' (p:=⟨w.heap.size+1+1+1,3,none⟩) (by show w.heap.size≤w.heap.size+1+1+1;omega) (.slice A10 mv.kids.length c10))
   have HO5:=Lib.hid (ownsRow_setCell_below (ownsRow_setCell_below (ownsRow_setCell_below (ownsRow_setCell_below HP1.out.sp (a:=⟨w.heap.size+1+1+1,0,none⟩) (by show w.heap.size+1+1+1<W.heap.size;omega) (.int .i64 mv.kind)) (a:=⟨w.heap.size+1+1+1,1,none⟩) (by show w.heap.size+1+1+1<W.heap.size;omega) (.int .i64 mv.n)) (a:=⟨w.heap.size+1+1+1,2,none⟩) (by show w.heap.size+1+1+1<W.heap.size;omega) (.string mv.s)) (a:=⟨w.heap.size+1+1+1,3,none⟩) (by show w.heap.size+1+1+1<W.heap.size;omega) (.slice A10 mv.kids.length c10))
   have hk5:Keeps (fun b=>P b∨W.heap.size≤b) w1 w1:=fun _ _ _=>rfl
   have HV5:=Lib.hid (HV1.out.carry (Q:=fun b=>P b∨W.heap.size≤b) ((((hk5.set (p:=⟨w.heap.size+1+1+1,0,none⟩) (.int .i64 mv.kind) (fun h=>(HQN _ h).1 rfl)).set (p:=⟨w.heap.size+1+1+1,1,none⟩) (.int .i64 mv.n) (fun h=>(HQN _ h).1 rfl)).set (p:=⟨w.heap.size+1+1+1,2,none⟩) (.string mv.s) (fun h=>(HQN _ h).1 rfl)).set (p:=⟨w.heap.size+1+1+1,3,none⟩) (.slice A10 mv.kids.length c10) (fun h=>(HQN _ h).1 rfl)) (fun _ _ h=>h))
   have q:=set7_blk RES5.out (.int .i64 mv.kind) (.int .i64 mv.n) (.string mv.s) (.slice A10 mv.kids.length c10) (.int .i64 used) (.int .i64 (-1)) (.slice As m cs)
   have HX2:=Lib.hid (set7_ext HE4.out (show w.heap.size≤w.heap.size+1+1 by omega) (.int .i64 mv.kind) (.int .i64 mv.n) (.string mv.s) (.slice A10 mv.kids.length c10) (.int .i64 used) (.int .i64 (-1)) (.slice As m cs))
   have HV:=Lib.hid (HV5.out.carry (Q:=New P w.heap.size) (set7_keeps (g:=w.heap.size+1+1) (fun h=>(HQN _ h).2 rfl) (.int .i64 mv.kind) (.int .i64 mv.n) (.string mv.s) (.slice A10 mv.kids.length c10) (.int .i64 used) (.int .i64 (-1)) (.slice As m cs)) (fun b hb h=>h.elim .inl (fun h=>.inr (by omega))))
   have HO:=Lib.hid ((set7_own HO5.out (show w.heap.size+1+1<W.heap.size by omega) (.int .i64 mv.kind) (.int .i64 mv.n) (.string mv.s) (.slice A10 mv.kids.length c10) (.int .i64 used) (.int .i64 (-1)) (.slice As m cs)).base_le (show w.heap.size≤W.heap.size by omega))
   change bodyPost Tryz.prog Tryz.f183 _ Exit.ret _ (set7 ((((w1.setCell ⟨w.heap.size+1+1+1,0,none⟩ (.int .i64 mv.kind)).setCell ⟨w.heap.size+1+1+1,1,none⟩ (.int .i64 mv.n)).setCell ⟨w.heap.size+1+1+1,2,none⟩ (.string mv.s)).setCell ⟨w.heap.size+1+1+1,3,none⟩ (.slice A10 mv.kids.length c10)) (w.heap.size+1+1) (.int .i64 mv.kind) (.int .i64 mv.n) (.string mv.s) (.slice A10 mv.kids.length c10) (.int .i64 used) (.int .i64 (-1)) (.slice As m cs))
   generalize set7 ((((w1.setCell ⟨w.heap.size+1+1+1,0,none⟩ (.int .i64 mv.kind)).setCell ⟨w.heap.size+1+1+1,1,none⟩ (.int .i64 mv.n)).setCell ⟨w.heap.size+1+1+1,2,none⟩ (.string mv.s)).setCell ⟨w.heap.size+1+1+1,3,none⟩ (.slice A10 mv.kids.length c10)) (w.heap.size+1+1) (.int .i64 mv.kind) (.int .i64 mv.n) (.string mv.s) (.slice A10 mv.kids.length c10) (.int .i64 used) (.int .i64 (-1)) (.slice As m cs)=W' at *
   have q0:=q.cell' (u:=.int .i64 mv.kind) 0 rfl
   have q1:=q.cell' (u:=.int .i64 mv.n) 1 rfl
   have q2:=q.cell' (u:=.string mv.s) 2 rfl
   have q3:=q.cell' (u:=.slice A10 mv.kids.length c10) 3 rfl
   have q4:=q.cell' (u:=.int .i64 used) 4 rfl
   have q5:=q.cell' (u:=.int .i64 (-1)) 5 rfl
   have q6:=q.cell' (u:=.slice As m cs) 6 rfl
   rw [HEND.out]
   refine bodyPost_ret (v:=.agg (rcells ⟨mv,used,-1⟩ A10 c10 (.slice As m cs))) (by simp [results,Tryz.results183,go_sem,q0,q1,q2,q3,q4,q5,q6];try (first | rfl | exact ⟨rfl,rfl,rfl,rfl⟩)) rfl ⟨A10,c10,.slice As m cs,m,_,rfl,HV.out,HO.out,?_,HX2.out⟩
   exact ⟨sp_last HM.out (by omega),HP1.out.one⟩
end Go.Proofs.YtkoeecdjijfjnaaGreat
