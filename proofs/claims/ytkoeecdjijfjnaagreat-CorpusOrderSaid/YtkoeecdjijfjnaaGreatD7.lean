/- The contract of the reference's Fit of a valid tree: it returns some path. Conditions: none. Before it: The contracts of the reference's read and Read. Conditions: none. -/
import Derived.Test.YtkoeecdjijfjnaaGreatD5
namespace Go.Proofs.YtkoeecdjijfjnaaGreat
open Go.RowKit
set_option maxRecDepth 100000 in
set_option maxHeartbeats 4000000 in
theorem read3_any (t:List GN)(path:List Int)(f i:Nat)(at_:Int)(P:Nat→Prop)(vn vp:Value)(w:World)(hS:ReadSaid t path f)(hif:i<f+1)(hf16:f<16)(hfew:(t.getD i default).kids.length≤4)(hR:∀ (z:Nat)(k:Int),z<f→z<t.length→0≤k→k≤path.length→ReadOK t path z k (readR t path f z k))(hi:i<t.length)(hn:NodeOK i (t.getD i default))(h0:0≤at_)(h1:at_≤path.length)(hpl:path.length≤1000000)(hP:∀ b,P b→b<w.heap.size)(ht:Nds w P vn t)(hvp:Ints w P vp path)(hk:(t.getD i default).kind=3) :
  Calls Tryz.prog 144 #[.agg #[vn],.int .i64 i,vp,.int .i64 at_] w (RetR P (readR t path (f+1) i at_) (5 ^ (f+1)) w):=by
 have HT:=Lib.hid ht
 have HPP:=Lib.hid hP
 have HN:=Lib.hid hn
 have HVP:=Lib.hid hvp
 have HQ:=Lib.hid (show readR t path (f+1) i at_=readStep (readR t path f) path i (t.getD i default) at_ by simp only [readR,Int.toNat_natCast])
 obtain ⟨An,cn,en,hn1,hn2⟩:=ht.form
 subst en
 obtain ⟨Ap,cp,ep,hp1,hp2⟩:=hvp.form
 subst ep
 obtain ⟨b1,o1,a1,rfl,-,ha1,hc1⟩:=ht.get hi
 have HA:=Lib.hid ha1
 have lb1:=hc1.lt
 have c0:=hc1.c0
 have c1:=hc1.c1
 have c2:=hc1.c2
 have c3:=hc1.c3
 have c4:=hc1.c4
 have c5:=hc1.c5
 have c6:=hc1.c6
 have c7:=hc1.c7
 have c8:=hc1.c8
 have c9:=hc1.c9
 have c10:=hc1.c10
 have c11:=hc1.c11
 have HK:=Lib.hid hk
 have t0:((t.getD i default).kind == 0)=false:=beq_eq_false_iff_ne.2 (by omega)
 have t1:((t.getD i default).kind == 1)=false:=beq_eq_false_iff_ne.2 (by omega)
 have t3:((t.getD i default).kind == 3)=true:=beq_iff_eq.2 hk
 have t4:((t.getD i default).kind == 4)=false:=beq_eq_false_iff_ne.2 (by omega)
 clear ht hP hc1 ha1 hk hn hvp
 generalize t.getD i default=x at *
 have HOPT:=Lib.hid (options_ok HN.out)
 go_enter Tryz.func144,Tryz.ntmps144
 go_upto_region 2 with fail
 have HW:=Lib.hid (ReadW.mk' (.slice (some ⟨b1,o1,none⟩) t.length cn) x a1 w)
 generalize hW:(((w.alloc (.cells #[.slice (some ⟨b1,o1,none⟩) t.length cn] 25)).alloc (.cells zcells 154)).alloc (.cells (ncells x a1).toArray 87))=W at *
 clear hW
 clear c0 c1 c2 c3 c4 c5 c6 c7 c8 c9 c10 c11
 have HR:=Lib.hid (show readR t path (f+1) i at_=readParts (readR t path f) x.name at_ 0 [] x.kids by
  rw [HQ.out];unfold readStep;rw [if_neg (show ¬ x.kind=0 by have:=HK.out;omega),if_pos HK.out])
 have hsw:w.heap.size+3≤W.heap.size:=by have:=HW.out.size;omega
 have x0:=HW.out.box.cell' (u:=.int .i64 x.kind) 0 rfl
 have x1:=HW.out.box.cell' (u:=.string x.name) 1 rfl
 have x2:=HW.out.box.cell' (u:=.int .i64 x.lo) 2 rfl
 have x3:=HW.out.box.cell' (u:=.int .i64 x.hi) 3 rfl
 have x4:=HW.out.box.cell' (u:=.slice a1.wA x.weights.length a1.wc) 4 rfl
 have x5:=HW.out.box.cell' (u:=.slice a1.lA x.labels.length a1.lc) 5 rfl
 have x6:=HW.out.box.cell' (u:=.slice a1.vA x.values.length a1.vc) 6 rfl
 have x7:=HW.out.box.cell' (u:=.slice a1.kA x.kids.length a1.kc) 7 rfl
 have x8:=HW.out.box.cell' (u:=.int .i64 x.value.kind) 8 rfl
 have x9:=HW.out.box.cell' (u:=.int .i64 x.value.n) 9 rfl
 have x10:=HW.out.box.cell' (u:=.string x.value.s) 10 rfl
 have x11:=HW.out.box.cell' (u:=.slice a1.xA x.value.kids.length a1.xc) 11 rfl
 have y0:=HW.out.tree.cell' (u:=.slice (some ⟨b1,o1,none⟩) t.length cn) 0 rfl
 go_wp2_with fail
 refine (parts_any t path f i at_ P _ _ _ x a1 hS hR HN.out.kids hif hi hfew hf16 h0 h1 hpl (fun b hb=>?_) (HT.out.ext HW.out.ext) (HA.out.ext HW.out.ext) (HVP.out.ext HW.out.ext)).mono ?_
 ·have:=HPP.out b hb;omega
 rintro e w2 ⟨A2,d2,sv,m,xs,rfl,hv2,hown2,hm2,hx2⟩
 obtain ⟨A3,c3,e3,-,-,-⟩:=Sl.of_own hown2
 subst e3
 have HX2':=Lib.hid hx2
 have HV2:=Lib.hid hv2
 have HO2:=Lib.hid hown2
 have RES:=Lib.hid (HW.out.res.ext hx2)
 clear hx2 hv2 hown2 x0 x1 x2 x3 x4 x5 x6 x7 x8 x9 x10 x11 y0
 have r0:=RES.out.cell' (u:=.int .i64 0) 0 rfl
 have f0:=RES.out.frozen 0
 have r1:=RES.out.cell' (u:=.int .i64 0) 1 rfl
 have f1:=RES.out.frozen 1
 have r2:=RES.out.cell' (u:=.string ⟨#[]⟩) 2 rfl
 have f2:=RES.out.frozen 2
 have r3:=RES.out.cell' (u:=.slice none 0 0) 3 rfl
 have f3:=RES.out.frozen 3
 have r4:=RES.out.cell' (u:=.int .i64 0) 4 rfl
 have f4:=RES.out.frozen 4
 have r5:=RES.out.cell' (u:=.int .i64 0) 5 rfl
 have f5:=RES.out.frozen 5
 have r6:=RES.out.cell' (u:=.slice none 0 0) 6 rfl
 have f6:=RES.out.frozen 6
 generalize readParts (readR t path f) x.name at_ 0 [] x.kids=r at *
 go_wp2_with fail
 have hQ:∀ b,New P W.heap.size b→b ≠ w.heap.size+1:=by
  rintro b (h | h)
  ·have:=HPP.out b h;omega
  ·omega
 have q:=set7_blk RES.out (.int .i64 r.val.kind) (.int .i64 r.val.n) (.string r.val.s) (.slice A2 r.val.kids.length d2) (.int .i64 r.used) (.int .i64 r.stop) (.slice A3 m c3)
 have HX2:=Lib.hid (set7_ext (HW.out.ext.trans' HX2'.out) (show w.heap.size≤w.heap.size+1 by omega) (.int .i64 r.val.kind) (.int .i64 r.val.n) (.string r.val.s) (.slice A2 r.val.kids.length d2) (.int .i64 r.used) (.int .i64 r.stop) (.slice A3 m c3))
 have HV:=Lib.hid (HV2.out.carry (Q:=New P w.heap.size) (set7_keeps (g:=w.heap.size+1) (fun h=>hQ _ h rfl) (.int .i64 r.val.kind) (.int .i64 r.val.n) (.string r.val.s) (.slice A2 r.val.kids.length d2) (.int .i64 r.used) (.int .i64 r.stop) (.slice A3 m c3)) (fun b hb h=>h.elim .inl (fun h=>.inr (by omega))))
 have HO:=Lib.hid ((set7_own HO2.out (show w.heap.size+1<W.heap.size by omega) (.int .i64 r.val.kind) (.int .i64 r.val.n) (.string r.val.s) (.slice A2 r.val.kids.length d2) (.int .i64 r.used) (.int .i64 r.stop) (.slice A3 m c3)).base_le (show w.heap.size≤W.heap.size by omega))
 change bodyPost Tryz.prog Tryz.f144 _ Exit.ret _ (set7 w2 (w.heap.size+1) (.int .i64 r.val.kind) (.int .i64 r.val.n) (.string r.val.s) (.slice A2 r.val.kids.length d2) (.int .i64 r.used) (.int .i64 r.stop) (.slice A3 m c3))
 generalize set7 w2 (w.heap.size+1) (.int .i64 r.val.kind) (.int .i64 r.val.n) (.string r.val.s) (.slice A2 r.val.kids.length d2) (.int .i64 r.used) (.int .i64 r.stop) (.slice A3 m c3)=W' at *
 have q0:=q.cell' (u:=.int .i64 r.val.kind) 0 rfl
 have q1:=q.cell' (u:=.int .i64 r.val.n) 1 rfl
 have q2:=q.cell' (u:=.string r.val.s) 2 rfl
 have q3:=q.cell' (u:=.slice A2 r.val.kids.length d2) 3 rfl
 have q4:=q.cell' (u:=.int .i64 r.used) 4 rfl
 have q5:=q.cell' (u:=.int .i64 r.stop) 5 rfl
 have q6:=q.cell' (u:=.slice A3 m c3) 6 rfl
 rw [HR.out]
 refine bodyPost_ret (v:=.agg (rcells r A2 d2 (.slice A3 m c3))) (by simp [results,Tryz.results144,go_sem,q0,q1,q2,q3,q4,q5,q6];try (first | rfl | exact ⟨rfl,rfl,rfl,rfl⟩)) rfl ⟨A2,d2,.slice A3 m c3,m,xs,rfl,HV.out,HO.out,?_,HX2.out⟩
 exact hm2
theorem read_all {t:List GN}{path:List Int}(hd:RdT t path):∀ f,f≤16→ReadSaid t path f
 | 0,_=>by intro i at_ P vn vp w hf;omega
 | f+1,hf16=>by
  have hS:=read_all hd f (by omega)
  intro i at_ P vn vp w hf hi h0 h1 hP ht hvp
  have hR:∀ (z:Nat) (k:Int),z<f→z<t.length→0≤k→k≤path.length→ReadOK t path z k (readR t path f z k):=fun z k h1 h2 h3 h4=>read_ok hd.good path hd.path f z k h1 h2 h3 h4
  have hc:=hd.good.at_ hi
  have hn:=hc.node
  have hk:=hn.kind
  by_cases k0:(t.getD i default).kind=0
  ·exact read0_any t path f i at_ P vn vp w hi hP ht k0
  by_cases k1:(t.getD i default).kind=1
  ·exact read1_any t path f i at_ P vn vp w hi hn h0 h1 hd.path hP ht hvp k1
  by_cases k2:(t.getD i default).kind=2
  ·exact read2_any t path f i at_ P vn vp w hS hf hR hi hn h0 h1 hd.path hP ht hvp k2
  by_cases k3:(t.getD i default).kind=3
  ·exact read3_any t path f i at_ P vn vp w hS hf (by omega) (hd.few _ (getD_mem hi) k3) hR hi hn h0 h1 hd.path hP ht hvp k3
  ·exact read4_any t path f i at_ P vn vp w hS hf (by omega) hR hc hi hn h0 h1 hd.path hP ht hvp (by omega)
def ReadR (t:List GN)(path:List Int):GR :=
 if (readR t path t.length ((t.length:Int) - 1) 0).stop=-1∧(readR t path t.length ((t.length:Int) - 1) 0).used<path.length then ⟨(readR t path t.length ((t.length:Int) - 1) 0).val,(readR t path t.length ((t.length:Int) - 1) 0).used,-2⟩
 else readR t path t.length ((t.length:Int) - 1) 0
def RetR0 (P:Nat→Prop)(r:GR)(w:World)(e:Ending)(w':World):Prop :=
 ∃ A c sv,e=.returned (.agg (rcells r A c sv))∧VAt w' (New P w.heap.size) r.val A c∧(∃ A3 m c3,sv=.slice A3 m c3)∧Ext w w'
set_option maxRecDepth 100000 in
set_option maxHeartbeats 4000000 in
theorem Read_any (t:List GN)(path:List Int)(P:Nat→Prop)(vn vp:Value)(w:World)(hd:RdT t path)(hne:0<t.length)(hP:∀ b,P b→b<w.heap.size)(ht:Nds w P vn t)(hvp:Ints w P vp path) :
  Calls Tryz.prog 98 #[.agg #[vn],vp] w (RetR0 P (ReadR t path) w):=by
 have HT:=Lib.hid ht
 have HPP:=Lib.hid hP
 have HVP:=Lib.hid hvp
 have HD:=Lib.hid hd
 have HQ:=Lib.hid (show ReadR t path=if (readR t path t.length ((t.length:Int) - 1) 0).stop=-1∧(readR t path t.length ((t.length:Int) - 1) 0).used<path.length then ⟨(readR t path t.length ((t.length:Int) - 1) 0).val,(readR t path t.length ((t.length:Int) - 1) 0).used,-2⟩ else readR t path t.length ((t.length:Int) - 1) 0 from rfl)
 obtain ⟨An,cn,en,hn1,hn2⟩:=ht.form
 subst en
 obtain ⟨Ap,cp,ep,hp1,hp2⟩:=hvp.form
 subst ep
 have hsm:=hd.small
 obtain ⟨n,hn⟩:∃ n:Nat,t.length=n+1:=⟨t.length - 1,by omega⟩
 have HN:=Lib.hid hn
 have HCALL:=Lib.hid (show ∀ W,Ext w W→Calls Tryz.prog 144 #[.agg #[.slice An t.length cn],.int .i64 ((t.length:Int) - 1),.slice Ap path.length cp,.int .i64 0] W (RetR P (readR t path t.length ((t.length:Int) - 1) 0) (5 ^ t.length) W) from by
  intro W hx
  have:=read_all hd t.length hsm n 0 P _ _ W (by omega) (by omega) (Int.le_refl _) (by omega) (fun b hb=>by have:=hP b hb;have:=hx.size;omega) (ht.ext hx) (hvp.ext hx)
  rw [show ((t.length:Int) - 1)=(n:Int) by omega]
  exact this)
 clear ht hP hvp hd hn
 go_enter Tryz.func98,Tryz.ntmps98
 go_wp2_with fail
 have HE:=Lib.hid (show Ext w ((w.alloc (.cells #[.slice An t.length cn] 25)).alloc (.cells zcells 154)) from ((Ext.refl w).alloc' _).alloc' _)
 have HRES:=Lib.hid (Blk.new' (w.alloc (.cells #[.slice An t.length cn] 25)) 154 zcells (g:=w.heap.size+1) (by simp))
 have hszW:w.heap.size+2≤((w.alloc (.cells #[.slice An t.length cn] 25)).alloc (.cells zcells 154)).heap.size:=by simp
 generalize hW:(w.alloc (.cells #[.slice An t.length cn] 25)).alloc (.cells zcells 154)=W at *
 clear hW
 refine (HCALL.out W HE.out).mono ?_
 generalize readR t path t.length ((t.length:Int) - 1) 0=r at *
 rintro e w2 ⟨A2,d2,sv,m,xs,rfl,hv2,hown2,hm2,hx2⟩
 obtain ⟨A3,c3,e3,-,-,-⟩:=Sl.of_own hown2
 subst e3
 have HX2':=Lib.hid hx2
 have HV2:=Lib.hid hv2
 have RES:=Lib.hid (HRES.out.ext hx2)
 have hs2:=hx2.size
 clear hx2 hv2 hown2 hm2
 have r0:=RES.out.cell' (u:=.int .i64 0) 0 rfl
 have f0:=RES.out.frozen 0
 have r1:=RES.out.cell' (u:=.int .i64 0) 1 rfl
 have f1:=RES.out.frozen 1
 have r2:=RES.out.cell' (u:=.string ⟨#[]⟩) 2 rfl
 have f2:=RES.out.frozen 2
 have r3:=RES.out.cell' (u:=.slice none 0 0) 3 rfl
 have f3:=RES.out.frozen 3
 have r4:=RES.out.cell' (u:=.int .i64 0) 4 rfl
 have f4:=RES.out.frozen 4
 have r5:=RES.out.cell' (u:=.int .i64 0) 5 rfl
 have f5:=RES.out.frozen 5
 have r6:=RES.out.cell' (u:=.slice none 0 0) 6 rfl
 have f6:=RES.out.frozen 6
 have hQ:∀ b,(New P W.heap.size b∧b<w2.heap.size)→b ≠ w.heap.size+1:=by
  rintro b ⟨h | h,_⟩
  ·have:=HPP.out b h;omega
  ·omega
 have HQN:=Lib.hid hQ
 clear hQ
 have hlr:w.heap.size+1<w2.heap.size:=by omega
 have HRS:=Lib.hid (show r.stop=-1∨¬ r.stop=-1 from Classical.em _)
 by_cases hst:r.stop=-1
 ·have ts:(r.stop == -1)=true:=beq_iff_eq.2 hst
  have HST:=Lib.hid hst
  clear hst
  by_cases hu:r.used<path.length
  ·have HR:=Lib.hid (HQ.out.trans (if_pos ⟨HST.out,hu⟩))
   have tu:decide (r.used<(path.length:Int))=true:=decide_eq_true hu
   go_wp2_with fail
   have q:=(set7_blk RES.out (.int .i64 r.val.kind) (.int .i64 r.val.n) (.string r.val.s) (.slice A2 r.val.kids.length d2) (.int .i64 r.used) (.int .i64 (-2)) (.slice A3 m c3)).alloc (.cells #[.int .i64 r.val.kind,.int .i64 r.val.n,.string r.val.s,.slice A2 r.val.kids.length d2,.int .i64 r.used,.int .i64 (-2),.slice A3 m c3] 154)
   have HX2:=Lib.hid ((set7_ext (HE.out.trans' HX2'.out) (show w.heap.size≤w.heap.size+1 by omega) (.int .i64 r.val.kind) (.int .i64 r.val.n) (.string r.val.s) (.slice A2 r.val.kids.length d2) (.int .i64 r.used) (.int .i64 (-2)) (.slice A3 m c3)).alloc' (.cells #[.int .i64 r.val.kind,.int .i64 r.val.n,.string r.val.s,.slice A2 r.val.kids.length d2,.int .i64 r.used,.int .i64 (-2),.slice A3 m c3] 154))
   have HV:=Lib.hid (((HV2.out.carry (Q:=fun b=>New P W.heap.size b∧b<w2.heap.size) (fun _ _ _=>rfl) (fun b hb h=>⟨h,hb⟩)).carry (Q:=New P w.heap.size) (set7_keeps (g:=w.heap.size+1) (fun h=>HQN.out _ h rfl) (.int .i64 r.val.kind) (.int .i64 r.val.n) (.string r.val.s) (.slice A2 r.val.kids.length d2) (.int .i64 r.used) (.int .i64 (-2)) (.slice A3 m c3)) (fun b hb h=>h.1.elim .inl (fun h=>.inr (by omega)))).ext ((Ext.refl _).alloc' (.cells #[.int .i64 r.val.kind,.int .i64 r.val.n,.string r.val.s,.slice A2 r.val.kids.length d2,.int .i64 r.used,.int .i64 (-2),.slice A3 m c3] 154)))
   change bodyPost Tryz.prog Tryz.f98 _ Exit.ret _ ((set7 w2 (w.heap.size+1) (.int .i64 r.val.kind) (.int .i64 r.val.n) (.string r.val.s) (.slice A2 r.val.kids.length d2) (.int .i64 r.used) (.int .i64 (-2)) (.slice A3 m c3)).alloc (.cells #[.int .i64 r.val.kind,.int .i64 r.val.n,.string r.val.s,.slice A2 r.val.kids.length d2,.int .i64 r.used,.int .i64 (-2),.slice A3 m c3] 154))
   generalize (set7 w2 (w.heap.size+1) (.int .i64 r.val.kind) (.int .i64 r.val.n) (.string r.val.s) (.slice A2 r.val.kids.length d2) (.int .i64 r.used) (.int .i64 (-2)) (.slice A3 m c3)).alloc (.cells #[.int .i64 r.val.kind,.int .i64 r.val.n,.string r.val.s,.slice A2 r.val.kids.length d2,.int .i64 r.used,.int .i64 (-2),.slice A3 m c3] 154)=W' at *
   have q0:=q.cell' (u:=.int .i64 r.val.kind) 0 rfl
   have q1:=q.cell' (u:=.int .i64 r.val.n) 1 rfl
   have q2:=q.cell' (u:=.string r.val.s) 2 rfl
   have q3:=q.cell' (u:=.slice A2 r.val.kids.length d2) 3 rfl
   have q4:=q.cell' (u:=.int .i64 r.used) 4 rfl
   have q5:=q.cell' (u:=.int .i64 (-2)) 5 rfl
   have q6:=q.cell' (u:=.slice A3 m c3) 6 rfl
   rw [HR.out]
   exact bodyPost_ret (v:=.agg (rcells ⟨r.val,r.used,-2⟩ A2 d2 (.slice A3 m c3))) (by simp [results,Tryz.results98,go_sem,q0,q1,q2,q3,q4,q5,q6]) rfl ⟨A2,d2,.slice A3 m c3,rfl,HV.out,⟨_,_,_,rfl⟩,HX2.out⟩
  ·have HR:=Lib.hid (HQ.out.trans (if_neg (fun h=>hu h.2)))
   have tu:decide (r.used<(path.length:Int))=false:=decide_eq_false hu
   go_wp2_with fail
   have q:=(set7_blk RES.out (.int .i64 r.val.kind) (.int .i64 r.val.n) (.string r.val.s) (.slice A2 r.val.kids.length d2) (.int .i64 r.used) (.int .i64 r.stop) (.slice A3 m c3)).alloc (.cells #[.int .i64 r.val.kind,.int .i64 r.val.n,.string r.val.s,.slice A2 r.val.kids.length d2,.int .i64 r.used,.int .i64 r.stop,.slice A3 m c3] 154)
   have HX2:=Lib.hid ((set7_ext (HE.out.trans' HX2'.out) (show w.heap.size≤w.heap.size+1 by omega) (.int .i64 r.val.kind) (.int .i64 r.val.n) (.string r.val.s) (.slice A2 r.val.kids.length d2) (.int .i64 r.used) (.int .i64 r.stop) (.slice A3 m c3)).alloc' (.cells #[.int .i64 r.val.kind,.int .i64 r.val.n,.string r.val.s,.slice A2 r.val.kids.length d2,.int .i64 r.used,.int .i64 r.stop,.slice A3 m c3] 154))
   have HV:=Lib.hid (((HV2.out.carry (Q:=fun b=>New P W.heap.size b∧b<w2.heap.size) (fun _ _ _=>rfl) (fun b hb h=>⟨h,hb⟩)).carry (Q:=New P w.heap.size) (set7_keeps (g:=w.heap.size+1) (fun h=>HQN.out _ h rfl) (.int .i64 r.val.kind) (.int .i64 r.val.n) (.string r.val.s) (.slice A2 r.val.kids.length d2) (.int .i64 r.used) (.int .i64 r.stop) (.slice A3 m c3)) (fun b hb h=>h.1.elim .inl (fun h=>.inr (by omega)))).ext ((Ext.refl _).alloc' (.cells #[.int .i64 r.val.kind,.int .i64 r.val.n,.string r.val.s,.slice A2 r.val.kids.length d2,.int .i64 r.used,.int .i64 r.stop,.slice A3 m c3] 154)))
   change bodyPost Tryz.prog Tryz.f98 _ Exit.ret _ ((set7 w2 (w.heap.size+1) (.int .i64 r.val.kind) (.int .i64 r.val.n) (.string r.val.s) (.slice A2 r.val.kids.length d2) (.int .i64 r.used) (.int .i64 r.stop) (.slice A3 m c3)).alloc (.cells #[.int .i64 r.val.kind,.int .i64 r.val.n,.string r.val.s,.slice A2 r.val.kids.length d2,.int .i64 r.used,.int .i64 r.stop,.slice A3 m c3] 154))
   generalize (set7 w2 (w.heap.size+1) (.int .i64 r.val.kind) (.int .i64 r.val.n) (.string r.val.s) (.slice A2 r.val.kids.length d2) (.int .i64 r.used) (.int .i64 r.stop) (.slice A3 m c3)).alloc (.cells #[.int .i64 r.val.kind,.int .i64 r.val.n,.string r.val.s,.slice A2 r.val.kids.length d2,.int .i64 r.used,.int .i64 r.stop,.slice A3 m c3] 154)=W' at *
   have q0:=q.cell' (u:=.int .i64 r.val.kind) 0 rfl
   have q1:=q.cell' (u:=.int .i64 r.val.n) 1 rfl
   have q2:=q.cell' (u:=.string r.val.s) 2 rfl
   have q3:=q.cell' (u:=.slice A2 r.val.kids.length d2) 3 rfl
   have q4:=q.cell' (u:=.int .i64 r.used) 4 rfl
   have q5:=q.cell' (u:=.int .i64 r.stop) 5 rfl
   have q6:=q.cell' (u:=.slice A3 m c3) 6 rfl
   rw [HR.out]
   exact bodyPost_ret (v:=.agg (rcells r A2 d2 (.slice A3 m c3))) (by simp [results,Tryz.results98,go_sem,q0,q1,q2,q3,q4,q5,q6]) rfl ⟨A2,d2,.slice A3 m c3,rfl,HV.out,⟨_,_,_,rfl⟩,HX2.out⟩
 ·have HR:=Lib.hid (HQ.out.trans (if_neg (fun h=>hst h.1)))
  have ts:(r.stop == -1)=false:=beq_eq_false_iff_ne.2 hst
  clear hst
  go_wp2_with fail
  have q:=(set7_blk RES.out (.int .i64 r.val.kind) (.int .i64 r.val.n) (.string r.val.s) (.slice A2 r.val.kids.length d2) (.int .i64 r.used) (.int .i64 r.stop) (.slice A3 m c3)).alloc (.cells #[.int .i64 r.val.kind,.int .i64 r.val.n,.string r.val.s,.slice A2 r.val.kids.length d2,.int .i64 r.used,.int .i64 r.stop,.slice A3 m c3] 154)
  have HX2:=Lib.hid ((set7_ext (HE.out.trans' HX2'.out) (show w.heap.size≤w.heap.size+1 by omega) (.int .i64 r.val.kind) (.int .i64 r.val.n) (.string r.val.s) (.slice A2 r.val.kids.length d2) (.int .i64 r.used) (.int .i64 r.stop) (.slice A3 m c3)).alloc' (.cells #[.int .i64 r.val.kind,.int .i64 r.val.n,.string r.val.s,.slice A2 r.val.kids.length d2,.int .i64 r.used,.int .i64 r.stop,.slice A3 m c3] 154))
  have HV:=Lib.hid (((HV2.out.carry (Q:=fun b=>New P W.heap.size b∧b<w2.heap.size) (fun _ _ _=>rfl) (fun b hb h=>⟨h,hb⟩)).carry (Q:=New P w.heap.size) (set7_keeps (g:=w.heap.size+1) (fun h=>HQN.out _ h rfl) (.int .i64 r.val.kind) (.int .i64 r.val.n) (.string r.val.s) (.slice A2 r.val.kids.length d2) (.int .i64 r.used) (.int .i64 r.stop) (.slice A3 m c3)) (fun b hb h=>h.1.elim .inl (fun h=>.inr (by omega)))).ext ((Ext.refl _).alloc' (.cells #[.int .i64 r.val.kind,.int .i64 r.val.n,.string r.val.s,.slice A2 r.val.kids.length d2,.int .i64 r.used,.int .i64 r.stop,.slice A3 m c3] 154)))
  change bodyPost Tryz.prog Tryz.f98 _ Exit.ret _ ((set7 w2 (w.heap.size+1) (.int .i64 r.val.kind) (.int .i64 r.val.n) (.string r.val.s) (.slice A2 r.val.kids.length d2) (.int .i64 r.used) (.int .i64 r.stop) (.slice A3 m c3)).alloc (.cells #[.int .i64 r.val.kind,.int .i64 r.val.n,.string r.val.s,.slice A2 r.val.kids.length d2,.int .i64 r.used,.int .i64 r.stop,.slice A3 m c3] 154))
  generalize (set7 w2 (w.heap.size+1) (.int .i64 r.val.kind) (.int .i64 r.val.n) (.string r.val.s) (.slice A2 r.val.kids.length d2) (.int .i64 r.used) (.int .i64 r.stop) (.slice A3 m c3)).alloc (.cells #[.int .i64 r.val.kind,.int .i64 r.val.n,.string r.val.s,.slice A2 r.val.kids.length d2,.int .i64 r.used,.int .i64 r.stop,.slice A3 m c3] 154)=W' at *
  have q0:=q.cell' (u:=.int .i64 r.val.kind) 0 rfl
  have q1:=q.cell' (u:=.int .i64 r.val.n) 1 rfl
  have q2:=q.cell' (u:=.string r.val.s) 2 rfl
  have q3:=q.cell' (u:=.slice A2 r.val.kids.length d2) 3 rfl
  have q4:=q.cell' (u:=.int .i64 r.used) 4 rfl
  have q5:=q.cell' (u:=.int .i64 r.stop) 5 rfl
  have q6:=q.cell' (u:=.slice A3 m c3) 6 rfl
  rw [HR.out]
  exact bodyPost_ret (v:=.agg (rcells r A2 d2 (.slice A3 m c3))) (by simp [results,Tryz.results98,go_sem,q0,q1,q2,q3,q4,q5,q6]) rfl ⟨A2,d2,.slice A3 m c3,rfl,HV.out,⟨_,_,_,rfl⟩,HX2.out⟩
theorem Ints.of_own {w:World}{base:Nat}{v:Value}{l:List Int}{Q:Nat→Prop}(ho:w.ownsRow base 3 1 v l.length (l.map (Value.int .i64)))(h64:∀ x ∈ l,I64 x)(hl:l.length≤17592186044416)(hQ:∀ b,v.ownBlock=some b→Q b):Ints w Q v l:=by
 obtain ⟨A,c,e,h1,h2,h3⟩:=Sl.of_own ho
 unfold maxLen at h2
 exact ⟨A,c,e,h1,⟨hl,h2⟩,h64,h3 Q hQ⟩
def lenOf:Value→Nat
 | .slice _ n _=>n
 | _=>0
theorem readR_root {t:List GN}{path:List Int}(hd:RdT t path)(hne:0<t.length):ReadOK t path (t.length - 1) 0 (readR t path t.length ((t.length:Int) - 1) 0):=by
 have:=read_ok hd.good path hd.path t.length (t.length - 1) 0 (by omega) (by omega) (Int.le_refl _) (by omega)
 rw [show ((t.length:Int) - 1)=((t.length - 1:Nat):Int) by omega]
 exact this
theorem ReadR_stop {t:List GN}{path:List Int}(hd:RdT t path)(hne:0<t.length)(h:0≤(ReadR t path).stop) :
  (ReadR t path).stop<t.length∧path.length<256∧((t.getD (ReadR t path).stop.toNat default).kind=1∨(t.getD (ReadR t path).stop.toNat default).kind=2):=by
 have hr:=readR_root hd hne
 unfold ReadR at h ⊢
 generalize readR t path t.length ((t.length:Int) - 1) 0=r at *
 have hl:=(lens_ok hd.good (t.length - 1) (by omega)).bd.2
 split at h
 ·exact absurd h (by simp)
 ·next hc =>
  rw [if_neg hc]
  rcases hr.stop with hs | hs | ⟨h1,h2,h3,h4⟩
  ·omega
  ·omega
  ·exact ⟨by omega,by omega,h3⟩
theorem set7_fr {M:Nat→Prop}{w0 w:World}{g:Nat}(h:Fr M w0 w)(hg:M g)(u0 u1 u2 u3 u4 u5 u6:Value):Fr M w0 (set7 w g u0 u1 u2 u3 u4 u5 u6) :=
 ((((((h.setCell (p:=⟨g,0,none⟩) (.inl hg) _).setCell (p:=⟨g,1,none⟩) (.inl hg) _).setCell (p:=⟨g,2,none⟩) (.inl hg) _).setCell (p:=⟨g,3,none⟩) (.inl hg) _).setCell (p:=⟨g,4,none⟩) (.inl hg) _).setCell (p:=⟨g,5,none⟩) (.inl hg) _).setCell (p:=⟨g,6,none⟩) (.inl hg) _
def RetFit (P:Nat→Prop)(w:World)(e:Ending)(w':World):Prop :=
 ∃ (v:Value) (p:List Int) (n:Int),e=.returned (.tuple #[v,.int .i64 n])∧Ints w' (New P w.heap.size) v p∧p.length≤256∧Ext w w'
def FitInv (t:List GN)(_:Nat→Prop)(W:World)(g:Nat)(v:Value)(wr:World):Prop :=
 ∃ (p:List Int) (A:Option Addr) (c:Nat) (A3:Option Addr) (m c3:Nat),wr.ownsRow W.heap.size 3 1 v p.length (p.map (Value.int .i64))∧Blk wr g 154 (rcells (ReadR t p) A c (.slice A3 m c3))∧(∀ x ∈ p,I64 x)∧p.length≤256∧Fr (fun b=>b=g) W wr
set_option maxRecDepth 100000 in
set_option maxHeartbeats 4000000 in
theorem fit_any (t:List GN)(raw:List Int)(P:Nat→Prop)(vn vp:Value)(w:World)(hv:validT t=0)(hsm:t.length≤16)(hfew:∀ x ∈ t,x.kind=3→x.kids.length≤4)(ht:Nds w P vn t)(hvp:Ints w P vp raw) :
  Calls Tryz.prog 46 #[.agg #[vn],vp] w (RetFit P w):=by
 have hgood:=validT_ok.1 hv
 have hRD:∀ p:List Int,p.length≤1000000→RdT t p:=fun p hp=>⟨hgood,hsm,hfew,hp⟩
 have HRD:=Lib.hid hRD
 have hvl:∀ x ∈ t,x.values.length≤1000000:=by
  intro x hx
  obtain ⟨j,hj,e⟩:=List.getElem_of_mem hx
  have:=(kids_few hgood hj).2.1
  have e2:t.getD j default=x:=by rw [← e];simp [hj]
  rw [e2] at this
  omega
 have HVL:=Lib.hid hvl
 have HT:=Lib.hid ht
 have HVP:=Lib.hid hvp
 have HV:=Lib.hid hv
 have HG:=Lib.hid hgood
 obtain ⟨An,cn,en,hn1,hn2⟩:=ht.form
 subst en
 obtain ⟨Ap,cp,ep,hp1,hp2⟩:=hvp.form
 subst ep
 obtain ⟨i3,hi3,hz30,hz31,hz32⟩:=info_parts Tryz.info3
 have HI3:=Lib.hid hi3
 clear ht hvp hv hRD hfew hvl hgood hi3
 go_enter Tryz.func46,Tryz.ntmps46
 go_wp2_with fail
 have HE:=Lib.hid (show Ext w (w.alloc (.cells #[.slice An t.length cn] 25)) from (Ext.refl w).alloc' _)
 have HBT:=Lib.hid (Blk.new w 25 #[.slice An t.length cn])
 generalize hW:w.alloc (.cells #[.slice An t.length cn] 25)=W0 at *
 clear hW
 refine (refValid_any t P _ _ (HT.out.ext HE.out) HVL.out).mono ?_
 rintro e w1 ⟨rfl,hx1⟩
 rw [HV.out]
 have HX1:=Lib.hid (HE.out.trans' hx1)
 have BT1:=Lib.hid (HBT.out.ext hx1)
 have y0:=BT1.out.cell' (u:=.slice An t.length cn) 0 rfl
 clear hx1
 by_cases hne:0<t.length
 ·have hl0:((t.length:Int) == 0)=false:=beq_eq_false_iff_ne.2 (by omega)
  have hl1:(t.length == 0)=false:=beq_eq_false_iff_ne.2 (by omega)
  go_wp2_with fail
  refine (Read_any t [] (fun b=>b<w1.heap.size) _ _ _ (HRD.out [] (by simp)) hne (fun b hb=>hb) (HT.out.carry (Keeps.of_ext HX1.out) (fun b hb _=>by have:=HX1.out.size;omega)) ⟨none,0,rfl,by simp,by simp,by simp,⟨rfl,fun h=>absurd h (by simp)⟩⟩).mono ?_
  rintro e w2 ⟨A2,d2,sv,rfl,-,⟨A3,m3,c3,rfl⟩,hx2⟩
  have HX2:=Lib.hid (HX1.out.trans' hx2)
  have BT2:=Lib.hid (BT1.out.ext hx2)
  clear hx2 y0
  go_wp2_with fail
  have HW:=Lib.hid (show Ext w (w2.alloc (.cells (rcells (ReadR t []) A2 d2 (.slice A3 m3 c3)) 154)) from HX2.out.alloc' _)
  have BTW:=Lib.hid (BT2.out.alloc (.cells (rcells (ReadR t []) A2 d2 (.slice A3 m3 c3)) 154))
  have BRW:=Lib.hid (Blk.new w2 154 (rcells (ReadR t []) A2 d2 (.slice A3 m3 c3)))
  have hlt2:w2.heap.size<(w2.alloc (.cells (rcells (ReadR t []) A2 d2 (.slice A3 m3 c3)) 154)).heap.size:=by simp
  have hw02:=HX2.out.size
  have hbt:=BT2.out.lt
  generalize hW:w2.alloc (.cells (rcells (ReadR t []) A2 d2 (.slice A3 m3 c3)) 154)=W at *
  clear hW
  generalize hg:w2.heap.size=g at *
  clear hg
  go_loopw [7] (fun v wr=>FitInv t P W g v wr) (fun v _=>300 - lenOf v)
  case atStart=>exact ⟨[],A2,d2,A3,m3,c3,own_none _ _ _ _,BRW.out,by simp,by simp,Fr.refl _ _⟩
  case round =>
   obtain ⟨p,A4,d4,A5,m5,c5,hown,hB,h64,hpl,hfr⟩:=hrel
   have HOWN:=Lib.hid hown
   have HB:=Lib.hid hB
   have H64:=Lib.hid h64
   have HFR:=Lib.hid hfr
   obtain ⟨A7,c7,e7,-,-,-⟩:=Sl.of_own hown
   subst e7
   have r0:=hB.cell' (u:=.int .i64 (ReadR t p).val.kind) 0 rfl
   have r1:=hB.cell' (u:=.int .i64 (ReadR t p).val.n) 1 rfl
   have r2:=hB.cell' (u:=.string (ReadR t p).val.s) 2 rfl
   have r3:=hB.cell' (u:=.slice A4 (ReadR t p).val.kids.length d4) 3 rfl
   have r4:=hB.cell' (u:=.int .i64 (ReadR t p).used) 4 rfl
   have r5:=hB.cell' (u:=.int .i64 (ReadR t p).stop) 5 rfl
   have r6:=hB.cell' (u:=.slice A5 m5 c5) 6 rfl
   have f0:=hB.frozen 0
   have f1:=hB.frozen 1
   have f2:=hB.frozen 2
   have f3:=hB.frozen 3
   have f4:=hB.frozen 4
   have f5:=hB.frozen 5
   have f6:=hB.frozen 6
   have HEW:=Lib.hid (show Ext w wr from Fr.new_ext ((Fr.of_ext HW.out).trans hfr) (fun b hb=>by omega))
   clear hown hB h64 hfr
   by_cases hst:0≤(ReadR t p).stop
   ·have hstp:=ReadR_stop (HRD.out p (by omega)) hne hst
    generalize hs:(ReadR t p).stop=s at *
    clear hs
    obtain ⟨hs1,hs2,hs3⟩:=hstp
    have HK:=Lib.hid hs3
    obtain ⟨b1,o1,a1,rfl,-,ha1,hc1⟩:=(HT.out.ext HEW.out).get (i:=s.toNat) (by omega)
    have lb1:=hc1.lt
    have HN:=Lib.hid (HG.out.at_ (j:=s.toNat) (by omega)).node
    have cc0:=hc1.c0
    have cc1:=hc1.c1
    have cc2:=hc1.c2
    have cc3:=hc1.c3
    have cc4:=hc1.c4
    have cc5:=hc1.c5
    have cc6:=hc1.c6
    have cc7:=hc1.c7
    have cc8:=hc1.c8
    have cc9:=hc1.c9
    have cc10:=hc1.c10
    have cc11:=hc1.c11
    have hkl1:=ha1.kids.le.2.1
    clear hs3 hc1 ha1
    generalize t.getD s.toNat default=x at *
    have y0:=(BTW.out.fr HFR.out (by omega)).cell' (u:=.slice (some ⟨b1,o1,none⟩) t.length cn) 0 rfl
    have hsi:s<(t.length:Int):=hs1
    have hgw:=HFR.out.size
    by_cases hlr:p.length<raw.length
    ·obtain ⟨bp,op,rfl,-,hi64,gp⟩:=(HVP.out.ext HEW.out).get hlr
     generalize raw.getD p.length 0=rv at *
     have tl:decide ((p.length:Int)<(raw.length:Int))=true:=decide_eq_true (by omega)
     have hpl0:(0:Int)≤(p.length:Int):=by omega
     have hpl1:(p.length:Int)<(raw.length:Int):=by omega
     have hopt:=options_ok HN.out
     have hnum:=numbersB_ok HN.out.numbers
     have hkf:=HN.out.choice
     have hob:0≤optionsI x∧optionsI x≤17592186044416:=by
      rw [hopt]
      have hkl:=hkl1
      split
      ·omega
      ·omega
     have hopw:IntKind.i64.wrap (optionsI x - 1)=optionsI x - 1:=IntWalk.i64_in _ (by omega)
     clear hopt hnum hkf
     go_upto_region 11 with fail
     go_region_held3 (fun w'=>w'.cell? ⟨bp,op+p.length,none⟩=some (.int .i64 rv)∧w'.cell? ⟨w.heap.size,0,none⟩=some (.slice (some ⟨b1,o1,none⟩) t.length cn)∧w'.cell? ⟨g,5,none⟩=some (.int .i64 s)∧w'.cell? ⟨b1,o1+s.toNat*12,none⟩=some (.int .i64 x.kind)∧w'.cell? ⟨b1,o1+s.toNat*12+1,none⟩=some (.string x.name)∧w'.cell? ⟨b1,o1+s.toNat*12+2,none⟩=some (.int .i64 x.lo)∧w'.cell? ⟨b1,o1+s.toNat*12+3,none⟩=some (.int .i64 x.hi)∧w'.cell? ⟨b1,o1+s.toNat*12+4,none⟩=some (.slice a1.wA x.weights.length a1.wc)∧w'.cell? ⟨b1,o1+s.toNat*12+5,none⟩=some (.slice a1.lA x.labels.length a1.lc)∧w'.cell? ⟨b1,o1+s.toNat*12+6,none⟩=some (.slice a1.vA x.values.length a1.vc)∧w'.cell? ⟨b1,o1+s.toNat*12+7,none⟩=some (.slice a1.kA x.kids.length a1.kc)∧w'.cell? ⟨b1,o1+s.toNat*12+8,none⟩=some (.int .i64 x.value.kind)∧w'.cell? ⟨b1,o1+s.toNat*12+9,none⟩=some (.int .i64 x.value.n)∧w'.cell? ⟨b1,o1+s.toNat*12+10,none⟩=some (.string x.value.s)∧w'.cell? ⟨b1,o1+s.toNat*12+11,none⟩=some (.slice a1.xA x.value.kids.length a1.xc))
      (first
       | (go_split_ands
          with_reducible exact ⟨cell_ext hx3 ‹_›,cell_ext hx3 ‹_›,cell_ext hx3 ‹_›,cell_ext hx3 ‹_›,cell_ext hx3 ‹_›,cell_ext hx3 ‹_›,cell_ext hx3 ‹_›,cell_ext hx3 ‹_›,cell_ext hx3 ‹_›,cell_ext hx3 ‹_›,cell_ext hx3 ‹_›,cell_ext hx3 ‹_›,cell_ext hx3 ‹_›,cell_ext hx3 ‹_›,cell_ext hx3 ‹_›⟩)
       | go_keep)
      (first
       | (go_at_call 99;refine (refOptions_any x a1 _).mono ?_;rintro e w3 ⟨rfl,hx3⟩))
     go_upto_region 12 with fail
     have hmn:I64 (if optionsI x - 1<rv then optionsI x - 1 else rv):=by
      unfold I64 at hi64 ⊢
      split <;> omega
     clear hopw
     generalize (if optionsI x - 1<rv then optionsI x - 1 else rv)=mn at *
     have HC64:=Lib.hid (show I64 (if 0<mn then mn else 0) by
      split
      ·exact hmn
      ·exact I64_zero)
     clear hmn
     generalize (if 0<mn then mn else 0)=cv at *
     have HX3:=Lib.hid ((Ext.refl wr).drew'.trans' hx3)
     clear hx3 gp
     have hsz3:=HX3.out.size
     have HB3:=Lib.hid (HB.out.ext HX3.out)
     have BT3:=Lib.hid ((BTW.out.fr HFR.out (by omega)).ext HX3.out)
     clear r0 r1 r2 r3 r4 r5 r6 f0 f1 f2 f3 f4 f5 f6 y0 cc0 cc1 cc2 cc3 cc4 cc5 cc6 cc7 cc8 cc9 cc10 cc11
     go_upto_region 13 with (at_builtin;go_must (refine wpList_append_sl _ rfl (.tmp 45) (.tmp 47) 22 (by rfl) W.heap.size 3 i3 _ 1 8 Tryz.underlying22 HI3.out hz30 hz31 hz32 rfl (by omega) (.slice A7 p.length c7) _ _ rfl ((HOWN.out.ext_ HX3.out).alloc _) (fun _=>True) (some ⟨w3.heap.size,0,none⟩) 1 1 [.int .i64 cv] rfl (Sl.new w3 _ _ _ _ rfl) (by simp [Value.oneCell']) (by omega) (by omega) (by simp;omega) ?_);intro v9 w4 ho4 hf4 hb4)
     have HO4:=Lib.hid (ho4.len_cast (show p.length+1=(p ++ [cv]).length by simp) (show p.map (Value.int .i64) ++ [.int .i64 cv]=(p ++ [cv]).map (Value.int .i64) by simp))
     have HOB:=Lib.hid (show ∀ b,(Value.slice A7 p.length c7).ownBlock=some b→W.heap.size≤b from fun b hb=>HOWN.out.block_ge hb)
     have HB4:=Lib.hid ((HB3.out.alloc (.cells #[.int .i64 cv] 3)).fr hf4 (fun e=>by have:=HOB.out _ e.symm;omega))
     have BT4:=Lib.hid ((BT3.out.alloc (.cells #[.int .i64 cv] 3)).fr hf4 (fun e=>by have:=HOB.out _ e.symm;omega))
     have HFR4:=Lib.hid (show Fr (fun b=>b=g) W w4 from (HFR.out.trans (Fr.of_ext (HX3.out.alloc' (.cells #[.int .i64 cv] 3)))).trans_new (hf4.mono (fun b hb=>.inr (HOB.out b hb.symm))))
     have HE4:=Lib.hid (show Ext w w4 from Fr.new_ext ((Fr.of_ext HW.out).trans HFR4.out) (fun b hb=>by omega))
     obtain ⟨A9,c9,e9,-,-,-⟩:=Sl.of_own ho4
     subst e9
     have H64':=Lib.hid (show ∀ z ∈ p ++ [cv],I64 z from fun z hz=>(List.mem_append.1 hz).elim (H64.out z) (fun h=>by rw [List.mem_singleton.1 h];exact HC64.out))
     have y0:=BT4.out.cell' (u:=.slice (some ⟨b1,o1,none⟩) t.length cn) 0 rfl
     clear ho4 hf4 hb4
     have HRC:=Lib.hid (Read_any t (p ++ [cv]) (fun b=>b<w4.heap.size) (.slice (some ⟨b1,o1,none⟩) t.length cn) (.slice A9 (p.length+1) c9) w4 (HRD.out _ (by simp;omega)) hne (fun b hb=>hb) (HT.out.carry (Keeps.of_ext HE4.out) (fun b hb _=>by have:=HE4.out.size;omega)) (Ints.of_own (HO4.out.len_cast rfl rfl) H64'.out (by simp;omega) (fun b hb=>HO4.out.block_lt hb)))
     go_wp2_with fail
     refine HRC.out.mono ?_
     rintro e w5 ⟨A6,d6,sv6,rfl,-,⟨A8,m8,c8,rfl⟩,hx5⟩
     have HX5:=Lib.hid hx5
     have HB5:=Lib.hid (HB4.out.ext hx5)
     clear hx5 y0
     have r0:=HB5.out.cell' (u:=.int .i64 (ReadR t p).val.kind) 0 rfl
     have f0:=HB5.out.frozen 0
     have r1:=HB5.out.cell' (u:=.int .i64 (ReadR t p).val.n) 1 rfl
     have f1:=HB5.out.frozen 1
     have r2:=HB5.out.cell' (u:=.string (ReadR t p).val.s) 2 rfl
     have f2:=HB5.out.frozen 2
     have r3:=HB5.out.cell' (u:=.slice A4 (ReadR t p).val.kids.length d4) 3 rfl
     have f3:=HB5.out.frozen 3
     have r4:=HB5.out.cell' (u:=.int .i64 (ReadR t p).used) 4 rfl
     have f4:=HB5.out.frozen 4
     have r5:=HB5.out.cell' (u:=.int .i64 (ReadR t p).stop) 5 rfl
     have f5:=HB5.out.frozen 5
     have r6:=HB5.out.cell' (u:=.slice A5 m5 c5) 6 rfl
     have f6:=HB5.out.frozen 6
     go_wp2_with fail
     go_roundw
     case rel =>
      refine ⟨p ++ [cv],A6,d6,A8,m8,c8,?_,set7_blk HB5.out _ _ _ _ _ _ _,H64'.out,by simp;omega,?_⟩
      ·exact set7_own ((HO4.out.ext_ HX5.out)) (show g<W.heap.size by omega) (.int .i64 (ReadR t (p ++ [cv])).val.kind) (.int .i64 (ReadR t (p ++ [cv])).val.n) (.string (ReadR t (p ++ [cv])).val.s) (.slice A6 (ReadR t (p ++ [cv])).val.kids.length d6) (.int .i64 (ReadR t (p ++ [cv])).used) (.int .i64 (ReadR t (p ++ [cv])).stop) (.slice A8 m8 c8)
      ·exact set7_fr ((HFR4.out.trans (Fr.of_ext HX5.out))) rfl (.int .i64 (ReadR t (p ++ [cv])).val.kind) (.int .i64 (ReadR t (p ++ [cv])).val.n) (.string (ReadR t (p ++ [cv])).val.s) (.slice A6 (ReadR t (p ++ [cv])).val.kids.length d6) (.int .i64 (ReadR t (p ++ [cv])).used) (.int .i64 (ReadR t (p ++ [cv])).stop) (.slice A8 m8 c8)
     case measure=>simp [lenOf];omega
    ·skip
     have HC64:=Lib.hid (show I64 0 from I64_zero)
     have HX3:=Lib.hid (Ext.refl wr)
     have tl:decide ((p.length:Int)<(raw.length:Int))=false:=decide_eq_false (by omega)
     go_upto_region 12 with fail
     have hsz3:=HX3.out.size
     have HB3:=Lib.hid (HB.out.ext HX3.out)
     have BT3:=Lib.hid ((BTW.out.fr HFR.out (by omega)).ext HX3.out)
     clear r0 r1 r2 r3 r4 r5 r6 f0 f1 f2 f3 f4 f5 f6 y0 cc0 cc1 cc2 cc3 cc4 cc5 cc6 cc7 cc8 cc9 cc10 cc11
     go_upto_region 13 with (at_builtin;go_must (refine wpList_append_sl _ rfl (.tmp 45) (.tmp 47) 22 (by rfl) W.heap.size 3 i3 _ 1 8 Tryz.underlying22 HI3.out hz30 hz31 hz32 rfl (by omega) (.slice A7 p.length c7) _ _ rfl ((HOWN.out.ext_ HX3.out).alloc _) (fun _=>True) (some ⟨wr.heap.size,0,none⟩) 1 1 [.int .i64 0] rfl (Sl.new wr _ _ _ _ rfl) (by simp [Value.oneCell']) (by omega) (by omega) (by simp;omega) ?_);intro v9 w4 ho4 hf4 hb4)
     have HO4:=Lib.hid (ho4.len_cast (show p.length+1=(p ++ [0]).length by simp) (show p.map (Value.int .i64) ++ [.int .i64 0]=(p ++ [0]).map (Value.int .i64) by simp))
     have HOB:=Lib.hid (show ∀ b,(Value.slice A7 p.length c7).ownBlock=some b→W.heap.size≤b from fun b hb=>HOWN.out.block_ge hb)
     have HB4:=Lib.hid ((HB3.out.alloc (.cells #[.int .i64 0] 3)).fr hf4 (fun e=>by have:=HOB.out _ e.symm;omega))
     have BT4:=Lib.hid ((BT3.out.alloc (.cells #[.int .i64 0] 3)).fr hf4 (fun e=>by have:=HOB.out _ e.symm;omega))
     have HFR4:=Lib.hid (show Fr (fun b=>b=g) W w4 from (HFR.out.trans (Fr.of_ext (HX3.out.alloc' (.cells #[.int .i64 0] 3)))).trans_new (hf4.mono (fun b hb=>.inr (HOB.out b hb.symm))))
     have HE4:=Lib.hid (show Ext w w4 from Fr.new_ext ((Fr.of_ext HW.out).trans HFR4.out) (fun b hb=>by omega))
     obtain ⟨A9,c9,e9,-,-,-⟩:=Sl.of_own ho4
     subst e9
     have H64':=Lib.hid (show ∀ z ∈ p ++ [0],I64 z from fun z hz=>(List.mem_append.1 hz).elim (H64.out z) (fun h=>by rw [List.mem_singleton.1 h];exact HC64.out))
     have y0:=BT4.out.cell' (u:=.slice (some ⟨b1,o1,none⟩) t.length cn) 0 rfl
     clear ho4 hf4 hb4
     have HRC:=Lib.hid (Read_any t (p ++ [0]) (fun b=>b<w4.heap.size) (.slice (some ⟨b1,o1,none⟩) t.length cn) (.slice A9 (p.length+1) c9) w4 (HRD.out _ (by simp;omega)) hne (fun b hb=>hb) (HT.out.carry (Keeps.of_ext HE4.out) (fun b hb _=>by have:=HE4.out.size;omega)) (Ints.of_own (HO4.out.len_cast rfl rfl) H64'.out (by simp;omega) (fun b hb=>HO4.out.block_lt hb)))
     go_wp2_with fail
     refine HRC.out.mono ?_
     rintro e w5 ⟨A6,d6,sv6,rfl,-,⟨A8,m8,c8,rfl⟩,hx5⟩
     have HX5:=Lib.hid hx5
     have HB5:=Lib.hid (HB4.out.ext hx5)
     clear hx5 y0
     have r0:=HB5.out.cell' (u:=.int .i64 (ReadR t p).val.kind) 0 rfl
     have f0:=HB5.out.frozen 0
     have r1:=HB5.out.cell' (u:=.int .i64 (ReadR t p).val.n) 1 rfl
     have f1:=HB5.out.frozen 1
     have r2:=HB5.out.cell' (u:=.string (ReadR t p).val.s) 2 rfl
     have f2:=HB5.out.frozen 2
     have r3:=HB5.out.cell' (u:=.slice A4 (ReadR t p).val.kids.length d4) 3 rfl
     have f3:=HB5.out.frozen 3
     have r4:=HB5.out.cell' (u:=.int .i64 (ReadR t p).used) 4 rfl
     have f4:=HB5.out.frozen 4
     have r5:=HB5.out.cell' (u:=.int .i64 (ReadR t p).stop) 5 rfl
     have f5:=HB5.out.frozen 5
     have r6:=HB5.out.cell' (u:=.slice A5 m5 c5) 6 rfl
     have f6:=HB5.out.frozen 6
     go_wp2_with fail
     go_roundw
     case rel =>
      refine ⟨p ++ [0],A6,d6,A8,m8,c8,?_,set7_blk HB5.out _ _ _ _ _ _ _,H64'.out,by simp;omega,?_⟩
      ·exact set7_own ((HO4.out.ext_ HX5.out)) (show g<W.heap.size by omega) (.int .i64 (ReadR t (p ++ [0])).val.kind) (.int .i64 (ReadR t (p ++ [0])).val.n) (.string (ReadR t (p ++ [0])).val.s) (.slice A6 (ReadR t (p ++ [0])).val.kids.length d6) (.int .i64 (ReadR t (p ++ [0])).used) (.int .i64 (ReadR t (p ++ [0])).stop) (.slice A8 m8 c8)
      ·exact set7_fr ((HFR4.out.trans (Fr.of_ext HX5.out))) rfl (.int .i64 (ReadR t (p ++ [0])).val.kind) (.int .i64 (ReadR t (p ++ [0])).val.n) (.string (ReadR t (p ++ [0])).val.s) (.slice A6 (ReadR t (p ++ [0])).val.kids.length d6) (.int .i64 (ReadR t (p ++ [0])).used) (.int .i64 (ReadR t (p ++ [0])).stop) (.slice A8 m8 c8)
     case measure=>simp [lenOf];omega
   ·have ts:decide (0≤(ReadR t p).stop)=false:=decide_eq_false hst
    go_wp2_with fail
    go_ret2
    exact ⟨_,p,0,rfl,Ints.of_own HOWN.out H64.out (by omega) (fun b hb=>.inr (by have:=HOWN.out.block_ge hb;omega)),hpl,HEW.out⟩
 ·have hl0:((t.length:Int) == 0)=true:=beq_iff_eq.2 (by omega)
  have hl1:(t.length == 0)=true:=beq_iff_eq.2 (by omega)
  go_wp2_with fail
  go_ret2
  exact ⟨_,[],10,rfl,⟨none,0,rfl,by simp,by simp,by simp,⟨rfl,fun h=>absurd h (by simp)⟩⟩,by simp,HX1.out⟩
end Go.Proofs.YtkoeecdjijfjnaaGreat
