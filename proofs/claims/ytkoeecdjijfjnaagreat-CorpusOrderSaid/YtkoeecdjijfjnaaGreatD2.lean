/- The contract of the reference's read, at ranges and choices. Conditions: none. -/
import Derived.Test.YtkoeecdjijfjnaaGreatD1
namespace Go.Proofs.YtkoeecdjijfjnaaGreat
open Go.RowKit
theorem VAt_int {n:Int}(h:I64 n)(w:World)(P:Nat→Prop):VAt w P (.mk 0 n ByteArray.empty []) none 0 :=
 ⟨by simp [I64,GV.kind],h,by simp [GV.s],Nat.le_refl _,⟨by simp [GV.kids],by omega⟩,
  ⟨none,0,[],rfl,Nat.le_refl _,⟨by simp [GV.kids],by omega⟩,⟨rfl,fun h=>absurd h (by simp [GV.kids])⟩,rfl⟩⟩
set_option maxRecDepth 100000 in
set_option maxHeartbeats 4000000 in
theorem read1_any (t:List GN)(path:List Int)(f i:Nat)(at_:Int)(P:Nat→Prop)(vn vp:Value)(w:World)(hi:i<t.length)(hn:NodeOK i (t.getD i default))(h0:0≤at_)(h1:at_≤path.length)(hpl:path.length≤1000000)(hP:∀ b,P b→b<w.heap.size)(ht:Nds w P vn t)(hvp:Ints w P vp path)(hk:(t.getD i default).kind=1) :
  Calls Tryz.prog 144 #[.agg #[vn],.int .i64 i,vp,.int .i64 at_] w (RetR P (readR t path (f+1) i at_) (5 ^ (f+1)) w):=by
 have HT:=Lib.hid ht
 have HPP:=Lib.hid hP
 have HN:=Lib.hid hn
 have HVP:=Lib.hid hvp
 have HQ:=Lib.hid (show readR t path (f+1) i at_=readStep (readR t path f) path i (t.getD i default) at_ by simp only [readR,Int.toNat_natCast])
 obtain ⟨An,cn,en,hn1,hn2⟩:=ht.form
 subst en
 obtain ⟨Ap,cp,ep,hp1,hp2⟩:=hvp.form
 subst ep
 obtain ⟨b1,o1,a1,rfl,-,ha1,hc1⟩:=ht.get hi
 have HA:=Lib.hid ha1
 have lb1:=hc1.lt
 have c0:=hc1.c0
 have c1:=hc1.c1
 have c2:=hc1.c2
 have c3:=hc1.c3
 have c4:=hc1.c4
 have c5:=hc1.c5
 have c6:=hc1.c6
 have c7:=hc1.c7
 have c8:=hc1.c8
 have c9:=hc1.c9
 have c10:=hc1.c10
 have c11:=hc1.c11
 have HK:=Lib.hid hk
 have t0:((t.getD i default).kind == 0)=false:=beq_eq_false_iff_ne.2 (by omega)
 have t1:((t.getD i default).kind == 1)=true:=beq_iff_eq.2 hk
 have t3:((t.getD i default).kind == 3)=false:=beq_eq_false_iff_ne.2 (by omega)
 have t4:((t.getD i default).kind == 4)=false:=beq_eq_false_iff_ne.2 (by omega)
 clear ht hP hc1 ha1 hk hn hvp
 generalize t.getD i default=x at *
 have HOPT:=Lib.hid (options_ok HN.out)
 go_enter Tryz.func144,Tryz.ntmps144
 go_upto_region 2 with fail
 have HW:=Lib.hid (ReadW.mk' (.slice (some ⟨b1,o1,none⟩) t.length cn) x a1 w)
 generalize hW:(((w.alloc (.cells #[.slice (some ⟨b1,o1,none⟩) t.length cn] 25)).alloc (.cells zcells 154)).alloc (.cells (ncells x a1).toArray 87))=W at *
 clear hW
 clear c0 c1 c2 c3 c4 c5 c6 c7 c8 c9 c10 c11
 by_cases hat:(path.length:Int)≤at_
 ·have ta:decide ((path.length:Int)≤at_)=true:=decide_eq_true hat
  have HR:=Lib.hid (show readR t path (f+1) i at_=⟨zeroGV,0,i⟩ by rw [HQ.out];unfold readStep;rw [(if_neg (show ¬ x.kind=0 by have:=HK.out;omega)),(if_neg (show ¬ x.kind=3 by have:=HK.out;omega)),(if_neg (show ¬ x.kind=4 by have:=HK.out;omega)),if_pos hat])
  have hat':¬ at_<(path.length:Int):=by omega
  have x0:=HW.out.box.cell' (u:=.int .i64 x.kind) 0 rfl
  have r0:=HW.out.res.cell' (u:=.int .i64 0) 0 rfl
  have f0:=HW.out.res.frozen 0
  have r1:=HW.out.res.cell' (u:=.int .i64 0) 1 rfl
  have f1:=HW.out.res.frozen 1
  have r2:=HW.out.res.cell' (u:=.string ⟨#[]⟩) 2 rfl
  have f2:=HW.out.res.frozen 2
  have r3:=HW.out.res.cell' (u:=.slice none 0 0) 3 rfl
  have f3:=HW.out.res.frozen 3
  have r4:=HW.out.res.cell' (u:=.int .i64 0) 4 rfl
  have f4:=HW.out.res.frozen 4
  have r5:=HW.out.res.cell' (u:=.int .i64 0) 5 rfl
  have f5:=HW.out.res.frozen 5
  have r6:=HW.out.res.cell' (u:=.slice none 0 0) 6 rfl
  have f6:=HW.out.res.frozen 6
  go_wp2_with fail
  have q:=set7_blk HW.out.res (.int .i64 0) (.int .i64 0) (.string ⟨#[]⟩) (.slice none 0 0) (.int .i64 0) (.int .i64 i) (.slice none 0 0)
  have HX2:=Lib.hid (set7_ext HW.out.ext (show w.heap.size≤w.heap.size+1 by omega) (.int .i64 0) (.int .i64 0) (.string ⟨#[]⟩) (.slice none 0 0) (.int .i64 0) (.int .i64 i) (.slice none 0 0))
  change bodyPost Tryz.prog Tryz.f144 _ Exit.ret _ (set7 W (w.heap.size+1) (.int .i64 0) (.int .i64 0) (.string ⟨#[]⟩) (.slice none 0 0) (.int .i64 0) (.int .i64 i) (.slice none 0 0))
  generalize set7 W (w.heap.size+1) (.int .i64 0) (.int .i64 0) (.string ⟨#[]⟩) (.slice none 0 0) (.int .i64 0) (.int .i64 i) (.slice none 0 0)=W' at *
  have q0:=q.cell' (u:=.int .i64 0) 0 rfl
  have q1:=q.cell' (u:=.int .i64 0) 1 rfl
  have q2:=q.cell' (u:=.string ⟨#[]⟩) 2 rfl
  have q3:=q.cell' (u:=.slice none 0 0) 3 rfl
  have q4:=q.cell' (u:=.int .i64 0) 4 rfl
  have q5:=q.cell' (u:=.int .i64 i) 5 rfl
  have q6:=q.cell' (u:=.slice none 0 0) 6 rfl
  rw [HR.out]
  refine bodyPost_ret (v:=.agg (rcells ⟨zeroGV,0,i⟩ none 0 (.slice none 0 0))) (by simp [results,Tryz.results144,go_sem,q0,q1,q2,q3,q4,q5,q6];try (first | rfl | exact ⟨rfl,rfl,rfl,rfl⟩)) rfl ⟨none,0,.slice none 0 0,0,[],rfl,VAt.zero _ _,own_none _ _ _ _,?_,HX2.out⟩
  exact SpOK.nil f
 ·have ta:decide ((path.length:Int)≤at_)=false:=decide_eq_false hat
  have hat':at_<(path.length:Int):=by omega
  have hatn:at_.toNat<path.length:=by omega
  obtain ⟨bp,op,rfl,-,-,gp⟩:=(HVP.out.ext HW.out.ext).get hatn
  have HR:=Lib.hid (show readR t path (f+1) i at_=(if path.getD at_.toNat 0<0∨optionsI x≤path.getD at_.toNat 0 then ⟨zeroGV,0,-2⟩ else if x.kind=1 then ⟨.mk 0 (x.lo+path.getD at_.toNat 0) ByteArray.empty [],1,-1⟩ else ⟨(readR t path f (x.kids.getD (path.getD at_.toNat 0).toNat 0) (at_+1)).val,(readR t path f (x.kids.getD (path.getD at_.toNat 0).toNat 0) (at_+1)).used+1,(readR t path f (x.kids.getD (path.getD at_.toNat 0).toNat 0) (at_+1)).stop⟩) by rw [HQ.out];unfold readStep;rw [(if_neg (show ¬ x.kind=0 by have:=HK.out;omega)),(if_neg (show ¬ x.kind=3 by have:=HK.out;omega)),(if_neg (show ¬ x.kind=4 by have:=HK.out;omega)),if_neg hat])
  generalize path.getD at_.toNat 0=c at *
  have x0:=HW.out.box.cell' (u:=.int .i64 x.kind) 0 rfl
  have x1:=HW.out.box.cell' (u:=.string x.name) 1 rfl
  have x2:=HW.out.box.cell' (u:=.int .i64 x.lo) 2 rfl
  have x3:=HW.out.box.cell' (u:=.int .i64 x.hi) 3 rfl
  have x4:=HW.out.box.cell' (u:=.slice a1.wA x.weights.length a1.wc) 4 rfl
  have x5:=HW.out.box.cell' (u:=.slice a1.lA x.labels.length a1.lc) 5 rfl
  have x6:=HW.out.box.cell' (u:=.slice a1.vA x.values.length a1.vc) 6 rfl
  have x7:=HW.out.box.cell' (u:=.slice a1.kA x.kids.length a1.kc) 7 rfl
  have x8:=HW.out.box.cell' (u:=.int .i64 x.value.kind) 8 rfl
  have x9:=HW.out.box.cell' (u:=.int .i64 x.value.n) 9 rfl
  have x10:=HW.out.box.cell' (u:=.string x.value.s) 10 rfl
  have x11:=HW.out.box.cell' (u:=.slice a1.xA x.value.kids.length a1.xc) 11 rfl
  have r0:=HW.out.res.cell' (u:=.int .i64 0) 0 rfl
  have f0:=HW.out.res.frozen 0
  have r1:=HW.out.res.cell' (u:=.int .i64 0) 1 rfl
  have f1:=HW.out.res.frozen 1
  have r2:=HW.out.res.cell' (u:=.string ⟨#[]⟩) 2 rfl
  have f2:=HW.out.res.frozen 2
  have r3:=HW.out.res.cell' (u:=.slice none 0 0) 3 rfl
  have f3:=HW.out.res.frozen 3
  have r4:=HW.out.res.cell' (u:=.int .i64 0) 4 rfl
  have f4:=HW.out.res.frozen 4
  have r5:=HW.out.res.cell' (u:=.int .i64 0) 5 rfl
  have f5:=HW.out.res.frozen 5
  have r6:=HW.out.res.cell' (u:=.slice none 0 0) 6 rfl
  have f6:=HW.out.res.frozen 6
  by_cases hc0:c<0
  ·have HR2:=Lib.hid (show readR t path (f+1) i at_=⟨zeroGV,0,-2⟩ by rw [HR.out,if_pos (.inl hc0)])
   have tc:decide (c<0)=true:=decide_eq_true hc0
   go_wp2_with fail
   have q:=set7_blk HW.out.res (.int .i64 0) (.int .i64 0) (.string ⟨#[]⟩) (.slice none 0 0) (.int .i64 0) (.int .i64 (-2)) (.slice none 0 0)
   have HX2:=Lib.hid (set7_ext HW.out.ext (show w.heap.size≤w.heap.size+1 by omega) (.int .i64 0) (.int .i64 0) (.string ⟨#[]⟩) (.slice none 0 0) (.int .i64 0) (.int .i64 (-2)) (.slice none 0 0))
   change bodyPost Tryz.prog Tryz.f144 _ Exit.ret _ (set7 W (w.heap.size+1) (.int .i64 0) (.int .i64 0) (.string ⟨#[]⟩) (.slice none 0 0) (.int .i64 0) (.int .i64 (-2)) (.slice none 0 0))
   generalize set7 W (w.heap.size+1) (.int .i64 0) (.int .i64 0) (.string ⟨#[]⟩) (.slice none 0 0) (.int .i64 0) (.int .i64 (-2)) (.slice none 0 0)=W' at *
   have q0:=q.cell' (u:=.int .i64 0) 0 rfl
   have q1:=q.cell' (u:=.int .i64 0) 1 rfl
   have q2:=q.cell' (u:=.string ⟨#[]⟩) 2 rfl
   have q3:=q.cell' (u:=.slice none 0 0) 3 rfl
   have q4:=q.cell' (u:=.int .i64 0) 4 rfl
   have q5:=q.cell' (u:=.int .i64 (-2)) 5 rfl
   have q6:=q.cell' (u:=.slice none 0 0) 6 rfl
   rw [HR2.out]
   refine bodyPost_ret (v:=.agg (rcells ⟨zeroGV,0,-2⟩ none 0 (.slice none 0 0))) (by simp [results,Tryz.results144,go_sem,q0,q1,q2,q3,q4,q5,q6];try (first | rfl | exact ⟨rfl,rfl,rfl,rfl⟩)) rfl ⟨none,0,.slice none 0 0,0,[],rfl,VAt.zero _ _,own_none _ _ _ _,?_,HX2.out⟩
   exact SpOK.nil f
  have tc:decide (c<0)=false:=decide_eq_false hc0
  go_wp2_with fail
  refine (refOptions_any x a1 _).mono ?_
  rintro e w1 ⟨rfl,hx1⟩
  have HX1:=Lib.hid hx1
  have RES:=Lib.hid (HW.out.res.ext hx1)
  have BOX:=Lib.hid (HW.out.box.ext hx1)
  have TREE:=Lib.hid (HW.out.tree.ext hx1)
  clear hx1 gp x0 x1 x2 x3 x4 x5 x6 x7 x8 x9 x10 x11 r0 r1 r2 r3 r4 r5 r6 f0 f1 f2 f3 f4 f5 f6
  have x0:=BOX.out.cell' (u:=.int .i64 x.kind) 0 rfl
  have x1:=BOX.out.cell' (u:=.string x.name) 1 rfl
  have x2:=BOX.out.cell' (u:=.int .i64 x.lo) 2 rfl
  have x3:=BOX.out.cell' (u:=.int .i64 x.hi) 3 rfl
  have x4:=BOX.out.cell' (u:=.slice a1.wA x.weights.length a1.wc) 4 rfl
  have x5:=BOX.out.cell' (u:=.slice a1.lA x.labels.length a1.lc) 5 rfl
  have x6:=BOX.out.cell' (u:=.slice a1.vA x.values.length a1.vc) 6 rfl
  have x7:=BOX.out.cell' (u:=.slice a1.kA x.kids.length a1.kc) 7 rfl
  have x8:=BOX.out.cell' (u:=.int .i64 x.value.kind) 8 rfl
  have x9:=BOX.out.cell' (u:=.int .i64 x.value.n) 9 rfl
  have x10:=BOX.out.cell' (u:=.string x.value.s) 10 rfl
  have x11:=BOX.out.cell' (u:=.slice a1.xA x.value.kids.length a1.xc) 11 rfl
  have r0:=RES.out.cell' (u:=.int .i64 0) 0 rfl
  have f0:=RES.out.frozen 0
  have r1:=RES.out.cell' (u:=.int .i64 0) 1 rfl
  have f1:=RES.out.frozen 1
  have r2:=RES.out.cell' (u:=.string ⟨#[]⟩) 2 rfl
  have f2:=RES.out.frozen 2
  have r3:=RES.out.cell' (u:=.slice none 0 0) 3 rfl
  have f3:=RES.out.frozen 3
  have r4:=RES.out.cell' (u:=.int .i64 0) 4 rfl
  have f4:=RES.out.frozen 4
  have r5:=RES.out.cell' (u:=.int .i64 0) 5 rfl
  have f5:=RES.out.frozen 5
  have r6:=RES.out.cell' (u:=.slice none 0 0) 6 rfl
  have f6:=RES.out.frozen 6
  by_cases hco:optionsI x≤c
  ·have HR2:=Lib.hid (show readR t path (f+1) i at_=⟨zeroGV,0,-2⟩ by rw [HR.out,if_pos (.inr hco)])
   have to':decide (optionsI x≤c)=true:=decide_eq_true hco
   go_wp2_with fail
   have q:=set7_blk RES.out (.int .i64 0) (.int .i64 0) (.string ⟨#[]⟩) (.slice none 0 0) (.int .i64 0) (.int .i64 (-2)) (.slice none 0 0)
   have HX2:=Lib.hid (set7_ext (HW.out.ext.trans' HX1.out) (show w.heap.size≤w.heap.size+1 by omega) (.int .i64 0) (.int .i64 0) (.string ⟨#[]⟩) (.slice none 0 0) (.int .i64 0) (.int .i64 (-2)) (.slice none 0 0))
   change bodyPost Tryz.prog Tryz.f144 _ Exit.ret _ (set7 w1 (w.heap.size+1) (.int .i64 0) (.int .i64 0) (.string ⟨#[]⟩) (.slice none 0 0) (.int .i64 0) (.int .i64 (-2)) (.slice none 0 0))
   generalize set7 w1 (w.heap.size+1) (.int .i64 0) (.int .i64 0) (.string ⟨#[]⟩) (.slice none 0 0) (.int .i64 0) (.int .i64 (-2)) (.slice none 0 0)=W' at *
   have q0:=q.cell' (u:=.int .i64 0) 0 rfl
   have q1:=q.cell' (u:=.int .i64 0) 1 rfl
   have q2:=q.cell' (u:=.string ⟨#[]⟩) 2 rfl
   have q3:=q.cell' (u:=.slice none 0 0) 3 rfl
   have q4:=q.cell' (u:=.int .i64 0) 4 rfl
   have q5:=q.cell' (u:=.int .i64 (-2)) 5 rfl
   have q6:=q.cell' (u:=.slice none 0 0) 6 rfl
   rw [HR2.out]
   refine bodyPost_ret (v:=.agg (rcells ⟨zeroGV,0,-2⟩ none 0 (.slice none 0 0))) (by simp [results,Tryz.results144,go_sem,q0,q1,q2,q3,q4,q5,q6];try (first | rfl | exact ⟨rfl,rfl,rfl,rfl⟩)) rfl ⟨none,0,.slice none 0 0,0,[],rfl,VAt.zero _ _,own_none _ _ _ _,?_,HX2.out⟩
   exact SpOK.nil f
  have to':decide (optionsI x≤c)=false:=decide_eq_false hco
  have HR3:=Lib.hid (HR.out.trans (if_neg (fun h:c<0∨optionsI x≤c=>by omega)))
  have HR4:=Lib.hid (show readR t path (f+1) i at_=⟨.mk 0 (x.lo+c) ByteArray.empty [],1,-1⟩ by rw [HR3.out,if_pos HK.out])
  have hnum:=numbersB_ok HN.out.numbers
  have hop:=HOPT.out
  rw [if_pos HK.out] at hop
  have hc2:c<x.hi - x.lo+1:=by omega
  clear hop
  have HI:=Lib.hid (show I64 (x.lo+c) by unfold I64;omega)
  go_wp2_with fail
  have q:=set7_blk RES.out (.int .i64 0) (.int .i64 (x.lo+c)) (.string ⟨#[]⟩) (.slice none 0 0) (.int .i64 1) (.int .i64 (-1)) (.slice none 0 0)
  have HX2:=Lib.hid (set7_ext (HW.out.ext.trans' HX1.out) (show w.heap.size≤w.heap.size+1 by omega) (.int .i64 0) (.int .i64 (x.lo+c)) (.string ⟨#[]⟩) (.slice none 0 0) (.int .i64 1) (.int .i64 (-1)) (.slice none 0 0))
  have HV:=Lib.hid (VAt_int (n:=x.lo+c) HI.out)
  change bodyPost Tryz.prog Tryz.f144 _ Exit.ret _ (set7 w1 (w.heap.size+1) (.int .i64 0) (.int .i64 (x.lo+c)) (.string ⟨#[]⟩) (.slice none 0 0) (.int .i64 1) (.int .i64 (-1)) (.slice none 0 0))
  generalize set7 w1 (w.heap.size+1) (.int .i64 0) (.int .i64 (x.lo+c)) (.string ⟨#[]⟩) (.slice none 0 0) (.int .i64 1) (.int .i64 (-1)) (.slice none 0 0)=W' at *
  have q0:=q.cell' (u:=.int .i64 0) 0 rfl
  have q1:=q.cell' (u:=.int .i64 (x.lo+c)) 1 rfl
  have q2:=q.cell' (u:=.string ⟨#[]⟩) 2 rfl
  have q3:=q.cell' (u:=.slice none 0 0) 3 rfl
  have q4:=q.cell' (u:=.int .i64 1) 4 rfl
  have q5:=q.cell' (u:=.int .i64 (-1)) 5 rfl
  have q6:=q.cell' (u:=.slice none 0 0) 6 rfl
  rw [HR4.out]
  refine bodyPost_ret (v:=.agg (rcells ⟨.mk 0 (x.lo+c) ByteArray.empty [],1,-1⟩ none 0 (.slice none 0 0))) (by simp [results,Tryz.results144,go_sem,q0,q1,q2,q3,q4,q5,q6];try (first | rfl | exact ⟨rfl,rfl,rfl,rfl⟩)) rfl ⟨none,0,.slice none 0 0,0,[],rfl,HV.out W' _,own_none _ _ _ _,?_,HX2.out⟩
  exact SpOK.nil f
set_option maxRecDepth 100000 in
set_option maxHeartbeats 4000000 in
theorem read2_any (t:List GN)(path:List Int)(f i:Nat)(at_:Int)(P:Nat→Prop)(vn vp:Value)(w:World)(hS:ReadSaid t path f)(hif:i<f+1)(hR:∀ (z:Nat)(k:Int),z<f→z<t.length→0≤k→k≤path.length→ReadOK t path z k (readR t path f z k))(hi:i<t.length)(hn:NodeOK i (t.getD i default))(h0:0≤at_)(h1:at_≤path.length)(hpl:path.length≤1000000)(hP:∀ b,P b→b<w.heap.size)(ht:Nds w P vn t)(hvp:Ints w P vp path)(hk:(t.getD i default).kind=2) :
  Calls Tryz.prog 144 #[.agg #[vn],.int .i64 i,vp,.int .i64 at_] w (RetR P (readR t path (f+1) i at_) (5 ^ (f+1)) w):=by
 have HT:=Lib.hid ht
 have HPP:=Lib.hid hP
 have HN:=Lib.hid hn
 have HVP:=Lib.hid hvp
 have HQ:=Lib.hid (show readR t path (f+1) i at_=readStep (readR t path f) path i (t.getD i default) at_ by simp only [readR,Int.toNat_natCast])
 obtain ⟨An,cn,en,hn1,hn2⟩:=ht.form
 subst en
 obtain ⟨Ap,cp,ep,hp1,hp2⟩:=hvp.form
 subst ep
 obtain ⟨b1,o1,a1,rfl,-,ha1,hc1⟩:=ht.get hi
 have HA:=Lib.hid ha1
 have lb1:=hc1.lt
 have c0:=hc1.c0
 have c1:=hc1.c1
 have c2:=hc1.c2
 have c3:=hc1.c3
 have c4:=hc1.c4
 have c5:=hc1.c5
 have c6:=hc1.c6
 have c7:=hc1.c7
 have c8:=hc1.c8
 have c9:=hc1.c9
 have c10:=hc1.c10
 have c11:=hc1.c11
 have HK:=Lib.hid hk
 have t0:((t.getD i default).kind == 0)=false:=beq_eq_false_iff_ne.2 (by omega)
 have t1:((t.getD i default).kind == 1)=false:=beq_eq_false_iff_ne.2 (by omega)
 have t3:((t.getD i default).kind == 3)=false:=beq_eq_false_iff_ne.2 (by omega)
 have t4:((t.getD i default).kind == 4)=false:=beq_eq_false_iff_ne.2 (by omega)
 clear ht hP hc1 ha1 hk hn hvp
 generalize t.getD i default=x at *
 have HOPT:=Lib.hid (options_ok HN.out)
 go_enter Tryz.func144,Tryz.ntmps144
 go_upto_region 2 with fail
 have HW:=Lib.hid (ReadW.mk' (.slice (some ⟨b1,o1,none⟩) t.length cn) x a1 w)
 generalize hW:(((w.alloc (.cells #[.slice (some ⟨b1,o1,none⟩) t.length cn] 25)).alloc (.cells zcells 154)).alloc (.cells (ncells x a1).toArray 87))=W at *
 clear hW
 clear c0 c1 c2 c3 c4 c5 c6 c7 c8 c9 c10 c11
 by_cases hat:(path.length:Int)≤at_
 ·have ta:decide ((path.length:Int)≤at_)=true:=decide_eq_true hat
  have HR:=Lib.hid (show readR t path (f+1) i at_=⟨zeroGV,0,i⟩ by rw [HQ.out];unfold readStep;rw [(if_neg (show ¬ x.kind=0 by have:=HK.out;omega)),(if_neg (show ¬ x.kind=3 by have:=HK.out;omega)),(if_neg (show ¬ x.kind=4 by have:=HK.out;omega)),if_pos hat])
  have hat':¬ at_<(path.length:Int):=by omega
  have x0:=HW.out.box.cell' (u:=.int .i64 x.kind) 0 rfl
  have r0:=HW.out.res.cell' (u:=.int .i64 0) 0 rfl
  have f0:=HW.out.res.frozen 0
  have r1:=HW.out.res.cell' (u:=.int .i64 0) 1 rfl
  have f1:=HW.out.res.frozen 1
  have r2:=HW.out.res.cell' (u:=.string ⟨#[]⟩) 2 rfl
  have f2:=HW.out.res.frozen 2
  have r3:=HW.out.res.cell' (u:=.slice none 0 0) 3 rfl
  have f3:=HW.out.res.frozen 3
  have r4:=HW.out.res.cell' (u:=.int .i64 0) 4 rfl
  have f4:=HW.out.res.frozen 4
  have r5:=HW.out.res.cell' (u:=.int .i64 0) 5 rfl
  have f5:=HW.out.res.frozen 5
  have r6:=HW.out.res.cell' (u:=.slice none 0 0) 6 rfl
  have f6:=HW.out.res.frozen 6
  go_wp2_with fail
  have q:=set7_blk HW.out.res (.int .i64 0) (.int .i64 0) (.string ⟨#[]⟩) (.slice none 0 0) (.int .i64 0) (.int .i64 i) (.slice none 0 0)
  have HX2:=Lib.hid (set7_ext HW.out.ext (show w.heap.size≤w.heap.size+1 by omega) (.int .i64 0) (.int .i64 0) (.string ⟨#[]⟩) (.slice none 0 0) (.int .i64 0) (.int .i64 i) (.slice none 0 0))
  change bodyPost Tryz.prog Tryz.f144 _ Exit.ret _ (set7 W (w.heap.size+1) (.int .i64 0) (.int .i64 0) (.string ⟨#[]⟩) (.slice none 0 0) (.int .i64 0) (.int .i64 i) (.slice none 0 0))
  generalize set7 W (w.heap.size+1) (.int .i64 0) (.int .i64 0) (.string ⟨#[]⟩) (.slice none 0 0) (.int .i64 0) (.int .i64 i) (.slice none 0 0)=W' at *
  have q0:=q.cell' (u:=.int .i64 0) 0 rfl
  have q1:=q.cell' (u:=.int .i64 0) 1 rfl
  have q2:=q.cell' (u:=.string ⟨#[]⟩) 2 rfl
  have q3:=q.cell' (u:=.slice none 0 0) 3 rfl
  have q4:=q.cell' (u:=.int .i64 0) 4 rfl
  have q5:=q.cell' (u:=.int .i64 i) 5 rfl
  have q6:=q.cell' (u:=.slice none 0 0) 6 rfl
  rw [HR.out]
  refine bodyPost_ret (v:=.agg (rcells ⟨zeroGV,0,i⟩ none 0 (.slice none 0 0))) (by simp [results,Tryz.results144,go_sem,q0,q1,q2,q3,q4,q5,q6];try (first | rfl | exact ⟨rfl,rfl,rfl,rfl⟩)) rfl ⟨none,0,.slice none 0 0,0,[],rfl,VAt.zero _ _,own_none _ _ _ _,?_,HX2.out⟩
  exact SpOK.nil f
 ·have ta:decide ((path.length:Int)≤at_)=false:=decide_eq_false hat
  have hat':at_<(path.length:Int):=by omega
  have hatn:at_.toNat<path.length:=by omega
  obtain ⟨bp,op,rfl,-,-,gp⟩:=(HVP.out.ext HW.out.ext).get hatn
  have HR:=Lib.hid (show readR t path (f+1) i at_=(if path.getD at_.toNat 0<0∨optionsI x≤path.getD at_.toNat 0 then ⟨zeroGV,0,-2⟩ else if x.kind=1 then ⟨.mk 0 (x.lo+path.getD at_.toNat 0) ByteArray.empty [],1,-1⟩ else ⟨(readR t path f (x.kids.getD (path.getD at_.toNat 0).toNat 0) (at_+1)).val,(readR t path f (x.kids.getD (path.getD at_.toNat 0).toNat 0) (at_+1)).used+1,(readR t path f (x.kids.getD (path.getD at_.toNat 0).toNat 0) (at_+1)).stop⟩) by rw [HQ.out];unfold readStep;rw [(if_neg (show ¬ x.kind=0 by have:=HK.out;omega)),(if_neg (show ¬ x.kind=3 by have:=HK.out;omega)),(if_neg (show ¬ x.kind=4 by have:=HK.out;omega)),if_neg hat])
  generalize path.getD at_.toNat 0=c at *
  have x0:=HW.out.box.cell' (u:=.int .i64 x.kind) 0 rfl
  have x1:=HW.out.box.cell' (u:=.string x.name) 1 rfl
  have x2:=HW.out.box.cell' (u:=.int .i64 x.lo) 2 rfl
  have x3:=HW.out.box.cell' (u:=.int .i64 x.hi) 3 rfl
  have x4:=HW.out.box.cell' (u:=.slice a1.wA x.weights.length a1.wc) 4 rfl
  have x5:=HW.out.box.cell' (u:=.slice a1.lA x.labels.length a1.lc) 5 rfl
  have x6:=HW.out.box.cell' (u:=.slice a1.vA x.values.length a1.vc) 6 rfl
  have x7:=HW.out.box.cell' (u:=.slice a1.kA x.kids.length a1.kc) 7 rfl
  have x8:=HW.out.box.cell' (u:=.int .i64 x.value.kind) 8 rfl
  have x9:=HW.out.box.cell' (u:=.int .i64 x.value.n) 9 rfl
  have x10:=HW.out.box.cell' (u:=.string x.value.s) 10 rfl
  have x11:=HW.out.box.cell' (u:=.slice a1.xA x.value.kids.length a1.xc) 11 rfl
  have r0:=HW.out.res.cell' (u:=.int .i64 0) 0 rfl
  have f0:=HW.out.res.frozen 0
  have r1:=HW.out.res.cell' (u:=.int .i64 0) 1 rfl
  have f1:=HW.out.res.frozen 1
  have r2:=HW.out.res.cell' (u:=.string ⟨#[]⟩) 2 rfl
  have f2:=HW.out.res.frozen 2
  have r3:=HW.out.res.cell' (u:=.slice none 0 0) 3 rfl
  have f3:=HW.out.res.frozen 3
  have r4:=HW.out.res.cell' (u:=.int .i64 0) 4 rfl
  have f4:=HW.out.res.frozen 4
  have r5:=HW.out.res.cell' (u:=.int .i64 0) 5 rfl
  have f5:=HW.out.res.frozen 5
  have r6:=HW.out.res.cell' (u:=.slice none 0 0) 6 rfl
  have f6:=HW.out.res.frozen 6
  by_cases hc0:c<0
  ·have HR2:=Lib.hid (show readR t path (f+1) i at_=⟨zeroGV,0,-2⟩ by rw [HR.out,if_pos (.inl hc0)])
   have tc:decide (c<0)=true:=decide_eq_true hc0
   go_wp2_with fail
   have q:=set7_blk HW.out.res (.int .i64 0) (.int .i64 0) (.string ⟨#[]⟩) (.slice none 0 0) (.int .i64 0) (.int .i64 (-2)) (.slice none 0 0)
   have HX2:=Lib.hid (set7_ext HW.out.ext (show w.heap.size≤w.heap.size+1 by omega) (.int .i64 0) (.int .i64 0) (.string ⟨#[]⟩) (.slice none 0 0) (.int .i64 0) (.int .i64 (-2)) (.slice none 0 0))
   change bodyPost Tryz.prog Tryz.f144 _ Exit.ret _ (set7 W (w.heap.size+1) (.int .i64 0) (.int .i64 0) (.string ⟨#[]⟩) (.slice none 0 0) (.int .i64 0) (.int .i64 (-2)) (.slice none 0 0))
   generalize set7 W (w.heap.size+1) (.int .i64 0) (.int .i64 0) (.string ⟨#[]⟩) (.slice none 0 0) (.int .i64 0) (.int .i64 (-2)) (.slice none 0 0)=W' at *
   have q0:=q.cell' (u:=.int .i64 0) 0 rfl
   have q1:=q.cell' (u:=.int .i64 0) 1 rfl
   have q2:=q.cell' (u:=.string ⟨#[]⟩) 2 rfl
   have q3:=q.cell' (u:=.slice none 0 0) 3 rfl
   have q4:=q.cell' (u:=.int .i64 0) 4 rfl
   have q5:=q.cell' (u:=.int .i64 (-2)) 5 rfl
   have q6:=q.cell' (u:=.slice none 0 0) 6 rfl
   rw [HR2.out]
   refine bodyPost_ret (v:=.agg (rcells ⟨zeroGV,0,-2⟩ none 0 (.slice none 0 0))) (by simp [results,Tryz.results144,go_sem,q0,q1,q2,q3,q4,q5,q6];try (first | rfl | exact ⟨rfl,rfl,rfl,rfl⟩)) rfl ⟨none,0,.slice none 0 0,0,[],rfl,VAt.zero _ _,own_none _ _ _ _,?_,HX2.out⟩
   exact SpOK.nil f
  have tc:decide (c<0)=false:=decide_eq_false hc0
  go_wp2_with fail
  refine (refOptions_any x a1 _).mono ?_
  rintro e w1 ⟨rfl,hx1⟩
  have HX1:=Lib.hid hx1
  have RES:=Lib.hid (HW.out.res.ext hx1)
  have BOX:=Lib.hid (HW.out.box.ext hx1)
  have TREE:=Lib.hid (HW.out.tree.ext hx1)
  clear hx1 gp x0 x1 x2 x3 x4 x5 x6 x7 x8 x9 x10 x11 r0 r1 r2 r3 r4 r5 r6 f0 f1 f2 f3 f4 f5 f6
  have x0:=BOX.out.cell' (u:=.int .i64 x.kind) 0 rfl
  have x1:=BOX.out.cell' (u:=.string x.name) 1 rfl
  have x2:=BOX.out.cell' (u:=.int .i64 x.lo) 2 rfl
  have x3:=BOX.out.cell' (u:=.int .i64 x.hi) 3 rfl
  have x4:=BOX.out.cell' (u:=.slice a1.wA x.weights.length a1.wc) 4 rfl
  have x5:=BOX.out.cell' (u:=.slice a1.lA x.labels.length a1.lc) 5 rfl
  have x6:=BOX.out.cell' (u:=.slice a1.vA x.values.length a1.vc) 6 rfl
  have x7:=BOX.out.cell' (u:=.slice a1.kA x.kids.length a1.kc) 7 rfl
  have x8:=BOX.out.cell' (u:=.int .i64 x.value.kind) 8 rfl
  have x9:=BOX.out.cell' (u:=.int .i64 x.value.n) 9 rfl
  have x10:=BOX.out.cell' (u:=.string x.value.s) 10 rfl
  have x11:=BOX.out.cell' (u:=.slice a1.xA x.value.kids.length a1.xc) 11 rfl
  have r0:=RES.out.cell' (u:=.int .i64 0) 0 rfl
  have f0:=RES.out.frozen 0
  have r1:=RES.out.cell' (u:=.int .i64 0) 1 rfl
  have f1:=RES.out.frozen 1
  have r2:=RES.out.cell' (u:=.string ⟨#[]⟩) 2 rfl
  have f2:=RES.out.frozen 2
  have r3:=RES.out.cell' (u:=.slice none 0 0) 3 rfl
  have f3:=RES.out.frozen 3
  have r4:=RES.out.cell' (u:=.int .i64 0) 4 rfl
  have f4:=RES.out.frozen 4
  have r5:=RES.out.cell' (u:=.int .i64 0) 5 rfl
  have f5:=RES.out.frozen 5
  have r6:=RES.out.cell' (u:=.slice none 0 0) 6 rfl
  have f6:=RES.out.frozen 6
  by_cases hco:optionsI x≤c
  ·have HR2:=Lib.hid (show readR t path (f+1) i at_=⟨zeroGV,0,-2⟩ by rw [HR.out,if_pos (.inr hco)])
   have to':decide (optionsI x≤c)=true:=decide_eq_true hco
   go_wp2_with fail
   have q:=set7_blk RES.out (.int .i64 0) (.int .i64 0) (.string ⟨#[]⟩) (.slice none 0 0) (.int .i64 0) (.int .i64 (-2)) (.slice none 0 0)
   have HX2:=Lib.hid (set7_ext (HW.out.ext.trans' HX1.out) (show w.heap.size≤w.heap.size+1 by omega) (.int .i64 0) (.int .i64 0) (.string ⟨#[]⟩) (.slice none 0 0) (.int .i64 0) (.int .i64 (-2)) (.slice none 0 0))
   change bodyPost Tryz.prog Tryz.f144 _ Exit.ret _ (set7 w1 (w.heap.size+1) (.int .i64 0) (.int .i64 0) (.string ⟨#[]⟩) (.slice none 0 0) (.int .i64 0) (.int .i64 (-2)) (.slice none 0 0))
   generalize set7 w1 (w.heap.size+1) (.int .i64 0) (.int .i64 0) (.string ⟨#[]⟩) (.slice none 0 0) (.int .i64 0) (.int .i64 (-2)) (.slice none 0 0)=W' at *
   have q0:=q.cell' (u:=.int .i64 0) 0 rfl
   have q1:=q.cell' (u:=.int .i64 0) 1 rfl
   have q2:=q.cell' (u:=.string ⟨#[]⟩) 2 rfl
   have q3:=q.cell' (u:=.slice none 0 0) 3 rfl
   have q4:=q.cell' (u:=.int .i64 0) 4 rfl
   have q5:=q.cell' (u:=.int .i64 (-2)) 5 rfl
   have q6:=q.cell' (u:=.slice none 0 0) 6 rfl
   rw [HR2.out]
   refine bodyPost_ret (v:=.agg (rcells ⟨zeroGV,0,-2⟩ none 0 (.slice none 0 0))) (by simp [results,Tryz.results144,go_sem,q0,q1,q2,q3,q4,q5,q6];try (first | rfl | exact ⟨rfl,rfl,rfl,rfl⟩)) rfl ⟨none,0,.slice none 0 0,0,[],rfl,VAt.zero _ _,own_none _ _ _ _,?_,HX2.out⟩
   exact SpOK.nil f
  have to':decide (optionsI x≤c)=false:=decide_eq_false hco
  have HR3:=Lib.hid (HR.out.trans (if_neg (fun h:c<0∨optionsI x≤c=>by omega)))
  have HR4:=Lib.hid (HR3.out.trans (if_neg (show ¬ x.kind=1 by have:=HK.out;omega)))
  have hop:=HOPT.out
  rw [if_neg (show ¬ x.kind=1 by have:=HK.out;omega)] at hop
  have hcn:c.toNat<x.kids.length:=by omega
  have hc2:c<(x.kids.length:Int):=by omega
  clear hop
  obtain ⟨bk,ok,ek,-,-,gk⟩:=((HA.out.kids.ext HW.out.ext).ext HX1.out).get hcn
  have hz:=HN.out.kids _ (getD_mem (d:=0) hcn)
  rw [ek] at x7
  clear ek
  have y0:=TREE.out.cell' (u:=.slice (some ⟨b1,o1,none⟩) t.length cn) 0 rfl
  generalize x.kids.getD c.toNat 0=z at *
  obtain ⟨zn,rfl⟩:∃ zn:Nat,z=zn:=⟨z.toNat,by omega⟩
  have ha1:IntKind.i64.wrap (at_+1)=at_+1:=IntWalk.i64_in _ (by omega)
  have hsz:=HX1.out.size
  have hsw:=HW.out.size
  go_upto_region 21 with fail
  have HT1:=Lib.hid (HT.out.ext (HW.out.ext.trans' HX1.out))
  have HVP1:=Lib.hid (HVP.out.ext (HW.out.ext.trans' HX1.out))
  have HSA:=Lib.hid (hS zn (at_+1) P _ _ ((w1.alloc (.cells zcells 154)).drew) (by omega) (by omega) (by omega) (by omega) (fun b hb=>by have:=HPP.out b hb;simp;omega) (HT1.out.ext ((Ext.refl _).alloc' _).drew') (HVP1.out.ext ((Ext.refl _).alloc' _).drew'))
  have HSB:=Lib.hid (hS zn (at_+1) P _ _ w1.drew (by omega) (by omega) (by omega) (by omega) (fun b hb=>by have:=HPP.out b hb;show b<w1.heap.size;omega) (HT1.out.ext (Ext.refl _).drew') (HVP1.out.ext (Ext.refl _).drew'))
  have hro:=hR zn (at_+1) (by omega) (by omega) (by omega) (by omega)
  generalize hgr:readR t path f (zn:Int) (at_+1)=r at *
  clear hgr
  have hu0:=hro.used0
  have hu1:=hro.usedP
  clear hro
  have lbk:=lt_of_cell gk
  have hl1:w.heap.size<w1.heap.size:=by omega
  have hl2:w.heap.size+1+1<w1.heap.size:=by omega
  have hn1:¬ w.heap.size=w1.heap.size:=by omega
  have hn2:¬ w.heap.size+1+1=w1.heap.size:=by omega
  have hn3:¬ bk=w1.heap.size:=by omega
  go_cut [15] (fun s wx=>RdCut P r (5 ^ f) w1 s wx)
  case first =>
   go_region_held3 (fun w'=>w'.cell? ⟨w.heap.size,0,none⟩=some (.slice (some ⟨b1,o1,none⟩) t.length cn)∧w'.cell? ⟨w.heap.size+1+1,7,none⟩=some (.slice (some ⟨bk,ok,none⟩) x.kids.length a1.kc)∧w'.cell? ⟨bk,ok+c.toNat,none⟩=some (.int .i64 zn))
    (first
     | (go_split_ands
        with_reducible exact ⟨cell_set7 hn1 ‹_›,cell_set7 hn2 ‹_›,cell_set7 hn3 ‹_›⟩)
     | (go_split_ands
        with_reducible exact ⟨cell_ext hx2 ‹_›,cell_ext hx2 ‹_›,cell_ext hx2 ‹_›⟩)
     | (go_split_ands
        with_reducible exact ⟨cell_realloc hq1 ‹_›,cell_realloc hq2 ‹_›,cell_realloc hq3 ‹_›⟩)
     | (go_split_ands
        with_reducible exact ⟨cell_alloc_of ‹_› _,cell_alloc_of ‹_› _,cell_alloc_of ‹_› _⟩)
     | go_keep)
    (first
     | (go_at_call 144;(with_reducible refine HSB.out.mono ?_);rintro e w2 ⟨A2,d2,sv,m,xs,rfl,hv2,hown2,hm2,hx2⟩;obtain ⟨A3,c3,e3,-,-,-⟩:=Sl.of_own hown2;subst e3;have hs2:=hx2.size;simp at hs2;have hq1:w.heap.size<w2.heap.size:=(by omega);have hq2:w.heap.size+1+1<w2.heap.size:=(by omega);have hq3:bk<w2.heap.size:=(by omega))
     | (go_at_call 144;(with_reducible refine HSA.out.mono ?_);rintro e w2 ⟨A2,d2,sv,m,xs,rfl,hv2,hown2,hm2,hx2⟩;obtain ⟨A3,c3,e3,-,-,-⟩:=Sl.of_own hown2;subst e3;have BZ:=((Blk.new' w1 154 zcells (g:=w1.heap.size) rfl).drew).ext hx2;have z0:=BZ.cell' (u:=.int .i64 0) 0 rfl;have z1:=BZ.cell' (u:=.int .i64 0) 1 rfl;have z2:=BZ.cell' (u:=.string ⟨#[]⟩) 2 rfl;have z3:=BZ.cell' (u:=.slice none 0 0) 3 rfl;have z4:=BZ.cell' (u:=.int .i64 0) 4 rfl;have z5:=BZ.cell' (u:=.int .i64 0) 5 rfl;have z6:=BZ.cell' (u:=.slice none 0 0) 6 rfl;have y0:=BZ.frozen 0;have y1:=BZ.frozen 1;have y2:=BZ.frozen 2;have y3:=BZ.frozen 3;have y4:=BZ.frozen 4;have y5:=BZ.frozen 5;have y6:=BZ.frozen 6;have hs2:=hx2.size;simp at hs2;clear BZ))
   ·go_wp2_with fail
    go_meet
    exact RdCut.late (fun b hb=>by have:=HPP.out b hb;omega) hv2 hown2 hm2 ((Ext.refl w1).drew'.trans' hx2)
   ·go_wp2_with fail
    go_meet
    exact RdCut.early (fun b hb=>by have:=HPP.out b hb;omega) hv2 hown2 hm2 (by simp) ((Ext.refl _).drew'.trans' hx2)
  case rest =>
   obtain ⟨wy,g,A2,d2,sv,m,xs,rfl,rfl,hB,hg,hv,hown,hm,hsg,hx2⟩:=hcut
   obtain ⟨A3,c3,e3,-,-,-⟩:=Sl.of_own hown
   subst e3
   have HB:=Lib.hid hB
   have HV':=Lib.hid hv
   have HO':=Lib.hid hown
   have HM:=Lib.hid hm
   have HSG:=Lib.hid hsg
   have HX3:=Lib.hid hx2
   have k0:=hB.cell' (u:=.int .i64 r.val.kind) 0 rfl
   have k1:=hB.cell' (u:=.int .i64 r.val.n) 1 rfl
   have k2:=hB.cell' (u:=.string r.val.s) 2 rfl
   have k3:=hB.cell' (u:=.slice A2 r.val.kids.length d2) 3 rfl
   have k4:=hB.cell' (u:=.int .i64 r.used) 4 rfl
   have k5:=hB.cell' (u:=.int .i64 r.stop) 5 rfl
   have k6:=hB.cell' (u:=.slice A3 m c3) 6 rfl
   have kf4:=hB.frozen 4
   have hgl:=hB.lt
   have RES2:=Lib.hid (RES.out.ext hx2)
   have hgn:¬ g=w.heap.size+1:=by omega
   clear hB hv hown hm hsg r0 r1 r2 r3 r4 r5 r6 f0 f1 f2 f3 f4 f5 f6 x0 x1 x2 x3 x4 x5 x6 x7 x8 x9 x10 x11 gk y0 hn1 hn2 hn3
   have r0:=RES2.out.cell' (u:=.int .i64 0) 0 rfl
   have f0:=RES2.out.frozen 0
   have r1:=RES2.out.cell' (u:=.int .i64 0) 1 rfl
   have f1:=RES2.out.frozen 1
   have r2:=RES2.out.cell' (u:=.string ⟨#[]⟩) 2 rfl
   have f2:=RES2.out.frozen 2
   have r3:=RES2.out.cell' (u:=.slice none 0 0) 3 rfl
   have f3:=RES2.out.frozen 3
   have r4:=RES2.out.cell' (u:=.int .i64 0) 4 rfl
   have f4:=RES2.out.frozen 4
   have r5:=RES2.out.cell' (u:=.int .i64 0) 5 rfl
   have f5:=RES2.out.frozen 5
   have r6:=RES2.out.cell' (u:=.slice none 0 0) 6 rfl
   have f6:=RES2.out.frozen 6
   clear hx2
   go_wp2_with fail
   have hQ:∀ b,((P b∨w1.heap.size≤b)∧b ≠ g)→b ≠ w.heap.size+1:=by
    rintro b ⟨h | h,_⟩
    ·have:=HPP.out b h;omega
    ·omega
   have RES3:=Lib.hid (RES2.out.far (p:=⟨g,4,none⟩) (fun e=>hgn e.symm) (.int .i64 (r.used+1)))
   have q:=set7_blk RES3.out (.int .i64 r.val.kind) (.int .i64 r.val.n) (.string r.val.s) (.slice A2 r.val.kids.length d2) (.int .i64 (r.used+1)) (.int .i64 r.stop) (.slice A3 m c3)
   have HX2:=Lib.hid (set7_ext ((((HW.out.ext.trans' HX1.out).trans' HX3.out)).setCell' (p:=⟨g,4,none⟩) (by show w.heap.size≤g;omega) (.int .i64 (r.used+1))) (show w.heap.size≤w.heap.size+1 by omega) (.int .i64 r.val.kind) (.int .i64 r.val.n) (.string r.val.s) (.slice A2 r.val.kids.length d2) (.int .i64 (r.used+1)) (.int .i64 r.stop) (.slice A3 m c3))
   have HV:=Lib.hid (show VAt (set7 (wy.setCell ⟨g,4,none⟩ (.int .i64 (r.used+1))) (w.heap.size+1) (.int .i64 r.val.kind) (.int .i64 r.val.n) (.string r.val.s) (.slice A2 r.val.kids.length d2) (.int .i64 (r.used+1)) (.int .i64 r.stop) (.slice A3 m c3)) (New P w.heap.size) r.val A2 d2 from by
    have hk0:Keeps (fun b=>(P b∨w1.heap.size≤b)∧b ≠ g) wy (wy.setCell ⟨g,4,none⟩ (.int .i64 (r.used+1))):=Keeps.set (fun _ _ _=>rfl) (p:=⟨g,4,none⟩) _ (fun h=>h.2 rfl)
    have h1:=HV'.out.carry (Q:=fun b=>(P b∨w1.heap.size≤b)∧b ≠ g) hk0 (fun _ _ h=>h)
    exact h1.carry (set7_keeps (fun h=>hQ _ h rfl) _ _ _ _ _ _ _) (fun b hb h=>h.1.elim .inl (fun h=>.inr (by omega))))
   have HO:=Lib.hid (set7_own (ownsRow_setCell_other (HO'.out) (a:=⟨g,4,none⟩) HSG.out (.int .i64 (r.used+1))) (show w.heap.size+1<w1.heap.size by omega) (.int .i64 r.val.kind) (.int .i64 r.val.n) (.string r.val.s) (.slice A2 r.val.kids.length d2) (.int .i64 (r.used+1)) (.int .i64 r.stop) (.slice A3 m c3) |>.base_le (show w.heap.size≤w1.heap.size by omega))
   change bodyPost Tryz.prog Tryz.f144 _ Exit.ret _ (set7 (wy.setCell ⟨g,4,none⟩ (.int .i64 (r.used+1))) (w.heap.size+1) (.int .i64 r.val.kind) (.int .i64 r.val.n) (.string r.val.s) (.slice A2 r.val.kids.length d2) (.int .i64 (r.used+1)) (.int .i64 r.stop) (.slice A3 m c3))
   generalize set7 (wy.setCell ⟨g,4,none⟩ (.int .i64 (r.used+1))) (w.heap.size+1) (.int .i64 r.val.kind) (.int .i64 r.val.n) (.string r.val.s) (.slice A2 r.val.kids.length d2) (.int .i64 (r.used+1)) (.int .i64 r.stop) (.slice A3 m c3)=W' at *
   have q0:=q.cell' (u:=.int .i64 r.val.kind) 0 rfl
   have q1:=q.cell' (u:=.int .i64 r.val.n) 1 rfl
   have q2:=q.cell' (u:=.string r.val.s) 2 rfl
   have q3:=q.cell' (u:=.slice A2 r.val.kids.length d2) 3 rfl
   have q4:=q.cell' (u:=.int .i64 (r.used+1)) 4 rfl
   have q5:=q.cell' (u:=.int .i64 r.stop) 5 rfl
   have q6:=q.cell' (u:=.slice A3 m c3) 6 rfl
   rw [HR4.out]
   refine bodyPost_ret (v:=.agg (rcells ⟨r.val,r.used+1,r.stop⟩ A2 d2 (.slice A3 m c3))) (by simp [results,Tryz.results144,go_sem,q0,q1,q2,q3,q4,q5,q6];try (first | rfl | exact ⟨rfl,rfl,rfl,rfl⟩)) rfl ⟨A2,d2,.slice A3 m c3,m,xs,rfl,HV.out,HO.out,?_,HX2.out⟩
   exact HM.out.succ
end Go.Proofs.YtkoeecdjijfjnaaGreat
