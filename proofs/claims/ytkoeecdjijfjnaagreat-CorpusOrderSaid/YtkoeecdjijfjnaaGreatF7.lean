/- The contract of the program's tree.Valid. Conditions: none. Before it: The contract of the program's shaped. Conditions: none. -/
import Derived.BigGuardPart
import Derived.Test.YtkoeecdjijfjnaaGreatPlL
import Derived.Test.YtkoeecdjijfjnaaGreatF3
import Derived.Test.YtkoeecdjijfjnaaGreatF5
namespace Go.Proofs.YtkoeecdjijfjnaaGreat
open Go.RowKit
def ShInv (i:Nat)(x:GN)(W:World)(k:Value)(wr:World):Prop:=∃ j:Nat,j≤x.kids.length∧k=.int .i64 j∧W=wr∧shapedB i x=((x.kids.drop j).all (fun z=>!fmK i z) && shapeK x)
def ShVInv (x:GN)(W:World)(k:Value)(wr:World):Prop:=∃ j:Nat,1≤j∧j≤x.values.length+1∧k=.int .i64 j∧Ext W wr∧incB x.values=incB (x.values.drop (j - 1))
set_option maxRecDepth 100000 in
set_option maxHeartbeats 8000000 in
theorem shaped_any (t:List GN)(i:Nat)(P:Nat→Prop)(gc:Nat)(vn:Value)(w:World)(hP:∀ b,P b→b<w.heap.size)(ht:Nds w P vn t)(hi:i<t.length)(h0:w.cell? ⟨gc,0,none⟩=some vn)(_:i≤100000) :
  Calls Tryz.prog 89 #[.pointer (some ⟨gc,0,none⟩),.int .i64 i] w (RetE (.bool (shapedB i (t.getD i default))) w):=by
 obtain ⟨An,cn,en,hn1,hn2⟩:=ht.form
 subst en
 obtain ⟨b,off,a,rfl,hPb,hx,hn⟩:=ht.get hi
 generalize hg:t.getD i default=x at *
 clear hg
 have HP:=Lib.hid hP
 have HX:=Lib.hid hx
 have HN:=Lib.hid hn
 have HS:=Lib.hid (show shapedB i x=(x.kids.all (fun z=>!fmK i z) && shapeK x) from rfl)
 have HK:=Lib.hid (show shapeK x=(if x.kind=2 then decide (1≤x.kids.length) && decide (x.kids.length≤256) && decide (x.weights.length=x.kids.length) && (decide (x.labels.length=0) || decide (x.labels.length=x.kids.length))
  else if x.kind=3 then (if emptyB x.name then decide (x.kids.length≤256) else decide (x.kids.length≤16) && decide (validV (.mk 3 0 x.name [])=0))
  else if x.kind=4 then incB x.values && decide (x.kids.length=x.values.length+1) else true) from rfl)
 obtain ⟨hkl,hkc⟩:=hx.kids.le
 obtain ⟨hvl,hvc⟩:=hx.values.le
 have hlo:(i:Int)<(t.length:Int):=by omega
 have c0:=hn.c0
 have c1:=hn.c1
 have c4:=hn.c4
 have c5:=hn.c5
 have c6:=hn.c6
 have c7:=hn.c7
 have HKI:=Lib.hid hx.kids
 clear hx hn ht hP
 generalize a.kA=Ak at *
 generalize a.kc=kc at *
 go_enter Tryz.func89,Tryz.ntmps89
 go_wp2_with fail
 go_loopw [26] (fun k wr=>ShInv i x w k wr) (fun k _=>x.kids.length - (intOf k).toNat)
 case atStart=>exact ⟨0,Nat.zero_le _,rfl,rfl,HS.out⟩
 case round =>
  obtain ⟨j,hj,rfl,rfl,hT⟩:=hrel
  have HT:=Lib.hid hT
  clear hT
  by_cases hlt:j<x.kids.length
  ·obtain ⟨b1,o1,rfl,-,-,g1⟩:=HKI.out.get hlt
   have HD:=Lib.hid (show shapedB i x=(!fmK i (x.kids.getD j 0) && (x.kids.drop (j+1)).all (fun z=>!fmK i z) && shapeK x) by rw [HT.out,drop_getD 0 hlt];rfl)
   generalize x.kids.getD j 0=z at *
   by_cases hz1:z<0
   ·have HF:=Lib.hid (show fmK i z=true by unfold fmK;rw [decide_eq_true hz1];rfl)
    have tz1:decide (z<0)=true:=decide_eq_true hz1
    go_wp2_with fail
    go_ret
    exact ⟨ret_bool (by rw [HD.out,HF.out];rfl),Ext.refl _⟩
   ·have tz1:decide (z<0)=false:=decide_eq_false hz1
    by_cases hz2:(i:Int)≤z
    ·have HF:=Lib.hid (show fmK i z=true by unfold fmK;rw [decide_eq_true hz2];simp)
     have tz2:decide ((i:Int)≤z)=true:=decide_eq_true hz2
     go_wp2_with fail
     go_ret
     exact ⟨ret_bool (by rw [HD.out,HF.out];rfl),Ext.refl _⟩
    ·have HF:=Lib.hid (show fmK i z=false by unfold fmK;rw [decide_eq_false hz2,decide_eq_false hz1];rfl)
     have tz2:decide ((i:Int)≤z)=false:=decide_eq_false hz2
     go_wp2_with fail
     go_roundw
     case rel=>exact ⟨j+1,by omega,by go_num,rfl,by rw [HD.out,HF.out];rfl⟩
     case measure=>simp [intOf];omega
  ·have HU:=Lib.hid (show shapedB i x=shapeK x by rw [HT.out,drop_nil (by omega)];rfl)
   clear HT HKI
   by_cases k2:x.kind=2
   ·have HR:=Lib.hid (show shapedB i x=(decide (1≤x.kids.length) && decide (x.kids.length≤256) && decide (x.weights.length=x.kids.length) && (decide (x.labels.length=0) || decide (x.labels.length=x.kids.length))) by rw [HU.out,HK.out,if_pos k2])
    have t2:(x.kind == 2)=true:=beq_iff_eq.2 k2
    clear k2
    generalize x.weights.length=nw at *
    generalize x.labels.length=nl at *
    generalize x.kids.length=nk at *
    go_wp2_with fail
    all_goals
     go_ret
     refine ⟨ret_bool ?_,Ext.refl _⟩
     rw [HR.out]
     clear HR HU HK HS HX HN c0 c1 c4 c5 c6 c7 h0
     rw [Bool.eq_iff_iff]
     simp_all
     try omega
   ·have t2:(x.kind == 2)=false:=beq_eq_false_iff_ne.2 k2
    by_cases k3:x.kind=3
    ·have t3:(x.kind == 3)=true:=beq_iff_eq.2 k3
     have HR:=Lib.hid (show shapedB i x=(if emptyB x.name then decide (x.kids.length≤256) else decide (x.kids.length≤16) && decide (validV (.mk 3 0 x.name [])=0)) by rw [HU.out,HK.out,if_neg k2,if_pos k3])
     clear k2 k3
     by_cases he:x.name.toList=[]
     ·have he1:x.name.toList.isEmpty=true:=by simp [he]
      have HE:=Lib.hid (emptyB_t he)
      go_wp2_with fail
      all_goals
       go_ret
       refine ⟨ret_bool ?_,Ext.refl _⟩
       rw [HR.out,HE.out]
       simp
       try omega
     ·have he1:x.name.toList.isEmpty=false:=by simpa using he
      have HE:=Lib.hid (emptyB_f he)
      by_cases hk16:x.kids.length≤16
      ·have t16:decide ((x.kids.length:Int)≤16)=true:=decide_eq_true (by omega)
       have t16':decide (x.kids.length≤16)=true:=decide_eq_true hk16
       have hnm:=HX.out.name
       go_wp2_with fail
       refine (valuesValid_any (.mk 3 0 x.name []) none 0 P _ HP.out ⟨by unfold I64;simp [GV.kind],by unfold I64;simp [GV.n],hnm,by simp [GV.kids],by simp [GV.kids],⟨none,0,[],rfl,by simp [GV.kids],by simp [GV.kids],⟨by simp [GV.kids],fun h=>by simp [GV.kids] at h⟩,by simp [GV.kids,RVs]⟩⟩).mono ?_
       rintro e w1 ⟨rfl,hx1⟩
       have HX1:=Lib.hid hx1
       clear hx1
       generalize validV (.mk 3 0 x.name [])=vv at *
       go_wp2_with fail
       all_goals
        go_ret
        refine ⟨ret_bool ?_,HX1.out⟩
        rw [HR.out,HE.out]
        clear HR HU HK HS HX HN HP c0 c1 c4 c5 c6 c7 h0
        simp_all
        try rfl
      ·have t16:decide ((x.kids.length:Int)≤16)=false:=decide_eq_false (by omega)
       go_wp2_with fail
       all_goals
        go_ret
        refine ⟨ret_bool ?_,Ext.refl _⟩
        rw [HR.out,HE.out]
        clear HR HU HK HS HX HN HP c0 c1 c4 c5 c6 c7 h0
        simp_all
        try omega
    ·have t3:(x.kind == 3)=false:=beq_eq_false_iff_ne.2 k3
     by_cases k4:x.kind=4
     ·have t4:(x.kind == 4)=true:=beq_iff_eq.2 k4
      have HR:=Lib.hid (show shapedB i x=(incB x.values && decide (x.kids.length=x.values.length+1)) by rw [HU.out,HK.out,if_neg k2,if_neg k3,if_pos k4])
      have HVL:=Lib.hid HX.out.values
      clear k2 k3 k4 c1 c4 c5
      generalize a.vA=Av at *
      generalize a.vc=vc at *
      go_wp2_with fail
      go_loopw [9] (fun k wr=>ShVInv x w k wr) (fun k _=>x.values.length+1 - (intOf k).toNat)
      case atStart=>exact ⟨1,by omega,by omega,rfl,Ext.refl _,by simp⟩
      case round =>
       obtain ⟨j,hj1,hj2,rfl,hxr,ht⟩:=hrel
       have HT:=Lib.hid ht
       have HXR:=Lib.hid hxr
       have hr6:=cell_ext hxr c6
       clear ht hxr
       by_cases hlt':j<x.values.length
       ·obtain ⟨q,rfl⟩:∃ q,j=q+1:=⟨j - 1,by omega⟩
        have hq:q<x.values.length:=by omega
        obtain ⟨v1,o1,A1,d1,e1,-,hv1,g10,g11,g12,g13⟩:=(HVL.out.ext HXR.out).get hq
        obtain ⟨v2,o2,A2,d2,e2,-,hv2,g20,g21,g22,g23⟩:=(HVL.out.ext HXR.out).get hlt'
        subst e1
        injection e2 with e2
        injection e2 with e21 e22
        subst e21 e22
        have HD:=Lib.hid (show incB x.values=(decide (cmpV (x.values.getD q default) (x.values.getD (q+1) default)<0) && incB (x.values.drop (q+1))) by
         rw [HT.out,Nat.add_sub_cancel,drop_getD default hq,drop_getD default hlt']
         rfl)
        have HV1:=Lib.hid hv1
        have HV2:=Lib.hid hv2
        clear hv1 hv2
        generalize x.values.getD q default=y1 at *
        generalize x.values.getD (q+1) default=y2 at *
        go_upto_region 20 with fail
        have hq1:(0:Int)≤(q:Int)+1:=by omega
        have hq2:((q:Int)+1).toNat=q+1:=by omega
        have hq3:IntKind.i64.wrap ((q:Int)+1 - 1)=(q:Int):=by rw [IntWalk.i64_in _ (by omega)];omega
        have hq4:IntKind.i64.wrap (q:Int)=(q:Int):=IntWalk.i64_in _ (by omega)
        have hq5:wrap64 (q:Int)=(q:Int):=IntWalk.wrap64_in _ (by omega)
        go_still_tail 15,(by kernel_rfl)
        clear hq1 hq2 hq3 hq4 hq5
        go_wp2_with fail
        refine (valuesCompare_any y1 y2 A1 A2 d1 d2 P P _ (HV1.out.ext (Ext.refl _).drew') (HV2.out.ext (Ext.refl _).drew')).mono ?_
        rintro e w2 ⟨rfl,hx2⟩
        have HX2:=Lib.hid (HXR.out.trans' ((Ext.refl _).drew'.trans' hx2))
        clear hx2
        by_cases hz:cmpV y1 y2<0
        ·have tz:decide (0≤cmpV y1 y2)=false:=decide_eq_false (by omega)
         have HZ:=Lib.hid hz
         go_wp2_with fail
         go_roundw
         case rel=>exact ⟨q+2,by omega,by omega,by go_num,HX2.out,by rw [HD.out,decide_eq_true HZ.out];rfl⟩
         case measure=>simp [intOf];omega
        ·have tz:decide (0≤cmpV y1 y2)=true:=decide_eq_true (by omega)
         have HZ:=Lib.hid hz
         go_wp2_with fail
         go_ret
         exact ⟨ret_bool (by rw [HR.out,HD.out,decide_eq_false (show ¬ cmpV y1 y2<0 by have:=HZ.out;omega)];simp),HX2.out⟩
       ·have HZ:=Lib.hid (show incB x.values=true by rw [HT.out];exact incB_short (by rw [List.length_drop];omega))
        have hr7:=cell_ext HXR.out c7
        go_wp2_with fail
        all_goals
         go_ret
         refine ⟨ret_bool ?_,HXR.out⟩
         rw [HR.out,HZ.out,Bool.eq_iff_iff]
         simp
         try omega
     ·have t4:(x.kind == 4)=false:=beq_eq_false_iff_ne.2 k4
      have HR:=Lib.hid (show shapedB i x=true by rw [HU.out,HK.out,if_neg k2,if_neg k3,if_neg k4])
      go_wp2_with fail
      go_ret
      exact ⟨ret_bool HR.out.symm,Ext.refl _⟩
theorem SetsOK.moreAll {t:List GN}{vn:Value}{g:SA}{w w':World}(h:SetsOK t vn g w)(hx:Ext w w'):SetsOK t vn ⟨g.s,g.k,g.l,g.m,fun b=>g.X b∨(w.heap.size≤b∧b<w'.heap.size)⟩ w':=by
 obtain ⟨kn,ls,ms,h0⟩:=h
 have h:=h0.ext hx
 have hQ:∀ b,b<w.heap.size→g.Q b→(SA.mk g.s g.k g.l g.m (fun b=>g.X b∨(w.heap.size≤b∧b<w'.heap.size))).Q b:=fun b hb h=>⟨h.1,fun hx=>hx.elim h.2 (fun e=>by omega)⟩
 exact ⟨kn,ls,ms,h.hk,h.hl,h.hm,h.kl,h.km,h.lm,h.klen,h.llen,h.mlen,h.box,h.known,h.lists,h.many,fun b hb=>hb.elim (h.xlt b) (fun e=>e.2),h0.nodes.carry (Keeps.of_ext hx) hQ,h.sl,fun j hj hk=>⟨(h0.fine j hj hk).1.carry (Keeps.of_ext hx) hQ,(h.fine j hj hk).2⟩⟩
structure ValAt (t:List GN)(vn:Value)(gc gl gz:Nat)(g:SA)(ls zs:List Int)(B:Nat)(w:World):Prop where
 box:Blk w gc 141 #[vn,.slice (some ⟨gl,0,none⟩) t.length t.length,.slice (some ⟨gz,0,none⟩) t.length t.length,.pointer (some ⟨g.s,0,none⟩)]
 lens:Blk w gl 3 (iblk ls)
 sizes:Blk w gz 3 (iblk zs)
 sets:SetsOK t vn g w
 xl:g.X gl
 xz:g.X gz
 n1:gc ≠ gl
 n2:gc ≠ gz
 n3:gl ≠ gz
 sl:gl ≠ g.s
 sz:gz ≠ g.s
 ml:¬ g.M gl
 mz:¬ g.M gz
 mc:¬ g.M gc
 bl:B≤gl
 bz:B≤gz
 bm:∀ b,g.M b→B≤b
 llen:ls.length=t.length
 zlen:zs.length=t.length
def ValCut (t:List GN)(vn:Value)(w:World)(s:Value)(wx:World):Prop :=
 ∃ gc gl gz g,s=.pointer (some ⟨gc,0,none⟩)∧ValAt t vn gc gl gz g (List.replicate t.length 0) (List.replicate t.length 0) w.heap.size wx∧Ext w wx
theorem valcut_mk {t:List GN}{vn:Value}{w w1 wx:World}{gc gl gz:Nat}{g:SA}{mc:Array Value}(hmc:mc=madeCells #[.int .i64 0] t.length)(hs:SetsOK t vn g w1)(hx1:Ext w1 wx)(hx:Ext w wx)
  (hb:Blk wx gc 141 #[vn,.slice (some ⟨gl,0,none⟩) t.length t.length,.slice (some ⟨gz,0,none⟩) t.length t.length,.pointer (some ⟨g.s,0,none⟩)])
  (hl:Blk wx gl 3 mc)(hz:Blk wx gz 3 mc)(h1:g.X gl∨(w1.heap.size≤gl∧gl<wx.heap.size))(h2:g.X gz∨(w1.heap.size≤gz∧gz<wx.heap.size))
  (n1:gc ≠ gl)(n2:gc ≠ gz)(n3:gl ≠ gz)(sl:gl ≠ g.s)(sz:gz ≠ g.s)(ml:gl ≠ g.k∧gl ≠ g.l∧gl ≠ g.m)(mz:gz ≠ g.k∧gz ≠ g.l∧gz ≠ g.m)(mc:gc ≠ g.k∧gc ≠ g.l∧gc ≠ g.m)(bl:w.heap.size≤gl)(bz:w.heap.size≤gz)(bm:w.heap.size≤g.k∧w.heap.size≤g.l∧w.heap.size≤g.m) :
  ValCut t vn w (.pointer (some ⟨gc,0,none⟩)) wx:=by
 have e:madeCells #[.int .i64 0] t.length=iblk (List.replicate t.length 0):=by rw [madeCells_one];simp [iblk]
 rw [hmc,e] at hl hz
 refine ⟨gc,gl,gz,⟨g.s,g.k,g.l,g.m,fun b=>g.X b∨(w1.heap.size≤b∧b<wx.heap.size)⟩,rfl,⟨hb,hl,hz,hs.moreAll hx1,h1,h2,n1,n2,n3,sl,sz,?_,?_,?_,bl,bz,?_,by simp,by simp⟩,hx⟩
 ·exact fun h=>h.elim ml.1 (fun h=>h.elim ml.2.1 ml.2.2)
 ·exact fun h=>h.elim mz.1 (fun h=>h.elim mz.2.1 mz.2.2)
 ·exact fun h=>h.elim mc.1 (fun h=>h.elim mc.2.1 mc.2.2)
 ·rintro b (h | h | h)
  ·exact h ▸ bm.1
  ·exact h ▸ bm.2.1
  ·exact h ▸ bm.2.2
theorem SetsOK.fr {t:List GN}{vn:Value}{g:SA}{w w':World}{M:Nat→Prop}(h:SetsOK t vn g w)(hf:Fr M w w')(h1:∀ b,M b→g.X b)(h2:¬ M g.s)(h3:∀ b,M b→¬ g.M b):SetsOK t vn g w':=by
 obtain ⟨kn,ls,ms,h⟩:=h
 have hk:Keeps g.Q w w':=Keeps.of_fr hf (fun b hq hm=>hq.2 (h1 b hm))
 exact ⟨kn,ls,ms,h.hk,h.hl,h.hm,h.kl,h.km,h.lm,h.klen,h.llen,h.mlen,h.box.fr hf h2,h.known.fr hf (fun hm=>h3 _ hm (.inl rfl)),h.lists.fr hf (fun hm=>h3 _ hm (.inr (.inl rfl))),h.many.fr hf (fun hm=>h3 _ hm (.inr (.inr rfl))),fun b hb=>Nat.lt_of_lt_of_le (h.xlt b hb) hf.size,
  h.nodes.carry hk (fun _ _ h=>h),h.sl,fun j hj hkj=>⟨(h.fine j hj hkj).1.carry hk (fun _ _ h=>h),(h.fine j hj hkj).2⟩⟩
theorem SetsOK.nodes {t:List GN}{vn:Value}{g:SA}{w:World}(h:SetsOK t vn g w):Nds w g.Q vn t:=by
 obtain ⟨kn,ls,ms,h⟩:=h
 exact h.nodes
theorem ValAt.ext {t:List GN}{vn:Value}{gc gl gz:Nat}{g:SA}{ls zs:List Int}{B:Nat}{w w':World}(h:ValAt t vn gc gl gz g ls zs B w)(hx:Ext w w'):ValAt t vn gc gl gz g ls zs B w' :=
 ⟨h.box.ext hx,h.lens.ext hx,h.sizes.ext hx,h.sets.ext hx,h.xl,h.xz,h.n1,h.n2,h.n3,h.sl,h.sz,h.ml,h.mz,h.mc,h.bl,h.bz,h.bm,h.llen,h.zlen⟩
theorem ValAt.small {t:List GN}{vn:Value}{gc gl gz:Nat}{g:SA}{ls zs ls' zs':List Int}{B:Nat}{w w':World}(h:ValAt t vn gc gl gz g ls zs B w)(hf:Fr (fun b=>b=gl∨b=gz) w w')(h1:Blk w' gl 3 (iblk ls'))(h2:Blk w' gz 3 (iblk zs'))(e1:ls'.length=ls.length)(e2:zs'.length=zs.length):ValAt t vn gc gl gz g ls' zs' B w' :=
 ⟨h.box.fr hf (fun hm=>hm.elim h.n1 h.n2),h1,h2,h.sets.fr hf (fun _ hb=>hb.elim (fun e=>e ▸ h.xl) (fun e=>e ▸ h.xz)) (fun hm=>hm.elim (fun e=>h.sl e.symm) (fun e=>h.sz e.symm)) (fun _ hb=>hb.elim (fun e=>e ▸ h.ml) (fun e=>e ▸ h.mz)),h.xl,h.xz,h.n1,h.n2,h.n3,h.sl,h.sz,h.ml,h.mz,h.mc,h.bl,h.bz,h.bm,e1.trans h.llen,e2.trans h.zlen⟩
theorem ValAt.cases_ {t:List GN}{vn:Value}{gc gl gz:Nat}{g:SA}{ls zs:List Int}{B:Nat}{w w':World}(h:ValAt t vn gc gl gz g ls zs B w)(hf:Fr g.M w w')(hs:SetsOK t vn g w'):ValAt t vn gc gl gz g ls zs B w' :=
 ⟨h.box.fr hf h.mc,h.lens.fr hf h.ml,h.sizes.fr hf h.mz,hs,h.xl,h.xz,h.n1,h.n2,h.n3,h.sl,h.sz,h.ml,h.mz,h.mc,h.bl,h.bz,h.bm,h.llen,h.zlen⟩
def TValInv (t:List GN)(vn:Value)(gc gl gz:Nat)(g:SA)(W:World)(i:Value)(wr:World):Prop :=
 ∃ (k:Nat) (ls zs:List Int),k≤t.length∧i=.int .i64 k∧ValAt t vn gc gl gz g ls zs W.heap.size wr∧Ext W wr∧ls.take k=(lensR t).take k∧zs.take k=(sizesR t).take k∧GoodTo t k∧(∀ x ∈ ls,I64 x)∧(∀ x ∈ zs,I64 x)∧validT t=validFrom t k (t.length - k)
theorem valinv_step {t:List GN}{vn:Value}{gc gl gz:Nat}{g:SA}{W w5 w6 wr:World}{k:Nat}{ls zs:List Int}{x:GN}(hx:x=t.getD k default)(hk:k<t.length)(hA:ValAt t vn gc gl gz g ls zs W.heap.size wr)(hE:Ext W wr)(hL:ls.take k=(lensR t).take k)(hZ:zs.take k=(sizesR t).take k)(hG:GoodTo t k)(hI:∀ x ∈ ls,I64 x)(hJ:∀ x ∈ zs,I64 x)
  (hV:validT t=validFrom t k (t.length - k))(hs:Small t){w4:World}(h4:Ext wr w4)(h5:Fr (fun b=>b=gl∨b=gz) w4 w5)(hl:Blk w5 gl 3 (iblk (ls.set k (lenR ls x))))(hz:Blk w5 gz 3 (iblk (zs.set k (sizeP zs x))))(h6:Fr g.M w5 w6)(hS:SetsOK t vn g w6)(hc:checkR t k=0) :
  TValInv t vn gc gl gz g W (.int .i64 ((k:Int)+1)) w6:=by
 subst hx
 refine ⟨k+1,_,_,by omega,by simp,((hA.ext h4).small h5 hl hz (by simp) (by simp)).cases_ h6 hS,?_,chk_lens hG hk hc hL hA.llen,chk_sizes hG hs hk hc hZ hA.zlen,chk_good hG hk hc,set_I64 hI (lenR_I64 hI _),set_I64 hJ (sizeP_I64 hJ _),?_⟩
 ·have f1:Fr (fun b=>W.heap.size≤b) wr w6:=((Fr.of_ext h4).trans (h5.mono (fun b hb=>hb.elim (fun e=>e ▸ hA.bl) (fun e=>e ▸ hA.bz)))).trans (h6.mono hA.bm)
  exact ((Fr.of_ext hE).trans f1).new_ext (fun b hb=>hb)
 ·rw [valid_step hk hV,if_pos hc]
set_option maxRecDepth 100000 in
set_option maxHeartbeats 8000000 in
theorem treeValid_any (t:List GN)(P:Nat→Prop)(vn:Value)(w:World)(hP:∀ b,P b→b<w.heap.size)(ht:Nds w P vn t)(hsm:Small t):Calls Tryz.prog 42 #[.agg #[vn]] w (RetE (.int .i64 (validT t)) w):=by
 have HP:=Lib.hid hP
 have HT:=Lib.hid ht
 have HSM:=Lib.hid hsm
 obtain ⟨An,cn,en,hn1,hn2⟩:=ht.form
 subst en
 clear ht hP hsm
 by_cases hbig:4096<t.length
 ·have HV:=Lib.hid (show validT t=4 by unfold validT;rw [if_pos hbig])
  go_enter Tryz.func42,Tryz.ntmps42
  go_wp2_with fail
  go_ret
  exact ⟨ret_int HV.out.symm,(Ext.refl _).alloc' _⟩
 ·obtain ⟨i3,hi3,hz0,hz1,hz2⟩:=info_parts Tryz.info3
  have hmk:∀ W:World,(Instr.makeSlice 22 (.int .i64 (t.length:Int)) (.int .i64 (t.length:Int))).run Tryz.prog W=.ok (.slice (some ⟨W.heap.size,0,none⟩) t.length t.length) (W.alloc (.cells (madeCells #[.int .i64 0] t.length) 3)):=by
   intro W
   have h:=run_make (P:=Tryz.prog) W 22 3 i3 _ Tryz.underlying22 hi3 hz0 .i64 .i64 (t.length:Int) (t.length:Int) (by omega) (Int.le_refl _) (by rw [hz2];omega) (by omega)
   rw [hz1,Nat.mul_one] at h
   rw [h]
   rfl
  clear hi3 hz0 hz1 hz2 i3
  obtain ⟨mc,hmc⟩:∃ mc,mc=madeCells #[.int .i64 0] t.length:=⟨_,rfl⟩
  rw [← hmc] at hmk
  have HMC:=Lib.hid hmc
  clear hmc
  go_enter Tryz.func42,Tryz.ntmps42
  go_upto_region 3 with fail
  have HB0:=Lib.hid (Blk.new w 25 #[.slice An t.length cn])
  have HE0:=Lib.hid ((Ext.refl w).alloc' (.cells #[.slice An t.length cn] 25))
  have hW0s:(w.alloc (.cells #[.slice An t.length cn] 25)).heap.size=w.heap.size+1:=by simp
  have HWS:=Lib.hid hW0s
  clear hW0s
  generalize w.alloc (.cells #[.slice An t.length cn] 25)=W at *
  have b0:=HB0.out.cell' (u:=.slice An t.length cn) 0 rfl
  have HNS:=Lib.hid (show ∀ W',Ext w W'→Calls Tryz.prog 87 #[.agg #[.slice An t.length cn]] W' (RetNS t (.slice An t.length cn) (fun b=>w.heap.size≤b∧b<W'.heap.size) W') from fun W' h =>
   newSets_any t P _ _ W' (HT.out.ext h) (fun b hb hx=>by have:=HP.out b hb;omega) (fun b hb=>hb.2) (by omega))
  go_cut [3] (fun s wx=>ValCut t (.slice An t.length cn) W s wx)
  case first =>
   go_region_held3 (fun w'=>w'.cell? ⟨w.heap.size,0,none⟩=some (.slice An t.length cn))
    (first
     | go_keep
     | exact cell_ext hxn ‹_›
     | exact cell_ext (hxn.alloc' _) ‹_›)
    (first
     | (go_at_call 87;refine (HNS.out _ (by first | exact HE0.out.drew' | exact (HE0.out.alloc' _).drew' | exact ((HE0.out.alloc' _).alloc' _).drew')).mono ?_;rintro e wn ⟨g,rfl,hgX,hgs,hxn,l1,l2,l3,l4⟩))
   all_goals (go_wp2_with fail)
   all_goals (go_meet)
   all_goals
    have hws:=HWS.out
    have hsz:=hxn.size
    obtain ⟨kn,lk,mk,hA⟩:=id hgs
    have a1:=hA.box.lt
    have a2:=hA.known.lt
    have a3:=hA.lists.lt
    have a4:=hA.many.lt
    have hEw:=HE0.out
    have hMC:=HMC.out
    clear hA HNS HT HP HSM hmk b0
    simp at hsz l1 l2 l3 l4
   all_goals first
    | exact valcut_mk (gl:=W.heap.size) (gz:=W.heap.size+1) (gc:=wn.heap.size) hMC hgs ((Ext.refl wn).alloc' _) ((((((Ext.refl W).alloc' _).alloc' _).drew').trans' hxn).alloc' _) (Blk.new' wn 141 _ (g:=wn.heap.size) (by simp)) ((((Blk.new' W 3 mc (g:=W.heap.size) (by simp)).alloc _).drew.ext hxn).alloc _) (((Blk.new' (W.alloc _) 3 mc (g:=W.heap.size+1) (by simp)).drew.ext hxn).alloc _) (.inl (by rw [hgX];simp <;> omega)) (.inl (by rw [hgX];simp <;> omega)) (by omega) (by omega) (by omega) (by omega) (by omega) (by omega) (by omega) (by omega) (by omega) (by omega) (by omega)
    | exact valcut_mk (gl:=W.heap.size+1) (gz:=W.heap.size) (gc:=wn.heap.size) hMC hgs ((Ext.refl wn).alloc' _) ((((((Ext.refl W).alloc' _).alloc' _).drew').trans' hxn).alloc' _) (Blk.new' wn 141 _ (g:=wn.heap.size) (by simp)) (((Blk.new' (W.alloc _) 3 mc (g:=W.heap.size+1) (by simp)).drew.ext hxn).alloc _) ((((Blk.new' W 3 mc (g:=W.heap.size) (by simp)).alloc _).drew.ext hxn).alloc _) (.inl (by rw [hgX];simp <;> omega)) (.inl (by rw [hgX];simp <;> omega)) (by omega) (by omega) (by omega) (by omega) (by omega) (by omega) (by omega) (by omega) (by omega) (by omega) (by omega)
    | exact valcut_mk (gl:=W.heap.size) (gz:=wn.heap.size) (gc:=wn.heap.size+1) hMC hgs (((Ext.refl wn).alloc' _).alloc' _) ((((((Ext.refl W).alloc' _).drew').trans' hxn).alloc' _).alloc' _) (Blk.new' (wn.alloc _) 141 _ (g:=wn.heap.size+1) (by simp)) ((((Blk.new' W 3 mc (g:=W.heap.size) (by simp)).drew.ext hxn).alloc _).alloc _) ((Blk.new' wn 3 mc (g:=wn.heap.size) (by simp)).alloc _) (.inl (by rw [hgX];simp <;> omega)) (.inr ⟨by omega,by simp <;> omega⟩) (by omega) (by omega) (by omega) (by omega) (by omega) (by omega) (by omega) (by omega) (by omega) (by omega) (by omega)
    | exact valcut_mk (gl:=wn.heap.size) (gz:=W.heap.size) (gc:=wn.heap.size+1) hMC hgs (((Ext.refl wn).alloc' _).alloc' _) ((((((Ext.refl W).alloc' _).drew').trans' hxn).alloc' _).alloc' _) (Blk.new' (wn.alloc _) 141 _ (g:=wn.heap.size+1) (by simp)) ((Blk.new' wn 3 mc (g:=wn.heap.size) (by simp)).alloc _) ((((Blk.new' W 3 mc (g:=W.heap.size) (by simp)).drew.ext hxn).alloc _).alloc _) (.inr ⟨by omega,by simp <;> omega⟩) (.inl (by rw [hgX];simp <;> omega)) (by omega) (by omega) (by omega) (by omega) (by omega) (by omega) (by omega) (by omega) (by omega) (by omega) (by omega)
    | exact valcut_mk (gl:=wn.heap.size) (gz:=wn.heap.size+1) (gc:=wn.heap.size+1+1) hMC hgs ((((Ext.refl wn).alloc' _).alloc' _).alloc' _) ((((((Ext.refl W).drew').trans' hxn).alloc' _).alloc' _).alloc' _) (Blk.new' ((wn.alloc _).alloc _) 141 _ (g:=wn.heap.size+1+1) (by simp)) (((Blk.new' wn 3 mc (g:=wn.heap.size) (by simp)).alloc _).alloc _) ((Blk.new' (wn.alloc _) 3 mc (g:=wn.heap.size+1) (by simp)).alloc _) (.inr ⟨by omega,by simp <;> omega⟩) (.inr ⟨by omega,by simp <;> omega⟩) (by omega) (by omega) (by omega) (by omega) (by omega) (by omega) (by omega) (by omega) (by omega) (by omega) (by omega)
    | exact valcut_mk (gl:=wn.heap.size+1) (gz:=wn.heap.size) (gc:=wn.heap.size+1+1) hMC hgs ((((Ext.refl wn).alloc' _).alloc' _).alloc' _) ((((((Ext.refl W).drew').trans' hxn).alloc' _).alloc' _).alloc' _) (Blk.new' ((wn.alloc _).alloc _) 141 _ (g:=wn.heap.size+1+1) (by simp)) ((Blk.new' (wn.alloc _) 3 mc (g:=wn.heap.size+1) (by simp)).alloc _) (((Blk.new' wn 3 mc (g:=wn.heap.size) (by simp)).alloc _).alloc _) (.inr ⟨by omega,by simp <;> omega⟩) (.inr ⟨by omega,by simp <;> omega⟩) (by omega) (by omega) (by omega) (by omega) (by omega) (by omega) (by omega) (by omega) (by omega) (by omega) (by omega)
  case rest =>
   obtain ⟨gc,gl,gz,g,rfl,hA,hx⟩:=hcut
   have HA:=Lib.hid hA
   have HX:=Lib.hid hx
   have hG0:GoodTo t 0:=⟨by omega,by omega,fun j hj=>by omega⟩
   have HV0:=Lib.hid (show validT t=validFrom t 0 (t.length - 0) by unfold validT;rw [if_neg hbig];rfl)
   have HB1:=Lib.hid (HB0.out.ext hx)
   have b1:=HB1.out.cell' (u:=.slice An t.length cn) 0 rfl
   have HG0:=Lib.hid hG0
   clear hA hx hG0 hmk b0 HNS HB0
   go_wp2_with fail
   go_loopw [29] (fun i wr=>TValInv t (.slice An t.length cn) gc gl gz g W i wr) (fun i _=>t.length - (intOf i).toNat)
   case atStart=>exact ⟨0,_,_,Nat.zero_le _,rfl,HA.out,HX.out,rfl,rfl,HG0.out,by intro x hx;rw [List.eq_of_mem_replicate hx];unfold I64;omega,by intro x hx;rw [List.eq_of_mem_replicate hx];unfold I64;omega,HV0.out⟩
   case round =>
    obtain ⟨k,ls,zs,hk,rfl,hA,hE,hL,hZ,hG,hI,hJ,hV⟩:=hrel
    have HA1:=Lib.hid hA
    have HE1:=Lib.hid hE
    have HL:=Lib.hid hL
    have HZ:=Lib.hid hZ
    have HG:=Lib.hid hG
    have HI:=Lib.hid hI
    have HJ:=Lib.hid hJ
    have HV:=Lib.hid hV
    by_cases hlt:k<t.length
    ·have hkk:(k:Int)<(t.length:Int):=by omega
     have hND:Nds wr (fun b=>g.Q b∧b<wr.heap.size) (.slice An t.length cn) t:=hA.sets.nodes.carry (fun _ _ _=>rfl) (fun b hb h=>⟨h,hb⟩)
     have HND:=Lib.hid hND
     have hsz:W.heap.size≤wr.heap.size:=hE.size
     have b2:wr.cell? ⟨w.heap.size,0,none⟩=some (.slice An t.length cn):=(HB1.out.cell' (u:=.slice An t.length cn) 0 rfl) ▸ by
      have hwl:w.heap.size<W.heap.size:=by have:=HWS.out;omega
      rw [hE.cell (p:=⟨w.heap.size,0,none⟩) hwl,HX.out.cell (p:=⟨w.heap.size,0,none⟩) hwl]
     obtain ⟨b,off,a,rfl,hQb,hx,hn⟩:=hND.get hlt
     have HXX:=Lib.hid hx
     have HN:=Lib.hid hn
     have HQB:=Lib.hid hQb
     obtain ⟨x,hxd⟩:∃ x,x=t.getD k default:=⟨_,rfl⟩
     have HXD:=Lib.hid hxd
     rw [← hxd] at HXX HN
     have h41:=HA1.out.box.cell' (u:=.slice (some ⟨b,off,none⟩) t.length cn) 0 rfl
     have HC0:=Lib.hid h41
     clear hA hE hL hZ hG hI hJ hV hx hn hQb hND hxd h41 b1
     go_wp2_with fail
     refine (clean_any x a b (off+k*12) _ _ HN.out HXX.out).mono ?_
     rintro e w1 ⟨rfl,hx1⟩
     have HX1:=Lib.hid hx1
     clear hx1
     obtain ⟨cb,hcb⟩:∃ cb,cb=cleanB x:=⟨_,rfl⟩
     rw [← hcb]
     have HCB:=Lib.hid hcb
     clear hcb
     cases cb
     ·have HF:=Lib.hid (valid_bad hlt HV.out (chk_form (t:=t) (k:=k) (by rw [← HXD.out,← HCB.out];rfl)) (by decide))
      go_wp2_with fail
      go_ret
      exact ⟨ret_int HF.out.symm,HE0.out.trans' (HE1.out.trans' HX1.out)⟩
     ·go_wp2_with fail
      refine (shaped_any t k (fun b=>g.Q b∧b<wr.heap.size) gc _ w1 (fun b hb=>Nat.lt_of_lt_of_le hb.2 HX1.out.size) (HND.out.ext HX1.out) hlt (cell_ext HX1.out HC0.out) (by omega)).mono ?_
      rintro e w2 ⟨rfl,hx2⟩
      have HX2:=Lib.hid (HX1.out.trans' hx2)
      clear hx2
      rw [← HXD.out]
      obtain ⟨sb,hsb⟩:∃ sb,sb=shapedB k x:=⟨_,rfl⟩
      rw [← hsb]
      have HSB:=Lib.hid hsb
      clear hsb
      cases sb
      ·have HF:=Lib.hid (valid_bad hlt HV.out (chk_form (t:=t) (k:=k) (by rw [← HXD.out,← HCB.out,← HSB.out];rfl)) (by decide))
       go_wp2_with fail
       go_ret
       exact ⟨ret_int HF.out.symm,HE0.out.trans' (HE1.out.trans' HX2.out)⟩
      ·have HCS:=Lib.hid (show (cleanB (t.getD k default) && shapedB k (t.getD k default))=true by rw [← HXD.out,← HCB.out,← HSB.out];rfl)
       go_wp2_with fail
       refine (treeParts_any x a b (off+k*12) (fun b=>g.Q b∧b<wr.heap.size) w2 (fun b hb=>Nat.lt_of_lt_of_le hb.2 HX2.out.size) (HN.out.ext HX2.out) (HXX.out.ext HX2.out)).mono ?_
       rintro e w3 ⟨rfl,hx3⟩
       have HX3:=Lib.hid (HX2.out.trans' hx3)
       clear hx3
       obtain ⟨pz,hpz⟩:∃ pz,pz=partsP x:=⟨_,rfl⟩
       rw [← hpz]
       have HPZ:=Lib.hid hpz
       clear hpz
       by_cases hp0:pz=0
       ·subst hp0
        go_wp2_with fail
        refine (inRange_any x a b (off+k*12) (fun b=>g.Q b∧b<wr.heap.size) w3 (HN.out.ext HX3.out) (HXX.out.ext HX3.out)).mono ?_
        rintro e w4 ⟨rfl,hx4⟩
        have HX4:=Lib.hid (HX3.out.trans' hx4)
        clear hx4
        obtain ⟨nb,hnb⟩:∃ nb,nb=numbersB x:=⟨_,rfl⟩
        rw [← hnb]
        have HNB:=Lib.hid hnb
        clear hnb
        cases nb
        ·have HF:=Lib.hid (valid_bad hlt HV.out (chk_num (t:=t) (k:=k) HCS.out (by rw [← HXD.out,← HPZ.out]) (by rw [← HXD.out,← HNB.out])) (by decide))
         go_wp2_with fail
         go_ret
         exact ⟨ret_int HF.out.symm,HE0.out.trans' (HE1.out.trans' HX4.out)⟩
        ·have HNO:=Lib.hid (chk_node (t:=t) (k:=k) HCS.out (by rw [← HXD.out,← HPZ.out]) (by rw [← HXD.out,← HNB.out]))
         have HCK:=Lib.hid (chk_rest HG.out HSM.out hlt HNO.out HL.out HZ.out)
         have HA4:=Lib.hid (HA1.out.ext HX4.out)
         go_wp2_with fail
         refine (small_any t k (fun b=>g.Q b∧b<wr.heap.size) gc gl gz g.s _ ls zs w4 (fun b hb=>⟨Nat.lt_of_lt_of_le hb.2 HX4.out.size,fun e=>hb.1.2 (e ▸ HA1.out.xl),fun e=>hb.1.2 (e ▸ HA1.out.xz)⟩) (HND.out.ext HX4.out) hlt HA4.out.box HA4.out.lens HA4.out.sizes HA4.out.llen HA4.out.zlen HI.out HJ.out HA4.out.n1 HA4.out.n2 HA4.out.n3 HNO.out (by omega)).mono ?_
         rintro e w5 ⟨rfl,hbl,hbz,hf5⟩
         rw [← HXD.out] at hbl hbz ⊢
         rw [← HXD.out] at HCK
         have HBL:=Lib.hid hbl
         have HBZ:=Lib.hid hbz
         have HF5:=Lib.hid hf5
         have HA5:=Lib.hid (HA4.out.small hf5 hbl hbz (by simp) (by simp))
         have HE5:=Lib.hid (show Ext W w5 from ((Fr.of_ext (HE1.out.trans' HX4.out)).trans (hf5.mono (fun b hb=>hb.elim (fun e=>e ▸ HA1.out.bl) (fun e=>e ▸ HA1.out.bz)))).new_ext (fun b hb=>hb))
         have hkeep:Keeps (fun b=>g.Q b∧b<wr.heap.size) w4 w5:=Keeps.of_fr hf5 (fun b hb hm=>hm.elim (fun e=>hb.1.2 (e ▸ HA1.out.xl)) (fun e=>hb.1.2 (e ▸ HA1.out.xz)))
         have HX5:=Lib.hid ((HXX.out.ext HX4.out).carry (Q:=g.Q) hkeep (fun b _ h=>h.1))
         have HN5:=Lib.hid ((HN.out.ext HX4.out).keep (P:=fun b=>g.Q b∧b<wr.heap.size) HQB.out hkeep)
         clear hbl hbz hf5 hkeep
         obtain ⟨mb,hmb⟩:∃ mb,mb=(decide (lenR ls x≤256) && decide (sizeP zs x≤1024)):=⟨_,rfl⟩
         rw [← hmb]
         have HMB:=Lib.hid hmb
         clear hmb
         cases mb
         ·have HF:=Lib.hid (valid_bad hlt HV.out (show checkR t k=4 by rw [HCK.out,← HMB.out];rfl) (by decide))
          go_wp2_with fail
          go_ret
          exact ⟨ret_int HF.out.symm,HE0.out.trans' HE5.out⟩
         ·have HCK2:=Lib.hid (show checkR t k=casesR t x by rw [HCK.out,← HMB.out];rfl)
          go_wp2_with fail
          refine (cases_any t _ g gc b (off+k*12) k x a w5 HX5.out HN5.out HQB.out.1 (HA5.out.box.cell' 3 rfl) HA5.out.mc HA5.out.sets (HXD.out ▸ HNO.out) HG.out).mono ?_
          rintro e w6 ⟨rfl,hf6,hs6⟩
          have HF6:=Lib.hid hf6
          have HS6:=Lib.hid hs6
          clear hf6 hs6
          obtain ⟨cz,hcz⟩:∃ cz,cz=casesR t x:=⟨_,rfl⟩
          rw [← hcz]
          have HCZ:=Lib.hid hcz
          clear hcz
          by_cases hc0:cz=0
          ·subst hc0
           go_wp2_with fail
           go_roundw
           case rel=>exact valinv_step HXD.out hlt HA1.out HE1.out HL.out HZ.out HG.out HI.out HJ.out HV.out HSM.out HX4.out HF5.out HBL.out HBZ.out HF6.out HS6.out (by rw [HCK2.out,← HCZ.out])
           case measure=>simp [intOf];omega
          ·have HF:=Lib.hid (valid_bad hlt HV.out (show checkR t k=cz by rw [HCK2.out,HCZ.out]) hc0)
           have tc:(cz != 0)=true:=bne_iff_ne.2 hc0
           go_wp2_with fail
           go_ret
           exact ⟨ret_int HF.out.symm,HE0.out.trans' (((Fr.of_ext HE5.out).trans (HF6.out.mono HA1.out.bm)).new_ext (fun b hb=>hb))⟩
       ·have HF:=Lib.hid (valid_bad hlt HV.out (chk_parts (t:=t) (k:=k) HCS.out (by rw [← HXD.out,← HPZ.out];exact hp0)) (by rw [← HXD.out,← HPZ.out];exact hp0))
        have tp:(pz != 0)=true:=bne_iff_ne.2 hp0
        go_wp2_with fail
        go_ret
        exact ⟨ret_int (by rw [HF.out,← HXD.out,← HPZ.out]),HE0.out.trans' (HE1.out.trans' HX3.out)⟩
    ·have HF:=Lib.hid (show validT t=0 by rw [HV.out,show t.length - k=0 by omega];rfl)
     clear hA hE hL hZ hG hI hJ hV
     go_wp2_with fail
     go_ret
     exact ⟨ret_int HF.out.symm,HE0.out.trans' HE1.out⟩
end Go.Proofs.YtkoeecdjijfjnaaGreat
