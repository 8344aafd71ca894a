/- Contracts of the reference's comparison of values. Conditions: none. Before it: Contracts of the program's comparison of values. Conditions: none. -/
import Derived.StillTailTactics
import Derived.Test.YtkoeecdjijfjnaaGreatA1
import Derived.Test.YtkoeecdjijfjnaaGreatData
namespace Go.Proofs.YtkoeecdjijfjnaaGreat
open Go.RowKit
set_option maxHeartbeats 400000 in
theorem isNaNs_any (s:ByteArray)(w:World) :
  Calls Tryz.prog 199 #[.string s] w fun e w'=>e=.returned (.bool false)∧w=w':=by
 go_enter Tryz.func199,Tryz.ntmps199
 go_wp2
 go_ret
 exact ⟨rfl,rfl⟩
set_option maxHeartbeats 400000 in
theorem cmpStr_any (a b:ByteArray)(w:World) :
  Calls Tryz.prog 174 #[.string a,.string b] w fun e w'=>e=.returned (.int .i64 (cmpS a b))∧w=w':=by
 go_enter Tryz.func174,Tryz.ntmps174
 go_wp2_with (go_at_call 199;refine (isNaNs_any _ _).mono ?_;rintro e w' ⟨rfl,rfl⟩)
 ·rename_i h1
  go_ret
  exact ⟨ret_int (by unfold cmpS;rw [if_pos h1]),rfl⟩
 ·rename_i h2
  have h1:Op.bytesLess a.toList b.toList=false:=by assumption
  go_ret
  exact ⟨ret_int (by unfold cmpS;rw [if_neg (by simp [h1]),if_neg (by simpa using h2)]),rfl⟩
 ·rename_i h2
  have h1:Op.bytesLess a.toList b.toList=false:=by assumption
  go_ret
  exact ⟨ret_int (by unfold cmpS;rw [if_neg (by simp [h1]),if_pos (by simpa using h2)]),rfl⟩
def CompareSaid (f:Nat)(N:Nat):Prop:=∀ (x y:GV)(A B:Option Addr)(c d:Nat)(P Q:Nat→Prop)(w:World),gsz x<N→VAt w P x A c→VAt w Q y B d →
  Calls Tryz.prog f #[vagg x A c,vagg y B d] w (RetE (.int .i64 (cmpV x y)) w)
def CmpVInv (a b:List GV)(w:World)(i:Value)(wr:World):Prop:=∃ k:Nat,k≤a.length∧k≤b.length∧i=.int .i64 k∧Ext w wr∧cmpVs a b=cmpVs (a.drop k) (b.drop k)
set_option maxHeartbeats 400000 in
theorem compareFunc_any (N:Nat)(hS:CompareSaid 134 N)(a b:List GV)(P Q:Nat→Prop)(va vb:Value)(w:World)(ha:Vals w P va a)(hb:Vals w Q vb b)(hN:∀ x ∈ a,gsz x<N) :
  Calls Tryz.prog 175 #[va,vb,.func (.func 134) #[] #[]] w (RetE (.int .i64 (cmpVs a b)) w):=by
 have HA:=Lib.hid ha
 have HB:=Lib.hid hb
 obtain ⟨A,c,ca,rfl,h2,h3,h4,h5⟩:=ha
 obtain ⟨A',c',cb,rfl,h2',h3',h4',h5'⟩:=hb
 clear h4 h5 h4' h5'
 have HN:=Lib.hid hN
 clear hN
 go_enter Tryz.func175,Tryz.ntmps175
 go_wp2_with fail
 go_loopw [13] (fun i wr=>CmpVInv a b w i wr) (fun i _=>a.length - (intOf i).toNat)
 case atStart=>exact ⟨0,Nat.zero_le _,Nat.zero_le _,rfl,Below.refl _ _,rfl⟩
 case round =>
  obtain ⟨k,hk,hk',rfl,hx,ht⟩:=hrel
  have HT:=Lib.hid ht
  have HX:=Lib.hid hx
  clear ht hx
  by_cases hlt:k<a.length
  ·by_cases hlt':k<b.length
   ·have HD:=Lib.hid (show cmpVs a b=cmpVs (a.getD k default :: a.drop (k+1)) (b.getD k default :: b.drop (k+1)) by
     rw [HT.out,← drop_getD default hlt,← drop_getD default hlt'])
    obtain ⟨b1,o1,c1,A1,d1,e1,-,-,-,hv1,g10,g11,g12,g13⟩:=(HA.out.ext HX.out).at_ hlt
    obtain ⟨b2,o2,c2,A2,d2,e2,-,-,-,hv2,g20,g21,g22,g23⟩:=(HB.out.ext HX.out).at_ hlt'
    cases e1
    cases e2
    have HM:=Lib.hid (HN.out _ (getD_mem (d:=default) hlt))
    have HV1:=Lib.hid hv1
    have HV2:=Lib.hid hv2
    clear hv1 hv2
    generalize a.getD k default=x at *
    generalize b.getD k default=y at *
    have lb1:=lt_of_cell g10
    have lb2:=lt_of_cell g20
    go_wp2_with fail
    refine (hS x y A1 A2 d1 d2 P Q _ HM.out (HV1.out.ext (((Ext.refl _).alloc' _).alloc' _)) (HV2.out.ext (((Ext.refl _).alloc' _).alloc' _))).mono ?_
    rintro e w1 ⟨rfl,hx1⟩
    have HX1:=Lib.hid hx1
    clear hx1
    go_wp2_with fail
    ·rename_i hz
     go_ret
     refine ⟨ret_int ?_,((HX.out.alloc' _).alloc' _).trans' HX1.out⟩
     rw [HD.out,cmpVs_cons,if_neg (by simpa using hz)]
    ·rename_i hz
     go_roundw
     case rel =>
      refine ⟨k+1,by omega,by omega,by go_num,((HX.out.alloc' _).alloc' _).trans' HX1.out,?_⟩
      rw [HD.out,cmpVs_cons,if_pos (by simpa using hz)]
     case measure=>simp [intOf];omega
   ·obtain ⟨b1,o1,c1,A1,d1,e1,-,-,-,hv1,g10,g11,g12,g13⟩:=(HA.out.ext HX.out).at_ hlt
    cases e1
    clear hv1
    have HE:=Lib.hid (show cmpVs a b=1 by
     rw [HT.out,drop_nil (l:=b) (by omega),drop_getD default hlt]
     simp only [cmpVs])
    generalize a.getD k default=x at *
    have lb1:=lt_of_cell g10
    go_wp2_with fail
    go_ret
    exact ⟨ret_int HE.out.symm,HX.out.alloc' _⟩
  ·by_cases hlt':k<b.length
   ·have HE:=Lib.hid (show cmpVs a b=-1 by
     rw [HT.out,drop_nil (l:=a) (by omega),drop_getD default hlt']
     simp only [cmpVs])
    go_wp2_with fail
    go_ret
    exact ⟨ret_int HE.out.symm,HX.out⟩
   ·have HE:=Lib.hid (show cmpVs a b=0 by
     rw [HT.out,drop_nil (l:=a) (by omega),drop_nil (l:=b) (by omega)]
     simp only [cmpVs])
    go_wp2_with fail
    go_ret
    exact ⟨ret_int HE.out.symm,HX.out⟩
set_option maxHeartbeats 400000 in
theorem valuesCompare_step (N:Nat)(hS:CompareSaid 134 N):CompareSaid 134 (N+1):=by
 intro x y A B c d P Q w hN hx hy
 have HX:=Lib.hid hx
 have HY:=Lib.hid hy
 have HN:=Lib.hid (show ∀ z ∈ x.kids,gsz z<N from fun z hz=>by have:=gsz_kid hz;omega)
 have HC:=Lib.hid (cmpV_eq x y)
 clear hx hy
 go_enter Tryz.func134,Tryz.ntmps134
 go_wp2_with fail
 refine (cmpInt_any _ _ _).mono ?_
 rintro e w' ⟨rfl,rfl⟩
 go_wp2_with fail
 ·rename_i hz
  go_ret
  refine ⟨ret_int ?_,((Ext.refl _).alloc' _).alloc' _⟩
  rw [HC.out,if_neg (by simpa using hz)]
 have hz1:(cmpI x.kind y.kind != 0)=false:=by assumption
 have HZ1:=Lib.hid (show cmpI x.kind y.kind=0 by simpa using hz1)
 refine (cmpInt_any _ _ _).mono ?_
 rintro e w' ⟨rfl,rfl⟩
 go_wp2_with fail
 ·rename_i hz
  go_ret
  refine ⟨ret_int ?_,((Ext.refl _).alloc' _).alloc' _⟩
  rw [HC.out,if_pos HZ1.out,if_neg (by simpa using hz)]
 have hz2:(cmpI x.n y.n != 0)=false:=by assumption
 have HZ2:=Lib.hid (show cmpI x.n y.n=0 by simpa using hz2)
 refine (cmpStr_any _ _ _).mono ?_
 rintro e w' ⟨rfl,rfl⟩
 go_wp2_with fail
 ·rename_i hz
  go_ret
  refine ⟨ret_int ?_,((Ext.refl _).alloc' _).alloc' _⟩
  rw [HC.out,if_pos HZ1.out,if_pos HZ2.out,if_neg (by simpa using hz)]
 have hz3:(cmpS x.s y.s != 0)=false:=by assumption
 have HZ3:=Lib.hid (show cmpS x.s y.s=0 by simpa using hz3)
 refine (compareFunc_any N hS x.kids y.kids P Q _ _ _ (HX.out.kids.ext (((Ext.refl _).alloc' _).alloc' _)) (HY.out.kids.ext (((Ext.refl _).alloc' _).alloc' _)) HN.out).mono ?_
 rintro e w1 ⟨rfl,hx1⟩
 have HX1:=Lib.hid hx1
 clear hx1
 go_wp2_with fail
 go_ret
 refine ⟨ret_int ?_,(((Ext.refl _).alloc' _).alloc' _).trans' HX1.out⟩
 rw [HC.out,if_pos HZ1.out,if_pos HZ2.out,if_pos HZ3.out]
theorem valuesCompare_all (N:Nat):CompareSaid 134 N:=by
 induction N with
 | zero=>intro x y A B c d P Q w hN;omega
 | succ N ih=>exact valuesCompare_step N ih
theorem valuesCompare_any (x y:GV)(A B:Option Addr)(c d:Nat)(P Q:Nat→Prop)(w:World)(hx:VAt w P x A c)(hy:VAt w Q y B d) :
  Calls Tryz.prog 134 #[vagg x A c,vagg y B d] w (RetE (.int .i64 (cmpV x y)) w):=valuesCompare_all (gsz x+1) x y A B c d P Q w (by omega) hx hy
def signI (b:Bool):Int:=if b then -1 else 1
theorem signI_ne (b:Bool):¬ signI b=0:=by cases b <;> simp [signI]
theorem cmpI_ne {a b:Int}(h:a ≠ b):cmpI a b=signI (decide (a<b)):=by
 unfold cmpI signI
 by_cases h1:a<b
 ·simp [h1]
 ·simp [h1];omega
theorem cmpI_eq {a b:Int}(h:a=b):cmpI a b=0:=by subst h;unfold cmpI;simp
theorem cmpS_ne {a b:ByteArray}(h:a.toList ≠ b.toList):cmpS a b=signI (Op.bytesLess a.toList b.toList):=by
 unfold cmpS signI
 by_cases h1:Op.bytesLess a.toList b.toList
 ·simp [h1]
 ·simp [h1,h]
theorem bytesLess_irrefl (l:List UInt8):Op.bytesLess l l=false:=by
 induction l with
 | nil=>rfl
 | cons a l ih=>simp [Op.bytesLess,ih]
theorem cmpS_eq {a b:ByteArray}(h:a.toList=b.toList):cmpS a b=0:=by
 unfold cmpS
 rw [h,bytesLess_irrefl]
 simp
set_option maxHeartbeats 400000 in
theorem sign_any (b:Bool)(w:World) :
  Calls Tryz.prog 160 #[.bool b] w fun e w'=>e=.returned (.int .i64 (signI b))∧w=w':=by
 cases b
 all_goals
  go_enter Tryz.func160,Tryz.ntmps160
  go_wp2
  go_ret
  exact ⟨rfl,rfl⟩
set_option maxRecDepth 100000 in
set_option maxHeartbeats 400000 in
theorem refCompareV_step (N:Nat)(hS:CompareSaid 117 N):CompareSaid 117 (N+1):=by
 intro x y A B c d P Q w hN hx hy
 have HX:=Lib.hid hx
 have HY:=Lib.hid hy
 have HN:=Lib.hid (show ∀ z ∈ x.kids,gsz z<N from fun z hz=>by have:=gsz_kid hz;omega)
 have HC:=Lib.hid (cmpV_eq x y)
 have hx4:=hx.len
 have hx5:=hx.cap
 have hy4:=hy.len
 have hy5:=hy.cap
 clear hx hy
 go_enter Tryz.func117,Tryz.ntmps117
 go_wp2_with (go_at_call 160;refine (sign_any _ _).mono ?_;rintro e w' ⟨rfl,rfl⟩)
 ·have hz:(x.kind != y.kind)=true:=by assumption
  go_ret
  refine ⟨ret_int ?_,((Ext.refl _).alloc' _).alloc' _⟩
  rw [HC.out,cmpI_ne (by simpa using hz),if_neg (signI_ne _)]
 ·have hz1:(x.kind != y.kind)=false:=by assumption
  have hz:(x.n != y.n)=true:=by assumption
  go_ret
  refine ⟨ret_int ?_,((Ext.refl _).alloc' _).alloc' _⟩
  rw [HC.out,cmpI_eq (by simpa using hz1),if_pos rfl,cmpI_ne (by simpa using hz),if_neg (signI_ne _)]
 ·have hz1:(x.kind != y.kind)=false:=by assumption
  have hz2:(x.n != y.n)=false:=by assumption
  have hz:(!x.s.toList == y.s.toList)=true:=by assumption
  go_ret
  refine ⟨ret_int ?_,((Ext.refl _).alloc' _).alloc' _⟩
  rw [HC.out,cmpI_eq (by simpa using hz1),if_pos rfl,cmpI_eq (by simpa using hz2),if_pos rfl,cmpS_ne (by simpa using hz),if_neg (signI_ne _)]
 have hz1:(x.kind != y.kind)=false:=by assumption
 have hz2:(x.n != y.n)=false:=by assumption
 have hz3:(!x.s.toList == y.s.toList)=false:=by assumption
 have HE:=Lib.hid (show cmpV x y=cmpVs x.kids y.kids by
  rw [HC.out,cmpI_eq (by simpa using hz1),if_pos rfl,cmpI_eq (by simpa using hz2),if_pos rfl,cmpS_eq (by simpa using hz3),if_pos rfl])
 rw [hz1,hz2,hz3]
 clear hz1 hz2 hz3
 have HX0:Hid (Ext w ((w.alloc (.cells #[.int .i64 x.kind,.int .i64 x.n,.string x.s,.slice A x.kids.length c] 85)).alloc (.cells #[.int .i64 y.kind,.int .i64 y.n,.string y.s,.slice B y.kids.length d] 85))):=((Ext.refl _).alloc' _).alloc' _
 have hb1:=cell_old (u:=some (.slice A x.kids.length c)) (cell_new w #[.int .i64 x.kind,.int .i64 x.n,.string x.s,.slice A x.kids.length c] 85 (0,0) 3) (.cells #[.int .i64 y.kind,.int .i64 y.n,.string y.s,.slice B y.kids.length d] 85) (by simp)
 have hb2:=cell_new' (u:=some (.slice B y.kids.length d)) (w.alloc (.cells #[.int .i64 x.kind,.int .i64 x.n,.string x.s,.slice A x.kids.length c] 85)) #[.int .i64 y.kind,.int .i64 y.n,.string y.s,.slice B y.kids.length d] 85 (0,0) 3 (w.heap.size+1) (by simp) rfl
 generalize (w.alloc (.cells #[.int .i64 x.kind,.int .i64 x.n,.string x.s,.slice A x.kids.length c] 85)).alloc (.cells #[.int .i64 y.kind,.int .i64 y.n,.string y.s,.slice B y.kids.length d] 85)=W at *
 go_loopw [5] (fun i wr=>CmpVInv x.kids y.kids W i wr) (fun i _=>x.kids.length - (intOf i).toNat)
 case atStart=>exact ⟨0,Nat.zero_le _,Nat.zero_le _,rfl,Below.refl _ _,rfl⟩
 case round =>
  obtain ⟨k,hk,hk',rfl,hx,ht⟩:=hrel
  have HT:=Lib.hid ht
  have hc1:wr.cell? ⟨w.heap.size,3,none⟩=some (.slice A x.kids.length c):=cell_ext hx hb1
  have hc2:wr.cell? ⟨w.heap.size+1,3,none⟩=some (.slice B y.kids.length d):=cell_ext hx hb2
  have HW:=Lib.hid hx
  have hx0:=HX0.out.trans' hx
  have lw:=hx.size
  have HXK:=Lib.hid (HX.out.kids.ext hx0)
  have HYK:=Lib.hid (HY.out.kids.ext hx0)
  have HX00:=HX0
  clear ht hx hx0 HX0
  by_cases hlt:k<x.kids.length
  ·by_cases hlt':k<y.kids.length
   ·have HD:=Lib.hid (show cmpVs x.kids y.kids=cmpVs (x.kids.getD k default :: x.kids.drop (k+1)) (y.kids.getD k default :: y.kids.drop (k+1)) by
     rw [HT.out,← drop_getD default hlt,← drop_getD default hlt'])
    obtain ⟨b1,o1,c1,A1,d1,e1,-,-,-,hv1,g10,g11,g12,g13⟩:=HXK.out.at_ hlt
    obtain ⟨b2,o2,c2,A2,d2,e2,-,-,-,hv2,g20,g21,g22,g23⟩:=HYK.out.at_ hlt'
    cases e1
    cases e2
    have HM:=Lib.hid (HN.out _ (getD_mem (d:=default) hlt))
    have HV1:=Lib.hid hv1
    have HV2:=Lib.hid hv2
    clear hv1 hv2 HXK HYK HX HY hb1 hb2
    generalize x.kids.getD k default=x1 at *
    generalize y.kids.getD k default=y1 at *
    go_wp2_with fail
    go_still_tail 10,(by kernel_rfl)
    go_wp2_with fail
    refine (hS x1 y1 A1 A2 d1 d2 P Q _ HM.out (HV1.out.ext (Ext.refl _).drew') (HV2.out.ext (Ext.refl _).drew')).mono ?_
    rintro e w1 ⟨rfl,hx1⟩
    have HX1:=Lib.hid hx1
    have HWX:=Lib.hid (HW.out.trans' ((Ext.refl _).drew'.trans' hx1))
    clear hx1
    go_wp2_with fail
    ·have hz:(cmpV x1 y1 != 0)=true:=by assumption
     go_ret
     refine ⟨ret_int ?_,HX00.out.trans' HWX.out⟩
     rw [HE.out,HD.out,cmpVs_cons,if_neg (by simpa using hz)]
    ·have hz:(cmpV x1 y1 != 0)=false:=by assumption
     go_roundw
     case rel =>
      refine ⟨k+1,by omega,by omega,by go_num,HWX.out,?_⟩
      rw [HD.out,cmpVs_cons,if_pos (by simpa using hz)]
     case measure=>simp [intOf];omega
   ·have HZ:=Lib.hid (show cmpV x y=1 by
     rw [HE.out,HT.out,drop_nil (l:=y.kids) (by omega),drop_getD default hlt]
     simp only [cmpVs])
    clear HXK HYK HX HY hb1 hb2
    have hne:((x.kids.length:Int) == y.kids.length)=false:=by simp;omega
    have hnl:decide ((x.kids.length:Int)<y.kids.length)=false:=by simp;omega
    go_wp2_with (go_at_call 160;refine (sign_any _ _).mono ?_;rintro e w' ⟨rfl,rfl⟩)
    go_ret
    exact ⟨ret_int (by rw [HZ.out];simp [signI];omega),HX00.out.trans' HW.out⟩
  ·by_cases hlt':k<y.kids.length
   ·have HZ:=Lib.hid (show cmpV x y=-1 by
     rw [HE.out,HT.out,drop_nil (l:=x.kids) (by omega),drop_getD default hlt']
     simp only [cmpVs])
    clear HXK HYK HX HY hb1 hb2
    have hne:((x.kids.length:Int) == y.kids.length)=false:=by simp;omega
    have hnl:decide ((x.kids.length:Int)<y.kids.length)=true:=by simp;omega
    go_wp2_with (go_at_call 160;refine (sign_any _ _).mono ?_;rintro e w' ⟨rfl,rfl⟩)
    go_ret
    exact ⟨ret_int (by rw [HZ.out];simp [signI];omega),HX00.out.trans' HW.out⟩
   ·have HZ:=Lib.hid (show cmpV x y=0 by
     rw [HE.out,HT.out,drop_nil (l:=x.kids) (by omega),drop_nil (l:=y.kids) (by omega)]
     simp only [cmpVs])
    clear HXK HYK HX HY hb1 hb2
    have hne:((x.kids.length:Int) == y.kids.length)=true:=by simp;omega
    go_wp2_with (go_at_call 160;refine (sign_any _ _).mono ?_;rintro e w' ⟨rfl,rfl⟩)
    go_ret
    exact ⟨ret_int HZ.out.symm,HX00.out.trans' HW.out⟩
theorem refCompareV_all (N:Nat):CompareSaid 117 N:=by
 induction N with
 | zero=>intro x y A B c d P Q w hN;omega
 | succ N ih=>exact refCompareV_step N ih
theorem refCompareV_any (x y:GV)(A B:Option Addr)(c d:Nat)(P Q:Nat→Prop)(w:World)(hx:VAt w P x A c)(hy:VAt w Q y B d) :
  Calls Tryz.prog 117 #[vagg x A c,vagg y B d] w (RetE (.int .i64 (cmpV x y)) w):=refCompareV_all (gsz x+1) x y A B c d P Q w (by omega) hx hy
end Go.Proofs.YtkoeecdjijfjnaaGreat
