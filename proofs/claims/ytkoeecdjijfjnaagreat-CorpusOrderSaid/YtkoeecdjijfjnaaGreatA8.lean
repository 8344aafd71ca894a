/- Contracts of the reference's tests of values. Conditions: none. -/
import Derived.Test.YtkoeecdjijfjnaaGreatA7
namespace Go.Proofs.YtkoeecdjijfjnaaGreat
open Go.RowKit
mutual
def allB (p:GV→Bool):GV→Bool
 | .mk k n s l=>p (.mk k n s l) && allsB p l
def allsB (p:GV→Bool):List GV→Bool
 | []=>true
 | x :: xs=>allB p x && allsB p xs
end
theorem allB_eq (p:GV→Bool)(x:GV):allB p x=(p x && allsB p x.kids):=by
 obtain ⟨k,n,s,l⟩:=x
 simp only [allB,GV.kids]
theorem allsB_cons (p:GV→Bool)(x:GV)(xs:List GV):allsB p (x :: xs)=(allB p x && allsB p xs):=by simp only [allsB]
theorem allsB_nil (p:GV→Bool):allsB p []=true:=by simp only [allsB]
mutual
def rsz:GV→Int
 | .mk _ _ _ l=>rszs 1 l
def rszs:Int→List GV→Int
 | n,[]=>n
 | n,x :: xs=>rszs (wrap64 (n+rsz x)) xs
end
theorem rsz_eq (x:GV):rsz x=rszs 1 x.kids:=by obtain ⟨k,n,s,l⟩:=x;simp only [rsz,GV.kids]
theorem rszs_cons (n:Int)(x:GV)(xs:List GV):rszs n (x :: xs)=rszs (wrap64 (n+rsz x)) xs:=by simp only [rszs]
theorem rszs_nil (n:Int):rszs n []=n:=by simp only [rszs]
def SizeSaid (N:Nat):Prop:=∀ (x:GV)(A:Option Addr)(c:Nat)(P:Nat→Prop)(w:World),gsz x<N→VAt w P x A c →
  Calls Tryz.prog 111 #[vagg x A c] w (RetE (.int .i64 (rsz x)) w)
def SizeInv (x:GV)(W:World)(n i:Value)(wr:World):Prop:=∃ (k:Nat)(m:Int),k≤x.kids.length∧i=.int .i64 k∧n=.int .i64 m∧Ext W wr∧rsz x=rszs m (x.kids.drop k)
set_option maxHeartbeats 400000 in
theorem refSize_step (N:Nat)(hS:SizeSaid N):SizeSaid (N+1):=by
 intro x A c P w hN hx
 have HX:=Lib.hid hx
 have HN:=Lib.hid (show ∀ z ∈ x.kids,gsz z<N from fun z hz=>by have:=gsz_kid hz;omega)
 have HC:=Lib.hid (rsz_eq x)
 have hx4:=hx.len
 have hx5:=hx.cap
 clear hx
 go_enter Tryz.func111,Tryz.ntmps111
 go_wp2_with fail
 have HX0:Hid (Ext w (w.alloc (.cells #[.int .i64 x.kind,.int .i64 x.n,.string x.s,.slice A x.kids.length c] 85))):=(Ext.refl _).alloc' _
 have hb1:=(Blk.new w 85 #[.int .i64 x.kind,.int .i64 x.n,.string x.s,.slice A x.kids.length c]).cell' (u:=.slice A x.kids.length c) 3 rfl
 generalize w.alloc (.cells #[.int .i64 x.kind,.int .i64 x.n,.string x.s,.slice A x.kids.length c] 85)=W at *
 go_loopw [3,4] (fun n i wr=>SizeInv x W n i wr) (fun _ i _=>x.kids.length - (intOf i).toNat)
 case atStart=>exact ⟨0,1,Nat.zero_le _,rfl,rfl,Ext.refl _,HC.out⟩
 case round =>
  obtain ⟨k,m,hk,rfl,rfl,hx,ht⟩:=hrel
  have HT:=Lib.hid ht
  have hc1:=cell_ext hx hb1
  have HW:=Lib.hid hx
  have HXK:=Lib.hid (HX.out.kids.ext (HX0.out.trans' hx))
  clear ht hx
  by_cases hlt:k<x.kids.length
  ·have HD:=Lib.hid (show rsz x=rszs m (x.kids.getD k default :: x.kids.drop (k+1)) by rw [HT.out,← drop_getD default hlt])
   obtain ⟨b1,o1,c1,A1,d1,e1,-,-,-,hv1,g10,g11,g12,g13⟩:=HXK.out.at_ hlt
   cases e1
   have HM:=Lib.hid (HN.out _ (getD_mem (d:=default) hlt))
   have HV1:=Lib.hid hv1
   clear hv1 HXK hb1
   generalize x.kids.getD k default=x1 at *
   go_wp2_with fail
   refine (hS x1 A1 d1 P _ HM.out HV1.out).mono ?_
   rintro e w1 ⟨rfl,hx1⟩
   have HX1:=Lib.hid (HW.out.trans' hx1)
   clear hx1
   go_wp2_with fail
   go_roundw
   case rel=>exact ⟨k+1,_,by omega,by go_num,rfl,HX1.out,by rw [HD.out,rszs_cons]⟩
   case measure=>simp [intOf];omega
  ·go_wp2_with fail
   go_ret
   exact ⟨ret_int (by rw [HT.out,drop_nil (by omega),rszs_nil]),HX0.out.trans' HW.out⟩
theorem refSize_all (N:Nat):SizeSaid N:=by
 induction N with
 | zero=>intro x A c P w hN;omega
 | succ N ih=>exact refSize_step N ih
theorem refSize_any (x:GV)(A:Option Addr)(c:Nat)(P:Nat→Prop)(w:World)(hx:VAt w P x A c) :
  Calls Tryz.prog 111 #[vagg x A c] w (RetE (.int .i64 (rsz x)) w):=refSize_all (gsz x+1) x A c P w (by omega) hx
def AllSaid (f:Nat)(r:Bool→Bool)(p:GV→Bool)(N:Nat):Prop:=∀ (x:GV)(A:Option Addr)(c:Nat)(P:Nat→Prop)(w:World),gsz x<N→VAt w P x A c →
  Calls Tryz.prog f #[vagg x A c] w (RetE (.bool (r (allB p x))) w)
def AllInv (p:GV→Bool)(x:GV)(W:World)(i:Value)(wr:World):Prop:=∃ (k:Nat),k≤x.kids.length∧i=.int .i64 k∧Ext W wr∧allB p x=allsB p (x.kids.drop k)
def nwideB (x:GV):Bool:=!(decide (x.kind=2∧256<x.kids.length) || decide (x.kind=3∧16<x.kids.length))
set_option maxRecDepth 100000 in
set_option maxHeartbeats 1000000 in
theorem refWide_step (N:Nat)(hS:AllSaid 153 (! ·) nwideB N):AllSaid 153 (! ·) nwideB (N+1):=by
 intro x A c P w hN hx
 have HX:=Lib.hid hx
 have HN:=Lib.hid (show ∀ z ∈ x.kids,gsz z<N from fun z hz=>by have:=gsz_kid hz;omega)
 have hx4:=hx.len
 have hx5:=hx.cap
 clear hx
 by_cases h2:x.kind=2
 ·have t2:(x.kind == 2)=true:=beq_iff_eq.2 h2
  have t3:(x.kind == 3)=false:=beq_eq_false_iff_ne.2 (by omega)
  by_cases hw:256<x.kids.length
  ·have HC:=Lib.hid (show allB nwideB x=false by rw [allB_eq];simp [nwideB,h2,hw])
   clear h2
   go_enter Tryz.func153,Tryz.ntmps153
   go_wp2_with fail
   go_ret
   exact ⟨ret_bool (by rw [HC.out];rfl),(Ext.refl _).alloc' _⟩
  ·have HC:=Lib.hid (show allB nwideB x=allsB nwideB (x.kids.drop 0) by rw [allB_eq];simp [nwideB,h2,hw])
   have td:decide (256<(x.kids.length:Int))=false:=by simp;omega
   clear h2
   go_enter Tryz.func153,Tryz.ntmps153
   go_wp2_with fail
   have HX0:Hid (Ext w (w.alloc (.cells #[.int .i64 x.kind,.int .i64 x.n,.string x.s,.slice A x.kids.length c] 85))):=(Ext.refl _).alloc' _
   have hb1:=(Blk.new w 85 #[.int .i64 x.kind,.int .i64 x.n,.string x.s,.slice A x.kids.length c]).cell' (u:=.slice A x.kids.length c) 3 rfl
   generalize w.alloc (.cells #[.int .i64 x.kind,.int .i64 x.n,.string x.s,.slice A x.kids.length c] 85)=W at *
   go_loopw [3] (fun i wr=>AllInv nwideB x W i wr) (fun i _=>x.kids.length - (intOf i).toNat)
   case atStart=>exact ⟨0,Nat.zero_le _,rfl,Ext.refl _,HC.out⟩
   case round =>
    obtain ⟨k,hk,rfl,hx,ht⟩:=hrel
    have HT:=Lib.hid ht
    have hc1:=cell_ext hx hb1
    have HW:=Lib.hid hx
    have HXK:=Lib.hid (HX.out.kids.ext (HX0.out.trans' hx))
    clear ht hx
    by_cases hlt:k<x.kids.length
    ·have HD:=Lib.hid (show allB nwideB x=allsB nwideB (x.kids.getD k default :: x.kids.drop (k+1)) by rw [HT.out,← drop_getD default hlt])
     obtain ⟨b1,o1,c1,A1,d1,e1,-,-,-,hv1,g10,g11,g12,g13⟩:=HXK.out.at_ hlt
     cases e1
     have HM:=Lib.hid (HN.out _ (getD_mem (d:=default) hlt))
     have HV1:=Lib.hid hv1
     clear hv1 HXK hb1
     generalize x.kids.getD k default=x1 at *
     go_wp2_with fail
     refine (hS x1 A1 d1 P _ HM.out HV1.out).mono ?_
     rintro e w1 ⟨rfl,hx1⟩
     have HX1:=Lib.hid (HW.out.trans' hx1)
     clear hx1
     have HDC:=Lib.hid (HD.out.trans (allsB_cons _ _ _))
     generalize allB nwideB x1=bb at *
     cases bb
     ·go_wp2_with fail
      go_ret
      exact ⟨ret_bool (by rw [HDC.out];rfl),HX0.out.trans' HX1.out⟩
     ·go_wp2_with fail
      go_roundw
      case rel=>exact ⟨k+1,by omega,by go_num,HX1.out,by rw [HDC.out];rfl⟩
      case measure=>simp [intOf];omega
    ·go_wp2_with fail
     go_ret
     exact ⟨ret_bool (by rw [HT.out,drop_nil (by omega),allsB_nil];rfl),HX0.out.trans' HW.out⟩
 by_cases h3:x.kind=3
 ·have t2:(x.kind == 2)=false:=beq_eq_false_iff_ne.2 (by omega)
  have t3:(x.kind == 3)=true:=beq_iff_eq.2 h3
  by_cases hw:16<x.kids.length
  ·have HC:=Lib.hid (show allB nwideB x=false by rw [allB_eq];simp [nwideB,h3,hw])
   clear h2 h3
   go_enter Tryz.func153,Tryz.ntmps153
   go_wp2_with fail
   go_ret
   exact ⟨ret_bool (by rw [HC.out];rfl),(Ext.refl _).alloc' _⟩
  ·have HC:=Lib.hid (show allB nwideB x=allsB nwideB (x.kids.drop 0) by rw [allB_eq];simp [nwideB,h3,hw])
   have td:decide (16<(x.kids.length:Int))=false:=by simp;omega
   clear h2 h3
   go_enter Tryz.func153,Tryz.ntmps153
   go_wp2_with fail
   have HX0:Hid (Ext w (w.alloc (.cells #[.int .i64 x.kind,.int .i64 x.n,.string x.s,.slice A x.kids.length c] 85))):=(Ext.refl _).alloc' _
   have hb1:=(Blk.new w 85 #[.int .i64 x.kind,.int .i64 x.n,.string x.s,.slice A x.kids.length c]).cell' (u:=.slice A x.kids.length c) 3 rfl
   generalize w.alloc (.cells #[.int .i64 x.kind,.int .i64 x.n,.string x.s,.slice A x.kids.length c] 85)=W at *
   go_loopw [3] (fun i wr=>AllInv nwideB x W i wr) (fun i _=>x.kids.length - (intOf i).toNat)
   case atStart=>exact ⟨0,Nat.zero_le _,rfl,Ext.refl _,HC.out⟩
   case round =>
    obtain ⟨k,hk,rfl,hx,ht⟩:=hrel
    have HT:=Lib.hid ht
    have hc1:=cell_ext hx hb1
    have HW:=Lib.hid hx
    have HXK:=Lib.hid (HX.out.kids.ext (HX0.out.trans' hx))
    clear ht hx
    by_cases hlt:k<x.kids.length
    ·have HD:=Lib.hid (show allB nwideB x=allsB nwideB (x.kids.getD k default :: x.kids.drop (k+1)) by rw [HT.out,← drop_getD default hlt])
     obtain ⟨b1,o1,c1,A1,d1,e1,-,-,-,hv1,g10,g11,g12,g13⟩:=HXK.out.at_ hlt
     cases e1
     have HM:=Lib.hid (HN.out _ (getD_mem (d:=default) hlt))
     have HV1:=Lib.hid hv1
     clear hv1 HXK hb1
     generalize x.kids.getD k default=x1 at *
     go_wp2_with fail
     refine (hS x1 A1 d1 P _ HM.out HV1.out).mono ?_
     rintro e w1 ⟨rfl,hx1⟩
     have HX1:=Lib.hid (HW.out.trans' hx1)
     clear hx1
     have HDC:=Lib.hid (HD.out.trans (allsB_cons _ _ _))
     generalize allB nwideB x1=bb at *
     cases bb
     ·go_wp2_with fail
      go_ret
      exact ⟨ret_bool (by rw [HDC.out];rfl),HX0.out.trans' HX1.out⟩
     ·go_wp2_with fail
      go_roundw
      case rel=>exact ⟨k+1,by omega,by go_num,HX1.out,by rw [HDC.out];rfl⟩
      case measure=>simp [intOf];omega
    ·go_wp2_with fail
     go_ret
     exact ⟨ret_bool (by rw [HT.out,drop_nil (by omega),allsB_nil];rfl),HX0.out.trans' HW.out⟩
 ·have t2:(x.kind == 2)=false:=beq_eq_false_iff_ne.2 (by omega)
  have t3:(x.kind == 3)=false:=beq_eq_false_iff_ne.2 (by omega)
  ·have HC:=Lib.hid (show allB nwideB x=allsB nwideB (x.kids.drop 0) by rw [allB_eq];simp [nwideB,h2,h3])
   clear h2 h3
   go_enter Tryz.func153,Tryz.ntmps153
   go_wp2_with fail
   have HX0:Hid (Ext w (w.alloc (.cells #[.int .i64 x.kind,.int .i64 x.n,.string x.s,.slice A x.kids.length c] 85))):=(Ext.refl _).alloc' _
   have hb1:=(Blk.new w 85 #[.int .i64 x.kind,.int .i64 x.n,.string x.s,.slice A x.kids.length c]).cell' (u:=.slice A x.kids.length c) 3 rfl
   generalize w.alloc (.cells #[.int .i64 x.kind,.int .i64 x.n,.string x.s,.slice A x.kids.length c] 85)=W at *
   go_loopw [3] (fun i wr=>AllInv nwideB x W i wr) (fun i _=>x.kids.length - (intOf i).toNat)
   case atStart=>exact ⟨0,Nat.zero_le _,rfl,Ext.refl _,HC.out⟩
   case round =>
    obtain ⟨k,hk,rfl,hx,ht⟩:=hrel
    have HT:=Lib.hid ht
    have hc1:=cell_ext hx hb1
    have HW:=Lib.hid hx
    have HXK:=Lib.hid (HX.out.kids.ext (HX0.out.trans' hx))
    clear ht hx
    by_cases hlt:k<x.kids.length
    ·have HD:=Lib.hid (show allB nwideB x=allsB nwideB (x.kids.getD k default :: x.kids.drop (k+1)) by rw [HT.out,← drop_getD default hlt])
     obtain ⟨b1,o1,c1,A1,d1,e1,-,-,-,hv1,g10,g11,g12,g13⟩:=HXK.out.at_ hlt
     cases e1
     have HM:=Lib.hid (HN.out _ (getD_mem (d:=default) hlt))
     have HV1:=Lib.hid hv1
     clear hv1 HXK hb1
     generalize x.kids.getD k default=x1 at *
     go_wp2_with fail
     refine (hS x1 A1 d1 P _ HM.out HV1.out).mono ?_
     rintro e w1 ⟨rfl,hx1⟩
     have HX1:=Lib.hid (HW.out.trans' hx1)
     clear hx1
     have HDC:=Lib.hid (HD.out.trans (allsB_cons _ _ _))
     generalize allB nwideB x1=bb at *
     cases bb
     ·go_wp2_with fail
      go_ret
      exact ⟨ret_bool (by rw [HDC.out];rfl),HX0.out.trans' HX1.out⟩
     ·go_wp2_with fail
      go_roundw
      case rel=>exact ⟨k+1,by omega,by go_num,HX1.out,by rw [HDC.out];rfl⟩
      case measure=>simp [intOf];omega
    ·go_wp2_with fail
     go_ret
     exact ⟨ret_bool (by rw [HT.out,drop_nil (by omega),allsB_nil];rfl),HX0.out.trans' HW.out⟩
theorem refWide_all (N:Nat):AllSaid 153 (! ·) nwideB N:=by
 induction N with
 | zero=>intro x A c P w hN;omega
 | succ N ih=>exact refWide_step N ih
set_option maxRecDepth 100000 in
set_option maxHeartbeats 1000000 in
theorem refFormed_k0e (N:Nat)(x:GV)(A:Option Addr)(c:Nat)(P:Nat→Prop)(w:World)(hN:gsz x<N+1)(hx:VAt w P x A c)(hk:x.kind=0)(he:¬ x.s.toList=[]) :
  Calls Tryz.prog 152 #[vagg x A c] w (RetE (.bool (allB formedB x)) w):=by
 have HX:=Lib.hid hx
 have HN:=Lib.hid (show ∀ z ∈ x.kids,gsz z<N from fun z hz=>by have:=gsz_kid hz;omega)
 have HSZ:=Lib.hid hx.s
 have hx4:=hx.len
 have hx5:=hx.cap
 clear hx
 have t0:(x.kind == 0)=true:=beq_iff_eq.2 hk
 have t1:(x.kind == 1)=false:=beq_eq_false_iff_ne.2 (by omega)
 have t2:(x.kind == 2)=false:=beq_eq_false_iff_ne.2 (by omega)
 have t3:(x.kind == 3)=false:=beq_eq_false_iff_ne.2 (by omega)
 have he1:x.s.toList.isEmpty=false:=by simpa using he
 have HC:=Lib.hid (show allB formedB x=false by rw [allB_eq];simp [formedB,emptyB,hk,he])
 clear hk
 go_enter Tryz.func152,Tryz.ntmps152
 go_wp2_with (go_at_call 187;refine (capital187_any _ _ HSZ.out).mono ?_;rintro e w' ⟨rfl,rfl⟩)
 go_ret
 exact ⟨ret_bool (by rw [HC.out]),(Ext.refl _).alloc' _⟩
set_option maxRecDepth 100000 in
set_option maxHeartbeats 1000000 in
theorem refFormed_k0l (N:Nat)(x:GV)(A:Option Addr)(c:Nat)(P:Nat→Prop)(w:World)(hN:gsz x<N+1)(hx:VAt w P x A c)(hk:x.kind=0)(he:x.s.toList=[])(hl:0<x.kids.length) :
  Calls Tryz.prog 152 #[vagg x A c] w (RetE (.bool (allB formedB x)) w):=by
 have HX:=Lib.hid hx
 have HN:=Lib.hid (show ∀ z ∈ x.kids,gsz z<N from fun z hz=>by have:=gsz_kid hz;omega)
 have HSZ:=Lib.hid hx.s
 have hx4:=hx.len
 have hx5:=hx.cap
 clear hx
 have t0:(x.kind == 0)=true:=beq_iff_eq.2 hk
 have t1:(x.kind == 1)=false:=beq_eq_false_iff_ne.2 (by omega)
 have t2:(x.kind == 2)=false:=beq_eq_false_iff_ne.2 (by omega)
 have t3:(x.kind == 3)=false:=beq_eq_false_iff_ne.2 (by omega)
 have he1:x.s.toList.isEmpty=true:=by simp [he]
 have hl1:decide (0<(x.kids.length:Int))=true:=decide_eq_true (by omega)
 have HC:=Lib.hid (show allB formedB x=false by rw [allB_eq];simp [formedB,emptyB,hk,he,Nat.ne_of_gt hl])
 clear hk
 go_enter Tryz.func152,Tryz.ntmps152
 go_wp2_with (go_at_call 187;refine (capital187_any _ _ HSZ.out).mono ?_;rintro e w' ⟨rfl,rfl⟩)
 go_ret
 exact ⟨ret_bool (by rw [HC.out]),(Ext.refl _).alloc' _⟩
set_option maxRecDepth 100000 in
set_option maxHeartbeats 1000000 in
theorem refFormed_k0 (N:Nat)(_:AllSaid 152 (fun b=>b) formedB N)(x:GV)(A:Option Addr)(c:Nat)(P:Nat→Prop)(w:World)(hN:gsz x<N+1)(hx:VAt w P x A c)(hk:x.kind=0)(he:x.s.toList=[])(hl:x.kids.length≤0) :
  Calls Tryz.prog 152 #[vagg x A c] w (RetE (.bool (allB formedB x)) w):=by
 have HX:=Lib.hid hx
 have HN:=Lib.hid (show ∀ z ∈ x.kids,gsz z<N from fun z hz=>by have:=gsz_kid hz;omega)
 have HSZ:=Lib.hid hx.s
 have hx4:=hx.len
 have hx5:=hx.cap
 clear hx
 have t0:(x.kind == 0)=true:=beq_iff_eq.2 hk
 have t1:(x.kind == 1)=false:=beq_eq_false_iff_ne.2 (by omega)
 have t2:(x.kind == 2)=false:=beq_eq_false_iff_ne.2 (by omega)
 have t3:(x.kind == 3)=false:=beq_eq_false_iff_ne.2 (by omega)
 have he1:x.s.toList.isEmpty=true:=by simp [he]
 have hl1:decide (0<(x.kids.length:Int))=false:=decide_eq_false (by omega)
 have HC:=Lib.hid (show allB formedB x=allsB formedB (x.kids.drop 0) by rw [allB_eq];simp [formedB,emptyB,hk,he,List.length_eq_zero_iff.1 (Nat.le_zero.1 hl)];try omega)
 have hlo:decide (x.kind<0)=false:=by simp;omega
 have hhi:decide (3<x.kind)=false:=by simp;omega
 clear hk
 go_enter Tryz.func152,Tryz.ntmps152
 go_wp2_with (go_at_call 187;refine (capital187_any _ _ HSZ.out).mono ?_;rintro e w' ⟨rfl,rfl⟩)
 have HX0:Hid (Ext w (w.alloc (.cells #[.int .i64 x.kind,.int .i64 x.n,.string x.s,.slice A x.kids.length c] 85))):=(Ext.refl _).alloc' _
 have hb1:=(Blk.new w 85 #[.int .i64 x.kind,.int .i64 x.n,.string x.s,.slice A x.kids.length c]).cell' (u:=.slice A x.kids.length c) 3 rfl
 generalize w.alloc (.cells #[.int .i64 x.kind,.int .i64 x.n,.string x.s,.slice A x.kids.length c] 85)=W at *
 go_loopw [4] (fun i wr=>AllInv formedB x W i wr) (fun i _=>x.kids.length - (intOf i).toNat)
 case atStart=>exact ⟨0,Nat.zero_le _,rfl,Ext.refl _,HC.out⟩
 case round =>
  obtain ⟨k,hk,rfl,hx,ht⟩:=hrel
  have HT:=Lib.hid ht
  have hc1:=cell_ext hx hb1
  have HW:=Lib.hid hx
  have HXK:=Lib.hid (HX.out.kids.ext (HX0.out.trans' hx))
  clear ht hx
  by_cases hlt:k<x.kids.length
  ·exact absurd hlt (by omega)
  ·go_wp2_with fail
   go_ret
   exact ⟨ret_bool (by rw [HT.out,drop_nil (by omega),allsB_nil]),HX0.out.trans' HW.out⟩
set_option maxRecDepth 100000 in
set_option maxHeartbeats 1000000 in
theorem refFormed_k1e (N:Nat)(x:GV)(A:Option Addr)(c:Nat)(P:Nat→Prop)(w:World)(hN:gsz x<N+1)(hx:VAt w P x A c)(hk:x.kind=1)(he:¬ x.s.toList=[]) :
  Calls Tryz.prog 152 #[vagg x A c] w (RetE (.bool (allB formedB x)) w):=by
 have HX:=Lib.hid hx
 have HN:=Lib.hid (show ∀ z ∈ x.kids,gsz z<N from fun z hz=>by have:=gsz_kid hz;omega)
 have HSZ:=Lib.hid hx.s
 have hx4:=hx.len
 have hx5:=hx.cap
 clear hx
 have t0:(x.kind == 0)=false:=beq_eq_false_iff_ne.2 (by omega)
 have t1:(x.kind == 1)=true:=beq_iff_eq.2 hk
 have t2:(x.kind == 2)=false:=beq_eq_false_iff_ne.2 (by omega)
 have t3:(x.kind == 3)=false:=beq_eq_false_iff_ne.2 (by omega)
 have he1:x.s.toList.isEmpty=false:=by simpa using he
 have HC:=Lib.hid (show allB formedB x=false by rw [allB_eq];simp [formedB,emptyB,hk,he])
 clear hk
 go_enter Tryz.func152,Tryz.ntmps152
 go_wp2_with (go_at_call 187;refine (capital187_any _ _ HSZ.out).mono ?_;rintro e w' ⟨rfl,rfl⟩)
 go_ret
 exact ⟨ret_bool (by rw [HC.out]),(Ext.refl _).alloc' _⟩
set_option maxRecDepth 100000 in
set_option maxHeartbeats 1000000 in
theorem refFormed_k1l (N:Nat)(x:GV)(A:Option Addr)(c:Nat)(P:Nat→Prop)(w:World)(hN:gsz x<N+1)(hx:VAt w P x A c)(hk:x.kind=1)(he:x.s.toList=[])(hl:0<x.kids.length) :
  Calls Tryz.prog 152 #[vagg x A c] w (RetE (.bool (allB formedB x)) w):=by
 have HX:=Lib.hid hx
 have HN:=Lib.hid (show ∀ z ∈ x.kids,gsz z<N from fun z hz=>by have:=gsz_kid hz;omega)
 have HSZ:=Lib.hid hx.s
 have hx4:=hx.len
 have hx5:=hx.cap
 clear hx
 have t0:(x.kind == 0)=false:=beq_eq_false_iff_ne.2 (by omega)
 have t1:(x.kind == 1)=true:=beq_iff_eq.2 hk
 have t2:(x.kind == 2)=false:=beq_eq_false_iff_ne.2 (by omega)
 have t3:(x.kind == 3)=false:=beq_eq_false_iff_ne.2 (by omega)
 have he1:x.s.toList.isEmpty=true:=by simp [he]
 have hl1:decide (0<(x.kids.length:Int))=true:=decide_eq_true (by omega)
 have HC:=Lib.hid (show allB formedB x=false by rw [allB_eq];simp [formedB,emptyB,hk,he,Nat.ne_of_gt hl])
 clear hk
 go_enter Tryz.func152,Tryz.ntmps152
 go_wp2_with (go_at_call 187;refine (capital187_any _ _ HSZ.out).mono ?_;rintro e w' ⟨rfl,rfl⟩)
 go_ret
 exact ⟨ret_bool (by rw [HC.out]),(Ext.refl _).alloc' _⟩
set_option maxRecDepth 100000 in
set_option maxHeartbeats 1000000 in
theorem refFormed_k1n (N:Nat)(x:GV)(A:Option Addr)(c:Nat)(P:Nat→Prop)(w:World)(hN:gsz x<N+1)(hx:VAt w P x A c)(hk:x.kind=1)(he:x.s.toList=[])(hl:x.kids.length≤0)(hn:x.n<0) :
  Calls Tryz.prog 152 #[vagg x A c] w (RetE (.bool (allB formedB x)) w):=by
 have HX:=Lib.hid hx
 have HN:=Lib.hid (show ∀ z ∈ x.kids,gsz z<N from fun z hz=>by have:=gsz_kid hz;omega)
 have HSZ:=Lib.hid hx.s
 have hx4:=hx.len
 have hx5:=hx.cap
 clear hx
 have t0:(x.kind == 0)=false:=beq_eq_false_iff_ne.2 (by omega)
 have t1:(x.kind == 1)=true:=beq_iff_eq.2 hk
 have t2:(x.kind == 2)=false:=beq_eq_false_iff_ne.2 (by omega)
 have t3:(x.kind == 3)=false:=beq_eq_false_iff_ne.2 (by omega)
 have he1:x.s.toList.isEmpty=true:=by simp [he]
 have hl1:decide (0<(x.kids.length:Int))=false:=decide_eq_false (by omega)
 have hn0:decide (x.n<0)=true:=by first | exact decide_eq_true (by omega) | exact decide_eq_false (by omega)
 have HC:=Lib.hid (show allB formedB x=false by rw [allB_eq];simp [formedB,emptyB,hk,he,List.length_eq_zero_iff.1 (Nat.le_zero.1 hl),show ¬ x.n=0 by omega,show ¬ x.n=1 by omega])
 clear hk
 go_enter Tryz.func152,Tryz.ntmps152
 go_wp2_with (go_at_call 187;refine (capital187_any _ _ HSZ.out).mono ?_;rintro e w' ⟨rfl,rfl⟩)
 go_ret
 exact ⟨ret_bool (by rw [HC.out]),(Ext.refl _).alloc' _⟩
set_option maxRecDepth 100000 in
set_option maxHeartbeats 1000000 in
theorem refFormed_k1m (N:Nat)(x:GV)(A:Option Addr)(c:Nat)(P:Nat→Prop)(w:World)(hN:gsz x<N+1)(hx:VAt w P x A c)(hk:x.kind=1)(he:x.s.toList=[])(hl:x.kids.length≤0)(hn:1<x.n) :
  Calls Tryz.prog 152 #[vagg x A c] w (RetE (.bool (allB formedB x)) w):=by
 have HX:=Lib.hid hx
 have HN:=Lib.hid (show ∀ z ∈ x.kids,gsz z<N from fun z hz=>by have:=gsz_kid hz;omega)
 have HSZ:=Lib.hid hx.s
 have hx4:=hx.len
 have hx5:=hx.cap
 clear hx
 have t0:(x.kind == 0)=false:=beq_eq_false_iff_ne.2 (by omega)
 have t1:(x.kind == 1)=true:=beq_iff_eq.2 hk
 have t2:(x.kind == 2)=false:=beq_eq_false_iff_ne.2 (by omega)
 have t3:(x.kind == 3)=false:=beq_eq_false_iff_ne.2 (by omega)
 have he1:x.s.toList.isEmpty=true:=by simp [he]
 have hl1:decide (0<(x.kids.length:Int))=false:=decide_eq_false (by omega)
 have hn0:decide (x.n<0)=false:=by first | exact decide_eq_true (by omega) | exact decide_eq_false (by omega)
 have hn1:decide (1<x.n)=true:=by first | exact decide_eq_true (by omega) | exact decide_eq_false (by omega)
 have HC:=Lib.hid (show allB formedB x=false by rw [allB_eq];simp [formedB,emptyB,hk,he,List.length_eq_zero_iff.1 (Nat.le_zero.1 hl),show ¬ x.n=0 by omega,show ¬ x.n=1 by omega])
 clear hk
 go_enter Tryz.func152,Tryz.ntmps152
 go_wp2_with (go_at_call 187;refine (capital187_any _ _ HSZ.out).mono ?_;rintro e w' ⟨rfl,rfl⟩)
 go_ret
 exact ⟨ret_bool (by rw [HC.out]),(Ext.refl _).alloc' _⟩
set_option maxRecDepth 100000 in
set_option maxHeartbeats 1000000 in
theorem refFormed_k1 (N:Nat)(_:AllSaid 152 (fun b=>b) formedB N)(x:GV)(A:Option Addr)(c:Nat)(P:Nat→Prop)(w:World)(hN:gsz x<N+1)(hx:VAt w P x A c)(hk:x.kind=1)(he:x.s.toList=[])(hl:x.kids.length≤0)(hn:0≤x.n)(hn2:x.n≤1) :
  Calls Tryz.prog 152 #[vagg x A c] w (RetE (.bool (allB formedB x)) w):=by
 have HX:=Lib.hid hx
 have HN:=Lib.hid (show ∀ z ∈ x.kids,gsz z<N from fun z hz=>by have:=gsz_kid hz;omega)
 have HSZ:=Lib.hid hx.s
 have hx4:=hx.len
 have hx5:=hx.cap
 clear hx
 have t0:(x.kind == 0)=false:=beq_eq_false_iff_ne.2 (by omega)
 have t1:(x.kind == 1)=true:=beq_iff_eq.2 hk
 have t2:(x.kind == 2)=false:=beq_eq_false_iff_ne.2 (by omega)
 have t3:(x.kind == 3)=false:=beq_eq_false_iff_ne.2 (by omega)
 have he1:x.s.toList.isEmpty=true:=by simp [he]
 have hl1:decide (0<(x.kids.length:Int))=false:=decide_eq_false (by omega)
 have hn0:decide (x.n<0)=false:=by first | exact decide_eq_true (by omega) | exact decide_eq_false (by omega)
 have hn1:decide (1<x.n)=false:=by first | exact decide_eq_true (by omega) | exact decide_eq_false (by omega)
 have HC:=Lib.hid (show allB formedB x=allsB formedB (x.kids.drop 0) by rw [allB_eq];simp [formedB,emptyB,hk,he,List.length_eq_zero_iff.1 (Nat.le_zero.1 hl)];try omega)
 have hlo:decide (x.kind<0)=false:=by simp;omega
 have hhi:decide (3<x.kind)=false:=by simp;omega
 clear hk
 go_enter Tryz.func152,Tryz.ntmps152
 go_wp2_with (go_at_call 187;refine (capital187_any _ _ HSZ.out).mono ?_;rintro e w' ⟨rfl,rfl⟩)
 have HX0:Hid (Ext w (w.alloc (.cells #[.int .i64 x.kind,.int .i64 x.n,.string x.s,.slice A x.kids.length c] 85))):=(Ext.refl _).alloc' _
 have hb1:=(Blk.new w 85 #[.int .i64 x.kind,.int .i64 x.n,.string x.s,.slice A x.kids.length c]).cell' (u:=.slice A x.kids.length c) 3 rfl
 generalize w.alloc (.cells #[.int .i64 x.kind,.int .i64 x.n,.string x.s,.slice A x.kids.length c] 85)=W at *
 go_loopw [4] (fun i wr=>AllInv formedB x W i wr) (fun i _=>x.kids.length - (intOf i).toNat)
 case atStart=>exact ⟨0,Nat.zero_le _,rfl,Ext.refl _,HC.out⟩
 case round =>
  obtain ⟨k,hk,rfl,hx,ht⟩:=hrel
  have HT:=Lib.hid ht
  have hc1:=cell_ext hx hb1
  have HW:=Lib.hid hx
  have HXK:=Lib.hid (HX.out.kids.ext (HX0.out.trans' hx))
  clear ht hx
  by_cases hlt:k<x.kids.length
  ·exact absurd hlt (by omega)
  ·go_wp2_with fail
   go_ret
   exact ⟨ret_bool (by rw [HT.out,drop_nil (by omega),allsB_nil]),HX0.out.trans' HW.out⟩
set_option maxRecDepth 100000 in
set_option maxHeartbeats 1000000 in
theorem refFormed_k2e (N:Nat)(x:GV)(A:Option Addr)(c:Nat)(P:Nat→Prop)(w:World)(hN:gsz x<N+1)(hx:VAt w P x A c)(hk:x.kind=2)(he:¬ x.s.toList=[]) :
  Calls Tryz.prog 152 #[vagg x A c] w (RetE (.bool (allB formedB x)) w):=by
 have HX:=Lib.hid hx
 have HN:=Lib.hid (show ∀ z ∈ x.kids,gsz z<N from fun z hz=>by have:=gsz_kid hz;omega)
 have HSZ:=Lib.hid hx.s
 have hx4:=hx.len
 have hx5:=hx.cap
 clear hx
 have t0:(x.kind == 0)=false:=beq_eq_false_iff_ne.2 (by omega)
 have t1:(x.kind == 1)=false:=beq_eq_false_iff_ne.2 (by omega)
 have t2:(x.kind == 2)=true:=beq_iff_eq.2 hk
 have t3:(x.kind == 3)=false:=beq_eq_false_iff_ne.2 (by omega)
 have he1:x.s.toList.isEmpty=false:=by simpa using he
 have HC:=Lib.hid (show allB formedB x=false by rw [allB_eq];simp [formedB,emptyB,hk,he])
 clear hk
 go_enter Tryz.func152,Tryz.ntmps152
 go_wp2_with (go_at_call 187;refine (capital187_any _ _ HSZ.out).mono ?_;rintro e w' ⟨rfl,rfl⟩)
 go_ret
 exact ⟨ret_bool (by rw [HC.out]),(Ext.refl _).alloc' _⟩
set_option maxRecDepth 100000 in
set_option maxHeartbeats 1000000 in
theorem refFormed_k2n (N:Nat)(x:GV)(A:Option Addr)(c:Nat)(P:Nat→Prop)(w:World)(hN:gsz x<N+1)(hx:VAt w P x A c)(hk:x.kind=2)(he:x.s.toList=[])(hn:¬ x.n=0) :
  Calls Tryz.prog 152 #[vagg x A c] w (RetE (.bool (allB formedB x)) w):=by
 have HX:=Lib.hid hx
 have HN:=Lib.hid (show ∀ z ∈ x.kids,gsz z<N from fun z hz=>by have:=gsz_kid hz;omega)
 have HSZ:=Lib.hid hx.s
 have hx4:=hx.len
 have hx5:=hx.cap
 clear hx
 have t0:(x.kind == 0)=false:=beq_eq_false_iff_ne.2 (by omega)
 have t1:(x.kind == 1)=false:=beq_eq_false_iff_ne.2 (by omega)
 have t2:(x.kind == 2)=true:=beq_iff_eq.2 hk
 have t3:(x.kind == 3)=false:=beq_eq_false_iff_ne.2 (by omega)
 have he1:x.s.toList.isEmpty=true:=by simp [he]
 have hne:(x.n != 0)=true:=bne_iff_ne.2 hn
 have HC:=Lib.hid (show allB formedB x=false by rw [allB_eq];simp [formedB,emptyB,hk,he,hn])
 clear hk
 go_enter Tryz.func152,Tryz.ntmps152
 go_wp2_with (go_at_call 187;refine (capital187_any _ _ HSZ.out).mono ?_;rintro e w' ⟨rfl,rfl⟩)
 go_ret
 exact ⟨ret_bool (by rw [HC.out]),(Ext.refl _).alloc' _⟩
set_option maxRecDepth 100000 in
set_option maxHeartbeats 1000000 in
theorem refFormed_k2 (N:Nat)(hS:AllSaid 152 (fun b=>b) formedB N)(x:GV)(A:Option Addr)(c:Nat)(P:Nat→Prop)(w:World)(hN:gsz x<N+1)(hx:VAt w P x A c)(hk:x.kind=2)(he:x.s.toList=[])(hn:x.n=0) :
  Calls Tryz.prog 152 #[vagg x A c] w (RetE (.bool (allB formedB x)) w):=by
 have HX:=Lib.hid hx
 have HN:=Lib.hid (show ∀ z ∈ x.kids,gsz z<N from fun z hz=>by have:=gsz_kid hz;omega)
 have HSZ:=Lib.hid hx.s
 have hx4:=hx.len
 have hx5:=hx.cap
 clear hx
 have t0:(x.kind == 0)=false:=beq_eq_false_iff_ne.2 (by omega)
 have t1:(x.kind == 1)=false:=beq_eq_false_iff_ne.2 (by omega)
 have t2:(x.kind == 2)=true:=beq_iff_eq.2 hk
 have t3:(x.kind == 3)=false:=beq_eq_false_iff_ne.2 (by omega)
 have he1:x.s.toList.isEmpty=true:=by simp [he]
 have hne:(x.n != 0)=false:=by simp [hn]
 have HNN:=Lib.hid hn
 have HC:=Lib.hid (show allB formedB x=allsB formedB (x.kids.drop 0) by rw [allB_eq];simp [formedB,emptyB,hk,he,hn];try omega)
 have hlo:decide (x.kind<0)=false:=by simp;omega
 have hhi:decide (3<x.kind)=false:=by simp;omega
 clear hk hn
 go_enter Tryz.func152,Tryz.ntmps152
 go_wp2_with (go_at_call 187;refine (capital187_any _ _ HSZ.out).mono ?_;rintro e w' ⟨rfl,rfl⟩)
 have HX0:Hid (Ext w (w.alloc (.cells #[.int .i64 x.kind,.int .i64 x.n,.string x.s,.slice A x.kids.length c] 85))):=(Ext.refl _).alloc' _
 have hb1:=(Blk.new w 85 #[.int .i64 x.kind,.int .i64 x.n,.string x.s,.slice A x.kids.length c]).cell' (u:=.slice A x.kids.length c) 3 rfl
 generalize w.alloc (.cells #[.int .i64 x.kind,.int .i64 x.n,.string x.s,.slice A x.kids.length c] 85)=W at *
 go_loopw [4] (fun i wr=>AllInv formedB x W i wr) (fun i _=>x.kids.length - (intOf i).toNat)
 case atStart=>exact ⟨0,Nat.zero_le _,rfl,Ext.refl _,HC.out⟩
 case round =>
  obtain ⟨k,hk,rfl,hx,ht⟩:=hrel
  have HT:=Lib.hid ht
  have hc1:=cell_ext hx hb1
  have HW:=Lib.hid hx
  have HXK:=Lib.hid (HX.out.kids.ext (HX0.out.trans' hx))
  clear ht hx
  by_cases hlt:k<x.kids.length
  ·have HD:=Lib.hid (show allB formedB x=allsB formedB (x.kids.getD k default :: x.kids.drop (k+1)) by rw [HT.out,← drop_getD default hlt])
   obtain ⟨b1,o1,c1,A1,d1,e1,-,-,-,hv1,g10,g11,g12,g13⟩:=HXK.out.at_ hlt
   cases e1
   have HM:=Lib.hid (HN.out _ (getD_mem (d:=default) hlt))
   have HV1:=Lib.hid hv1
   clear hv1 HXK hb1
   generalize x.kids.getD k default=x1 at *
   go_wp2_with fail
   refine (hS x1 A1 d1 P _ HM.out HV1.out).mono ?_
   rintro e w1 ⟨rfl,hx1⟩
   have HX1:=Lib.hid (HW.out.trans' hx1)
   clear hx1
   have HDC:=Lib.hid (HD.out.trans (allsB_cons _ _ _))
   generalize allB formedB x1=bb at *
   cases bb
   ·go_wp2_with fail
    go_ret
    exact ⟨ret_bool (by rw [HDC.out];rfl),HX0.out.trans' HX1.out⟩
   ·go_wp2_with fail
    go_roundw
    case rel=>exact ⟨k+1,by omega,by go_num,HX1.out,by rw [HDC.out];rfl⟩
    case measure=>simp [intOf];omega
  ·go_wp2_with fail
   go_ret
   exact ⟨ret_bool (by rw [HT.out,drop_nil (by omega),allsB_nil]),HX0.out.trans' HW.out⟩
set_option maxRecDepth 100000 in
set_option maxHeartbeats 1000000 in
theorem refFormed_k3c (N:Nat)(x:GV)(A:Option Addr)(c:Nat)(P:Nat→Prop)(w:World)(hN:gsz x<N+1)(hx:VAt w P x A c)(hk:x.kind=3)(he:capB x.s=false) :
  Calls Tryz.prog 152 #[vagg x A c] w (RetE (.bool (allB formedB x)) w):=by
 have HX:=Lib.hid hx
 have HN:=Lib.hid (show ∀ z ∈ x.kids,gsz z<N from fun z hz=>by have:=gsz_kid hz;omega)
 have HSZ:=Lib.hid hx.s
 have hx4:=hx.len
 have hx5:=hx.cap
 clear hx
 have t0:(x.kind == 0)=false:=beq_eq_false_iff_ne.2 (by omega)
 have t1:(x.kind == 1)=false:=beq_eq_false_iff_ne.2 (by omega)
 have t2:(x.kind == 2)=false:=beq_eq_false_iff_ne.2 (by omega)
 have t3:(x.kind == 3)=true:=beq_iff_eq.2 hk
 have HC:=Lib.hid (show allB formedB x=false by rw [allB_eq];simp [formedB,hk,he])
 clear hk
 go_enter Tryz.func152,Tryz.ntmps152
 go_wp2_with (go_at_call 187;refine (capital187_any _ _ HSZ.out).mono ?_;rintro e w' ⟨rfl,rfl⟩)
 go_ret
 exact ⟨ret_bool (by rw [HC.out]),(Ext.refl _).alloc' _⟩
set_option maxRecDepth 100000 in
set_option maxHeartbeats 1000000 in
theorem refFormed_k3n (N:Nat)(x:GV)(A:Option Addr)(c:Nat)(P:Nat→Prop)(w:World)(hN:gsz x<N+1)(hx:VAt w P x A c)(hk:x.kind=3)(he:capB x.s=true)(hn:¬ x.n=0) :
  Calls Tryz.prog 152 #[vagg x A c] w (RetE (.bool (allB formedB x)) w):=by
 have HX:=Lib.hid hx
 have HN:=Lib.hid (show ∀ z ∈ x.kids,gsz z<N from fun z hz=>by have:=gsz_kid hz;omega)
 have HSZ:=Lib.hid hx.s
 have hx4:=hx.len
 have hx5:=hx.cap
 clear hx
 have t0:(x.kind == 0)=false:=beq_eq_false_iff_ne.2 (by omega)
 have t1:(x.kind == 1)=false:=beq_eq_false_iff_ne.2 (by omega)
 have t2:(x.kind == 2)=false:=beq_eq_false_iff_ne.2 (by omega)
 have t3:(x.kind == 3)=true:=beq_iff_eq.2 hk
 have hne:(x.n != 0)=true:=bne_iff_ne.2 hn
 have HC:=Lib.hid (show allB formedB x=false by rw [allB_eq];simp [formedB,hk,he,hn])
 clear hk
 go_enter Tryz.func152,Tryz.ntmps152
 go_wp2_with (go_at_call 187;refine (capital187_any _ _ HSZ.out).mono ?_;rintro e w' ⟨rfl,rfl⟩)
 go_ret
 exact ⟨ret_bool (by rw [HC.out]),(Ext.refl _).alloc' _⟩
set_option maxRecDepth 100000 in
set_option maxHeartbeats 1000000 in
theorem refFormed_k3 (N:Nat)(hS:AllSaid 152 (fun b=>b) formedB N)(x:GV)(A:Option Addr)(c:Nat)(P:Nat→Prop)(w:World)(hN:gsz x<N+1)(hx:VAt w P x A c)(hk:x.kind=3)(he:capB x.s=true)(hn:x.n=0) :
  Calls Tryz.prog 152 #[vagg x A c] w (RetE (.bool (allB formedB x)) w):=by
 have HX:=Lib.hid hx
 have HN:=Lib.hid (show ∀ z ∈ x.kids,gsz z<N from fun z hz=>by have:=gsz_kid hz;omega)
 have HSZ:=Lib.hid hx.s
 have hx4:=hx.len
 have hx5:=hx.cap
 clear hx
 have t0:(x.kind == 0)=false:=beq_eq_false_iff_ne.2 (by omega)
 have t1:(x.kind == 1)=false:=beq_eq_false_iff_ne.2 (by omega)
 have t2:(x.kind == 2)=false:=beq_eq_false_iff_ne.2 (by omega)
 have t3:(x.kind == 3)=true:=beq_iff_eq.2 hk
 have hne:(x.n != 0)=false:=by simp [hn]
 have HNN:=Lib.hid hn
 have HC:=Lib.hid (show allB formedB x=allsB formedB (x.kids.drop 0) by rw [allB_eq];simp [formedB,hk,he,hn];try omega)
 have hlo:decide (x.kind<0)=false:=by simp;omega
 have hhi:decide (3<x.kind)=false:=by simp;omega
 clear hk hn
 go_enter Tryz.func152,Tryz.ntmps152
 go_wp2_with (go_at_call 187;refine (capital187_any _ _ HSZ.out).mono ?_;rintro e w' ⟨rfl,rfl⟩)
 have HX0:Hid (Ext w (w.alloc (.cells #[.int .i64 x.kind,.int .i64 x.n,.string x.s,.slice A x.kids.length c] 85))):=(Ext.refl _).alloc' _
 have hb1:=(Blk.new w 85 #[.int .i64 x.kind,.int .i64 x.n,.string x.s,.slice A x.kids.length c]).cell' (u:=.slice A x.kids.length c) 3 rfl
 generalize w.alloc (.cells #[.int .i64 x.kind,.int .i64 x.n,.string x.s,.slice A x.kids.length c] 85)=W at *
 go_loopw [4] (fun i wr=>AllInv formedB x W i wr) (fun i _=>x.kids.length - (intOf i).toNat)
 case atStart=>exact ⟨0,Nat.zero_le _,rfl,Ext.refl _,HC.out⟩
 case round =>
  obtain ⟨k,hk,rfl,hx,ht⟩:=hrel
  have HT:=Lib.hid ht
  have hc1:=cell_ext hx hb1
  have HW:=Lib.hid hx
  have HXK:=Lib.hid (HX.out.kids.ext (HX0.out.trans' hx))
  clear ht hx
  by_cases hlt:k<x.kids.length
  ·have HD:=Lib.hid (show allB formedB x=allsB formedB (x.kids.getD k default :: x.kids.drop (k+1)) by rw [HT.out,← drop_getD default hlt])
   obtain ⟨b1,o1,c1,A1,d1,e1,-,-,-,hv1,g10,g11,g12,g13⟩:=HXK.out.at_ hlt
   cases e1
   have HM:=Lib.hid (HN.out _ (getD_mem (d:=default) hlt))
   have HV1:=Lib.hid hv1
   clear hv1 HXK hb1
   generalize x.kids.getD k default=x1 at *
   go_wp2_with fail
   refine (hS x1 A1 d1 P _ HM.out HV1.out).mono ?_
   rintro e w1 ⟨rfl,hx1⟩
   have HX1:=Lib.hid (HW.out.trans' hx1)
   clear hx1
   have HDC:=Lib.hid (HD.out.trans (allsB_cons _ _ _))
   generalize allB formedB x1=bb at *
   cases bb
   ·go_wp2_with fail
    go_ret
    exact ⟨ret_bool (by rw [HDC.out];rfl),HX0.out.trans' HX1.out⟩
   ·go_wp2_with fail
    go_roundw
    case rel=>exact ⟨k+1,by omega,by go_num,HX1.out,by rw [HDC.out];rfl⟩
    case measure=>simp [intOf];omega
  ·go_wp2_with fail
   go_ret
   exact ⟨ret_bool (by rw [HT.out,drop_nil (by omega),allsB_nil]),HX0.out.trans' HW.out⟩
set_option maxRecDepth 100000 in
set_option maxHeartbeats 1000000 in
theorem refFormed_lo (N:Nat)(x:GV)(A:Option Addr)(c:Nat)(P:Nat→Prop)(w:World)(hN:gsz x<N+1)(hx:VAt w P x A c)(hk:x.kind<0) :
  Calls Tryz.prog 152 #[vagg x A c] w (RetE (.bool (allB formedB x)) w):=by
 have HX:=Lib.hid hx
 have HN:=Lib.hid (show ∀ z ∈ x.kids,gsz z<N from fun z hz=>by have:=gsz_kid hz;omega)
 have HSZ:=Lib.hid hx.s
 have hx4:=hx.len
 have hx5:=hx.cap
 clear hx
 have t0:(x.kind == 0)=false:=beq_eq_false_iff_ne.2 (by omega)
 have t1:(x.kind == 1)=false:=beq_eq_false_iff_ne.2 (by omega)
 have t2:(x.kind == 2)=false:=beq_eq_false_iff_ne.2 (by omega)
 have t3:(x.kind == 3)=false:=beq_eq_false_iff_ne.2 (by omega)
 have HC:=Lib.hid (show allB formedB x=false by rw [allB_eq];simp [formedB,show ¬ x.kind=0 by omega,show ¬ x.kind=1 by omega,show ¬ x.kind=2 by omega,show ¬ x.kind=3 by omega])
 go_enter Tryz.func152,Tryz.ntmps152
 go_wp2_with (go_at_call 187;refine (capital187_any _ _ HSZ.out).mono ?_;rintro e w' ⟨rfl,rfl⟩)
 go_ret
 exact ⟨ret_bool (by rw [HC.out]),(Ext.refl _).alloc' _⟩
set_option maxRecDepth 100000 in
set_option maxHeartbeats 1000000 in
theorem refFormed_hi (N:Nat)(x:GV)(A:Option Addr)(c:Nat)(P:Nat→Prop)(w:World)(hN:gsz x<N+1)(hx:VAt w P x A c)(hk:3<x.kind) :
  Calls Tryz.prog 152 #[vagg x A c] w (RetE (.bool (allB formedB x)) w):=by
 have HX:=Lib.hid hx
 have HN:=Lib.hid (show ∀ z ∈ x.kids,gsz z<N from fun z hz=>by have:=gsz_kid hz;omega)
 have HSZ:=Lib.hid hx.s
 have hx4:=hx.len
 have hx5:=hx.cap
 clear hx
 have t0:(x.kind == 0)=false:=beq_eq_false_iff_ne.2 (by omega)
 have t1:(x.kind == 1)=false:=beq_eq_false_iff_ne.2 (by omega)
 have t2:(x.kind == 2)=false:=beq_eq_false_iff_ne.2 (by omega)
 have t3:(x.kind == 3)=false:=beq_eq_false_iff_ne.2 (by omega)
 have hlo:decide (x.kind<0)=false:=by simp;omega
 have HC:=Lib.hid (show allB formedB x=false by rw [allB_eq];simp [formedB,show ¬ x.kind=0 by omega,show ¬ x.kind=1 by omega,show ¬ x.kind=2 by omega,show ¬ x.kind=3 by omega])
 go_enter Tryz.func152,Tryz.ntmps152
 go_wp2_with (go_at_call 187;refine (capital187_any _ _ HSZ.out).mono ?_;rintro e w' ⟨rfl,rfl⟩)
 go_ret
 exact ⟨ret_bool (by rw [HC.out]),(Ext.refl _).alloc' _⟩
end Go.Proofs.YtkoeecdjijfjnaaGreat
