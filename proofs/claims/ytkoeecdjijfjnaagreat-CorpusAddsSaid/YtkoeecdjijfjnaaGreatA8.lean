/- Contracts of functions, plain laws. Conditions: none. -/
import Derived.Test.YtkoeecdjijfjnaaGreatA7
set_option maxRecDepth 100000
set_option maxHeartbeats 8000000
namespace Go.Proofs.YtkoeecdjijfjnaaGreat
open Go.RowKit
mutual
def dY (p:GV->Bool):GV->Bool
 | .mk k n s l=>p (.mk k n s l) && eU p l
def eU (p:GV->Bool):List GV->Bool
 | []=>true
 | x :: xs=>dY p x && eU p xs
end
theorem cI (p:GV->Bool)(x:GV):dY p x=(p x && eU p x.kids):=by
 obtain ⟨k,n,s,l⟩:=x;simp only [dY,GV.kids]
theorem eE (p:GV->Bool)(x:GV)(xs:List GV):eU p (x :: xs)=(dY p x && eU p xs):=by simp only [eU]
theorem eB (p:GV->Bool):eU p []=true:=by simp only [eU]
mutual
def rsz:GV->Int
 | .mk _ _ _ l=>xF 1 l
def xF:Int->List GV->Int
 | n,[]=>n
 | n,x :: xs=>xF (wrap64 (n+rsz x)) xs
end
theorem nI (x:GV):rsz x=xF 1 x.kids:=by obtain ⟨k,n,s,l⟩:=x;simp only [rsz,GV.kids]
theorem gR (n:Int)(x:GV)(xs:List GV):xF n (x :: xs)=xF (wrap64 (n+rsz x)) xs:=by simp only [xF]
theorem fP (n:Int):xF n []=n:=by simp only [xF]
def uS (N:Nat):Prop:=∀ (x:GV)(A:Option Addr)(c:Nat)(P:Nat->Prop)(w:World),gsz x<N->VAt w P x A c ->
  Calls Tryz.prog 111 #[eI x A c] w (dC (.int .i64 (rsz x)) w)
def aN9 (x:GV)(W:World)(n i:Value)(wr:World):Prop:=∃ (k:Nat)(m:Int),k<=x.kids.length∧i=.int .i64 k∧n=.int .i64 m∧Ext W wr∧rsz x=xF m (x.kids.drop k)
theorem vR (N:Nat)(hS:uS N):uS (N+1):=by
 intro x A c P w hN hx;have HX:=aV4 hx;have HN:=aV4 (show ∀ z ∈ x.kids,gsz z<N from fun z hz=>by have:=cT hz;omega);have HC:=aV4 (nI x);have hx4:=hx.len;have hx5:=hx.cap;clear hx;go_enter Tryz.func111,Tryz.ntmps111;go_wp2_with fail;have HX0:Hid (Ext w (w.alloc (.cells #[.int .i64 x.kind,.int .i64 x.n,.string x.s,.slice A x.kids.length c] 85))):=(Ext.refl _).alloc' _;have hb1:=(Blk.new w 85 #[.int .i64 x.kind,.int .i64 x.n,.string x.s,.slice A x.kids.length c]).cell' (u:=.slice A x.kids.length c) 3 rfl;generalize w.alloc (.cells #[.int .i64 x.kind,.int .i64 x.n,.string x.s,.slice A x.kids.length c] 85)=W at *;go_loopw [3,4] (fun n i wr=>aN9 x W n i wr) (fun _ i _=>x.kids.length - (intOf i).toNat)
 case atStart=>exact ⟨0,1,Nat.zero_le _,rfl,rfl,Ext.refl _,HC.out⟩
 case round =>
  obtain ⟨k,m,hk,rfl,rfl,hx,ht⟩:=hrel;have HT:=aV4 ht;have hc1:=aB hx hb1;have HW:=aV4 hx;have HXK:=aV4 (HX.out.kids.ext (HX0.out.trans' hx));clear ht hx
  by_cases hlt:k<x.kids.length
  ·have HD:=aV4 (show rsz x=xF m (x.kids.getD k default :: x.kids.drop (k+1)) by rw [HT.out,<- aH default hlt])
   obtain ⟨b1,o1,c1,A1,d1,e1,-,-,-,hv1,g10,g11,g12,g13⟩:=HXK.out.at_ hlt
   cases e1
   have HM:=aV4 (HN.out _ (aG (d:=default) hlt));have HV1:=aV4 hv1;clear hv1 HXK hb1;generalize x.kids.getD k default=x1 at *;go_wp2_with fail;refine (hS x1 A1 d1 P _ HM.out HV1.out).mono ?_;rintro e w1 ⟨rfl,hx1⟩;have HX1:=aV4 (HW.out.trans' hx1);clear hx1;go_wp2_with fail;go_roundw
   case rel=>exact ⟨k+1,_,by omega,by go_num,rfl,HX1.out,by rw [HD.out,gR]⟩
   case measure=>simp [intOf];omega
  ·go_wp2_with fail
   go_ret;exact ⟨aM (by rw [HT.out,drop_nil (by omega),fP]),HX0.out.trans' HW.out⟩
theorem xV (N:Nat):uS N:=by
 induction N with
 | zero=>intro x A c P w hN;omega
 | succ N ih=>exact vR N ih
theorem pD (x:GV)(A:Option Addr)(c:Nat)(P:Nat->Prop)(w:World)(hx:VAt w P x A c) :
  Calls Tryz.prog 111 #[eI x A c] w (dC (.int .i64 (rsz x)) w):=xV (gsz x+1) x A c P w (by omega) hx
def iG (f:Nat)(r:Bool->Bool)(p:GV->Bool)(N:Nat):Prop:=∀ (x:GV)(A:Option Addr)(c:Nat)(P:Nat->Prop)(w:World),gsz x<N->VAt w P x A c ->
  Calls Tryz.prog f #[eI x A c] w (dC (.bool (r (dY p x))) w)
def qS (p:GV->Bool)(x:GV)(W:World)(i:Value)(wr:World):Prop:=∃ (k:Nat),k<=x.kids.length∧i=.int .i64 k∧Ext W wr∧dY p x=eU p (x.kids.drop k)
def cF (x:GV):Bool:=!(decide (x.kind=2∧256<x.kids.length) || decide (x.kind=3∧16<x.kids.length))
theorem vQ (N:Nat)(hS:iG 153 (! ·) cF N):iG 153 (! ·) cF (N+1):=by
 intro x A c P w hN hx;have HX:=aV4 hx;have HN:=aV4 (show ∀ z ∈ x.kids,gsz z<N from fun z hz=>by have:=cT hz;omega);have hx4:=hx.len;have hx5:=hx.cap;clear hx
 by_cases h2:x.kind=2
 ·have t2:(x.kind == 2)=true:=aV6 h2
  have t3:(x.kind == 3)=false:=aV5 (by omega)
  by_cases hw:256<x.kids.length
  ·have HC:=aV4 (show dY cF x=false by rw [cI];simp [cF,h2,hw])
   clear h2;go_enter Tryz.func153,Tryz.ntmps153;go_wp2_with fail;go_ret;exact ⟨aF (by rw [HC.out];rfl),(Ext.refl _).alloc' _⟩
  ·have HC:=aV4 (show dY cF x=eU cF (x.kids.drop 0) by rw [cI];simp [cF,h2,hw])
   have td:decide (256<(x.kids.length:Int))=false:=by simp;omega
   clear h2;go_enter Tryz.func153,Tryz.ntmps153;go_wp2_with fail;have HX0:Hid (Ext w (w.alloc (.cells #[.int .i64 x.kind,.int .i64 x.n,.string x.s,.slice A x.kids.length c] 85))):=(Ext.refl _).alloc' _;have hb1:=(Blk.new w 85 #[.int .i64 x.kind,.int .i64 x.n,.string x.s,.slice A x.kids.length c]).cell' (u:=.slice A x.kids.length c) 3 rfl;generalize w.alloc (.cells #[.int .i64 x.kind,.int .i64 x.n,.string x.s,.slice A x.kids.length c] 85)=W at *;go_loopw [3] (fun i wr=>qS cF x W i wr) (fun i _=>x.kids.length - (intOf i).toNat)
   case atStart=>exact ⟨0,Nat.zero_le _,rfl,Ext.refl _,HC.out⟩
   case round =>
    obtain ⟨k,hk,rfl,hx,ht⟩:=hrel;have HT:=aV4 ht;have hc1:=aB hx hb1;have HW:=aV4 hx;have HXK:=aV4 (HX.out.kids.ext (HX0.out.trans' hx));clear ht hx
    by_cases hlt:k<x.kids.length
    ·have HD:=aV4 (show dY cF x=eU cF (x.kids.getD k default :: x.kids.drop (k+1)) by rw [HT.out,<- aH default hlt])
     obtain ⟨b1,o1,c1,A1,d1,e1,-,-,-,hv1,g10,g11,g12,g13⟩:=HXK.out.at_ hlt
     cases e1
     have HM:=aV4 (HN.out _ (aG (d:=default) hlt));have HV1:=aV4 hv1;clear hv1 HXK hb1;generalize x.kids.getD k default=x1 at *;go_wp2_with fail;refine (hS x1 A1 d1 P _ HM.out HV1.out).mono ?_;rintro e w1 ⟨rfl,hx1⟩;have HX1:=aV4 (HW.out.trans' hx1);clear hx1;have HDC:=aV4 (HD.out.trans (eE _ _ _));generalize dY cF x1=bb at *
     cases bb
     ·go_wp2_with fail
      go_ret;exact ⟨aF (by rw [HDC.out];rfl),HX0.out.trans' HX1.out⟩
     ·go_wp2_with fail
      go_roundw
      case rel=>exact ⟨k+1,by omega,by go_num,HX1.out,by rw [HDC.out];rfl⟩
      case measure=>simp [intOf];omega
    ·go_wp2_with fail
     go_ret;exact ⟨aF (by rw [HT.out,drop_nil (by omega),eB];rfl),HX0.out.trans' HW.out⟩
 by_cases h3:x.kind=3
 ·have t2:(x.kind == 2)=false:=aV5 (by omega)
  have t3:(x.kind == 3)=true:=aV6 h3
  by_cases hw:16<x.kids.length
  ·have HC:=aV4 (show dY cF x=false by rw [cI];simp [cF,h3,hw])
   clear h2 h3;go_enter Tryz.func153,Tryz.ntmps153;go_wp2_with fail;go_ret;exact ⟨aF (by rw [HC.out];rfl),(Ext.refl _).alloc' _⟩
  ·have HC:=aV4 (show dY cF x=eU cF (x.kids.drop 0) by rw [cI];simp [cF,h3,hw])
   have td:decide (16<(x.kids.length:Int))=false:=by simp;omega
   clear h2 h3;go_enter Tryz.func153,Tryz.ntmps153;go_wp2_with fail;have HX0:Hid (Ext w (w.alloc (.cells #[.int .i64 x.kind,.int .i64 x.n,.string x.s,.slice A x.kids.length c] 85))):=(Ext.refl _).alloc' _;have hb1:=(Blk.new w 85 #[.int .i64 x.kind,.int .i64 x.n,.string x.s,.slice A x.kids.length c]).cell' (u:=.slice A x.kids.length c) 3 rfl;generalize w.alloc (.cells #[.int .i64 x.kind,.int .i64 x.n,.string x.s,.slice A x.kids.length c] 85)=W at *;go_loopw [3] (fun i wr=>qS cF x W i wr) (fun i _=>x.kids.length - (intOf i).toNat)
   case atStart=>exact ⟨0,Nat.zero_le _,rfl,Ext.refl _,HC.out⟩
   case round =>
    obtain ⟨k,hk,rfl,hx,ht⟩:=hrel;have HT:=aV4 ht;have hc1:=aB hx hb1;have HW:=aV4 hx;have HXK:=aV4 (HX.out.kids.ext (HX0.out.trans' hx));clear ht hx
    by_cases hlt:k<x.kids.length
    ·have HD:=aV4 (show dY cF x=eU cF (x.kids.getD k default :: x.kids.drop (k+1)) by rw [HT.out,<- aH default hlt])
     obtain ⟨b1,o1,c1,A1,d1,e1,-,-,-,hv1,g10,g11,g12,g13⟩:=HXK.out.at_ hlt
     cases e1
     have HM:=aV4 (HN.out _ (aG (d:=default) hlt));have HV1:=aV4 hv1;clear hv1 HXK hb1;generalize x.kids.getD k default=x1 at *;go_wp2_with fail;refine (hS x1 A1 d1 P _ HM.out HV1.out).mono ?_;rintro e w1 ⟨rfl,hx1⟩;have HX1:=aV4 (HW.out.trans' hx1);clear hx1;have HDC:=aV4 (HD.out.trans (eE _ _ _));generalize dY cF x1=bb at *
     cases bb
     ·go_wp2_with fail
      go_ret;exact ⟨aF (by rw [HDC.out];rfl),HX0.out.trans' HX1.out⟩
     ·go_wp2_with fail
      go_roundw
      case rel=>exact ⟨k+1,by omega,by go_num,HX1.out,by rw [HDC.out];rfl⟩
      case measure=>simp [intOf];omega
    ·go_wp2_with fail
     go_ret;exact ⟨aF (by rw [HT.out,drop_nil (by omega),eB];rfl),HX0.out.trans' HW.out⟩
 ·have t2:(x.kind == 2)=false:=aV5 (by omega)
  have t3:(x.kind == 3)=false:=aV5 (by omega)
  ·have HC:=aV4 (show dY cF x=eU cF (x.kids.drop 0) by rw [cI];simp [cF,h2,h3])
   clear h2 h3;go_enter Tryz.func153,Tryz.ntmps153;go_wp2_with fail;have HX0:Hid (Ext w (w.alloc (.cells #[.int .i64 x.kind,.int .i64 x.n,.string x.s,.slice A x.kids.length c] 85))):=(Ext.refl _).alloc' _;have hb1:=(Blk.new w 85 #[.int .i64 x.kind,.int .i64 x.n,.string x.s,.slice A x.kids.length c]).cell' (u:=.slice A x.kids.length c) 3 rfl;generalize w.alloc (.cells #[.int .i64 x.kind,.int .i64 x.n,.string x.s,.slice A x.kids.length c] 85)=W at *;go_loopw [3] (fun i wr=>qS cF x W i wr) (fun i _=>x.kids.length - (intOf i).toNat)
   case atStart=>exact ⟨0,Nat.zero_le _,rfl,Ext.refl _,HC.out⟩
   case round =>
    obtain ⟨k,hk,rfl,hx,ht⟩:=hrel;have HT:=aV4 ht;have hc1:=aB hx hb1;have HW:=aV4 hx;have HXK:=aV4 (HX.out.kids.ext (HX0.out.trans' hx));clear ht hx
    by_cases hlt:k<x.kids.length
    ·have HD:=aV4 (show dY cF x=eU cF (x.kids.getD k default :: x.kids.drop (k+1)) by rw [HT.out,<- aH default hlt])
     obtain ⟨b1,o1,c1,A1,d1,e1,-,-,-,hv1,g10,g11,g12,g13⟩:=HXK.out.at_ hlt
     cases e1
     have HM:=aV4 (HN.out _ (aG (d:=default) hlt));have HV1:=aV4 hv1;clear hv1 HXK hb1;generalize x.kids.getD k default=x1 at *;go_wp2_with fail;refine (hS x1 A1 d1 P _ HM.out HV1.out).mono ?_;rintro e w1 ⟨rfl,hx1⟩;have HX1:=aV4 (HW.out.trans' hx1);clear hx1;have HDC:=aV4 (HD.out.trans (eE _ _ _));generalize dY cF x1=bb at *
     cases bb
     ·go_wp2_with fail
      go_ret;exact ⟨aF (by rw [HDC.out];rfl),HX0.out.trans' HX1.out⟩
     ·go_wp2_with fail
      go_roundw
      case rel=>exact ⟨k+1,by omega,by go_num,HX1.out,by rw [HDC.out];rfl⟩
      case measure=>simp [intOf];omega
    ·go_wp2_with fail
     go_ret;exact ⟨aF (by rw [HT.out,drop_nil (by omega),eB];rfl),HX0.out.trans' HW.out⟩
theorem xT (N:Nat):iG 153 (! ·) cF N:=by
 induction N with
 | zero=>intro x A c P w hN;omega
 | succ N ih=>exact vQ N ih
theorem tR (N:Nat)(x:GV)(A:Option Addr)(c:Nat)(P:Nat->Prop)(w:World)(hN:gsz x<N+1)(hx:VAt w P x A c)(hk:x.kind=0)(he:¬ x.s.toList=[]) :
  Calls Tryz.prog 152 #[eI x A c] w (dC (.bool (dY aJ x)) w):=by
 have HX:=aV4 hx;have HN:=aV4 (show ∀ z ∈ x.kids,gsz z<N from fun z hz=>by have:=cT hz;omega);have HSZ:=aV4 hx.s;have hx4:=hx.len;have hx5:=hx.cap;clear hx;have t0:(x.kind == 0)=true:=aV6 hk;have t1:(x.kind == 1)=false:=aV5 (by omega);have t2:(x.kind == 2)=false:=aV5 (by omega);have t3:(x.kind == 3)=false:=aV5 (by omega);have he1:x.s.toList.isEmpty=false:=by simpa using he
 have HC:=aV4 (show dY aJ x=false by rw [cI];simp [aJ,bC,hk,he]);clear hk;go_enter Tryz.func152,Tryz.ntmps152;go_wp2_with (go_at_call 187;refine (bA _ _ HSZ.out).mono ?_;rintro e w' ⟨rfl,rfl⟩);go_ret;exact ⟨aF (by rw [HC.out]),(Ext.refl _).alloc' _⟩
theorem tQ (N:Nat)(x:GV)(A:Option Addr)(c:Nat)(P:Nat->Prop)(w:World)(hN:gsz x<N+1)(hx:VAt w P x A c)(hk:x.kind=0)(he:x.s.toList=[])(hl:0<x.kids.length) :
  Calls Tryz.prog 152 #[eI x A c] w (dC (.bool (dY aJ x)) w):=by
 have HX:=aV4 hx;have HN:=aV4 (show ∀ z ∈ x.kids,gsz z<N from fun z hz=>by have:=cT hz;omega);have HSZ:=aV4 hx.s;have hx4:=hx.len;have hx5:=hx.cap;clear hx;have t0:(x.kind == 0)=true:=aV6 hk;have t1:(x.kind == 1)=false:=aV5 (by omega);have t2:(x.kind == 2)=false:=aV5 (by omega);have t3:(x.kind == 3)=false:=aV5 (by omega);have he1:x.s.toList.isEmpty=true:=by simp [he]
 have hl1:decide (0<(x.kids.length:Int))=true:=aV7 (by omega);have HC:=aV4 (show dY aJ x=false by rw [cI];simp [aJ,bC,hk,he,Nat.ne_of_gt hl]);clear hk;go_enter Tryz.func152,Tryz.ntmps152;go_wp2_with (go_at_call 187;refine (bA _ _ HSZ.out).mono ?_;rintro e w' ⟨rfl,rfl⟩);go_ret;exact ⟨aF (by rw [HC.out]),(Ext.refl _).alloc' _⟩
theorem vW (N:Nat)(_:iG 152 (fun b=>b) aJ N)(x:GV)(A:Option Addr)(c:Nat)(P:Nat->Prop)(w:World)(hN:gsz x<N+1)(hx:VAt w P x A c)(hk:x.kind=0)(he:x.s.toList=[])(hl:x.kids.length<=0) :
  Calls Tryz.prog 152 #[eI x A c] w (dC (.bool (dY aJ x)) w):=by
 have HX:=aV4 hx;have HN:=aV4 (show ∀ z ∈ x.kids,gsz z<N from fun z hz=>by have:=cT hz;omega);have HSZ:=aV4 hx.s;have hx4:=hx.len;have hx5:=hx.cap;clear hx;have t0:(x.kind == 0)=true:=aV6 hk;have t1:(x.kind == 1)=false:=aV5 (by omega);have t2:(x.kind == 2)=false:=aV5 (by omega);have t3:(x.kind == 3)=false:=aV5 (by omega);have he1:x.s.toList.isEmpty=true:=by simp [he]
 have hl1:decide (0<(x.kids.length:Int))=false:=aV8 (by omega);have HC:=aV4 (show dY aJ x=eU aJ (x.kids.drop 0) by rw [cI];simp [aJ,bC,hk,he,List.length_eq_zero_iff.1 (Nat.le_zero.1 hl)];try omega);have hlo:decide (x.kind<0)=false:=by simp;omega
 have hhi:decide (3<x.kind)=false:=by simp;omega
 clear hk;go_enter Tryz.func152,Tryz.ntmps152;go_wp2_with (go_at_call 187;refine (bA _ _ HSZ.out).mono ?_;rintro e w' ⟨rfl,rfl⟩);have HX0:Hid (Ext w (w.alloc (.cells #[.int .i64 x.kind,.int .i64 x.n,.string x.s,.slice A x.kids.length c] 85))):=(Ext.refl _).alloc' _;have hb1:=(Blk.new w 85 #[.int .i64 x.kind,.int .i64 x.n,.string x.s,.slice A x.kids.length c]).cell' (u:=.slice A x.kids.length c) 3 rfl;generalize w.alloc (.cells #[.int .i64 x.kind,.int .i64 x.n,.string x.s,.slice A x.kids.length c] 85)=W at *;go_loopw [4] (fun i wr=>qS aJ x W i wr) (fun i _=>x.kids.length - (intOf i).toNat)
 case atStart=>exact ⟨0,Nat.zero_le _,rfl,Ext.refl _,HC.out⟩
 case round =>
  obtain ⟨k,hk,rfl,hx,ht⟩:=hrel;have HT:=aV4 ht;have hc1:=aB hx hb1;have HW:=aV4 hx;have HXK:=aV4 (HX.out.kids.ext (HX0.out.trans' hx));clear ht hx
  by_cases hlt:k<x.kids.length
  ·exact absurd hlt (by omega)
  ·go_wp2_with fail
   go_ret;exact ⟨aF (by rw [HT.out,drop_nil (by omega),eB]),HX0.out.trans' HW.out⟩
theorem tP (N:Nat)(x:GV)(A:Option Addr)(c:Nat)(P:Nat->Prop)(w:World)(hN:gsz x<N+1)(hx:VAt w P x A c)(hk:x.kind=1)(he:¬ x.s.toList=[]) :
  Calls Tryz.prog 152 #[eI x A c] w (dC (.bool (dY aJ x)) w):=by
 have HX:=aV4 hx;have HN:=aV4 (show ∀ z ∈ x.kids,gsz z<N from fun z hz=>by have:=cT hz;omega);have HSZ:=aV4 hx.s;have hx4:=hx.len;have hx5:=hx.cap;clear hx;have t0:(x.kind == 0)=false:=aV5 (by omega);have t1:(x.kind == 1)=true:=aV6 hk;have t2:(x.kind == 2)=false:=aV5 (by omega);have t3:(x.kind == 3)=false:=aV5 (by omega);have he1:x.s.toList.isEmpty=false:=by simpa using he
 have HC:=aV4 (show dY aJ x=false by rw [cI];simp [aJ,bC,hk,he]);clear hk;go_enter Tryz.func152,Tryz.ntmps152;go_wp2_with (go_at_call 187;refine (bA _ _ HSZ.out).mono ?_;rintro e w' ⟨rfl,rfl⟩);go_ret;exact ⟨aF (by rw [HC.out]),(Ext.refl _).alloc' _⟩
theorem tO (N:Nat)(x:GV)(A:Option Addr)(c:Nat)(P:Nat->Prop)(w:World)(hN:gsz x<N+1)(hx:VAt w P x A c)(hk:x.kind=1)(he:x.s.toList=[])(hl:0<x.kids.length) :
  Calls Tryz.prog 152 #[eI x A c] w (dC (.bool (dY aJ x)) w):=by
 have HX:=aV4 hx;have HN:=aV4 (show ∀ z ∈ x.kids,gsz z<N from fun z hz=>by have:=cT hz;omega);have HSZ:=aV4 hx.s;have hx4:=hx.len;have hx5:=hx.cap;clear hx;have t0:(x.kind == 0)=false:=aV5 (by omega);have t1:(x.kind == 1)=true:=aV6 hk;have t2:(x.kind == 2)=false:=aV5 (by omega);have t3:(x.kind == 3)=false:=aV5 (by omega);have he1:x.s.toList.isEmpty=true:=by simp [he]
 have hl1:decide (0<(x.kids.length:Int))=true:=aV7 (by omega);have HC:=aV4 (show dY aJ x=false by rw [cI];simp [aJ,bC,hk,he,Nat.ne_of_gt hl]);clear hk;go_enter Tryz.func152,Tryz.ntmps152;go_wp2_with (go_at_call 187;refine (bA _ _ HSZ.out).mono ?_;rintro e w' ⟨rfl,rfl⟩);go_ret;exact ⟨aF (by rw [HC.out]),(Ext.refl _).alloc' _⟩
theorem tM (N:Nat)(x:GV)(A:Option Addr)(c:Nat)(P:Nat->Prop)(w:World)(hN:gsz x<N+1)(hx:VAt w P x A c)(hk:x.kind=1)(he:x.s.toList=[])(hl:x.kids.length<=0)(hn:x.n<0) :
  Calls Tryz.prog 152 #[eI x A c] w (dC (.bool (dY aJ x)) w):=by
 have HX:=aV4 hx;have HN:=aV4 (show ∀ z ∈ x.kids,gsz z<N from fun z hz=>by have:=cT hz;omega);have HSZ:=aV4 hx.s;have hx4:=hx.len;have hx5:=hx.cap;clear hx;have t0:(x.kind == 0)=false:=aV5 (by omega);have t1:(x.kind == 1)=true:=aV6 hk;have t2:(x.kind == 2)=false:=aV5 (by omega);have t3:(x.kind == 3)=false:=aV5 (by omega);have he1:x.s.toList.isEmpty=true:=by simp [he]
 have hl1:decide (0<(x.kids.length:Int))=false:=aV8 (by omega);have hn0:decide (x.n<0)=true:=by first | exact aV7 (by omega) | exact aV8 (by omega)
 have HC:=aV4 (show dY aJ x=false by rw [cI];simp [aJ,bC,hk,he,List.length_eq_zero_iff.1 (Nat.le_zero.1 hl),show ¬ x.n=0 by omega,show ¬ x.n=1 by omega]);clear hk;go_enter Tryz.func152,Tryz.ntmps152;go_wp2_with (go_at_call 187;refine (bA _ _ HSZ.out).mono ?_;rintro e w' ⟨rfl,rfl⟩);go_ret;exact ⟨aF (by rw [HC.out]),(Ext.refl _).alloc' _⟩
theorem tN (N:Nat)(x:GV)(A:Option Addr)(c:Nat)(P:Nat->Prop)(w:World)(hN:gsz x<N+1)(hx:VAt w P x A c)(hk:x.kind=1)(he:x.s.toList=[])(hl:x.kids.length<=0)(hn:1<x.n) :
  Calls Tryz.prog 152 #[eI x A c] w (dC (.bool (dY aJ x)) w):=by
 have HX:=aV4 hx;have HN:=aV4 (show ∀ z ∈ x.kids,gsz z<N from fun z hz=>by have:=cT hz;omega);have HSZ:=aV4 hx.s;have hx4:=hx.len;have hx5:=hx.cap;clear hx;have t0:(x.kind == 0)=false:=aV5 (by omega);have t1:(x.kind == 1)=true:=aV6 hk;have t2:(x.kind == 2)=false:=aV5 (by omega);have t3:(x.kind == 3)=false:=aV5 (by omega);have he1:x.s.toList.isEmpty=true:=by simp [he]
 have hl1:decide (0<(x.kids.length:Int))=false:=aV8 (by omega);have hn0:decide (x.n<0)=false:=by first | exact aV7 (by omega) | exact aV8 (by omega)
 have hn1:decide (1<x.n)=true:=by first | exact aV7 (by omega) | exact aV8 (by omega)
 have HC:=aV4 (show dY aJ x=false by rw [cI];simp [aJ,bC,hk,he,List.length_eq_zero_iff.1 (Nat.le_zero.1 hl),show ¬ x.n=0 by omega,show ¬ x.n=1 by omega]);clear hk;go_enter Tryz.func152,Tryz.ntmps152;go_wp2_with (go_at_call 187;refine (bA _ _ HSZ.out).mono ?_;rintro e w' ⟨rfl,rfl⟩);go_ret;exact ⟨aF (by rw [HC.out]),(Ext.refl _).alloc' _⟩
theorem vV (N:Nat)(_:iG 152 (fun b=>b) aJ N)(x:GV)(A:Option Addr)(c:Nat)(P:Nat->Prop)(w:World)(hN:gsz x<N+1)(hx:VAt w P x A c)(hk:x.kind=1)(he:x.s.toList=[])(hl:x.kids.length<=0)(hn:0<=x.n)(hn2:x.n<=1) :
  Calls Tryz.prog 152 #[eI x A c] w (dC (.bool (dY aJ x)) w):=by
 have HX:=aV4 hx;have HN:=aV4 (show ∀ z ∈ x.kids,gsz z<N from fun z hz=>by have:=cT hz;omega);have HSZ:=aV4 hx.s;have hx4:=hx.len;have hx5:=hx.cap;clear hx;have t0:(x.kind == 0)=false:=aV5 (by omega);have t1:(x.kind == 1)=true:=aV6 hk;have t2:(x.kind == 2)=false:=aV5 (by omega);have t3:(x.kind == 3)=false:=aV5 (by omega);have he1:x.s.toList.isEmpty=true:=by simp [he]
 have hl1:decide (0<(x.kids.length:Int))=false:=aV8 (by omega);have hn0:decide (x.n<0)=false:=by first | exact aV7 (by omega) | exact aV8 (by omega)
 have hn1:decide (1<x.n)=false:=by first | exact aV7 (by omega) | exact aV8 (by omega)
 have HC:=aV4 (show dY aJ x=eU aJ (x.kids.drop 0) by rw [cI];simp [aJ,bC,hk,he,List.length_eq_zero_iff.1 (Nat.le_zero.1 hl)];try omega);have hlo:decide (x.kind<0)=false:=by simp;omega
 have hhi:decide (3<x.kind)=false:=by simp;omega
 clear hk;go_enter Tryz.func152,Tryz.ntmps152;go_wp2_with (go_at_call 187;refine (bA _ _ HSZ.out).mono ?_;rintro e w' ⟨rfl,rfl⟩);have HX0:Hid (Ext w (w.alloc (.cells #[.int .i64 x.kind,.int .i64 x.n,.string x.s,.slice A x.kids.length c] 85))):=(Ext.refl _).alloc' _;have hb1:=(Blk.new w 85 #[.int .i64 x.kind,.int .i64 x.n,.string x.s,.slice A x.kids.length c]).cell' (u:=.slice A x.kids.length c) 3 rfl;generalize w.alloc (.cells #[.int .i64 x.kind,.int .i64 x.n,.string x.s,.slice A x.kids.length c] 85)=W at *;go_loopw [4] (fun i wr=>qS aJ x W i wr) (fun i _=>x.kids.length - (intOf i).toNat)
 case atStart=>exact ⟨0,Nat.zero_le _,rfl,Ext.refl _,HC.out⟩
 case round =>
  obtain ⟨k,hk,rfl,hx,ht⟩:=hrel;have HT:=aV4 ht;have hc1:=aB hx hb1;have HW:=aV4 hx;have HXK:=aV4 (HX.out.kids.ext (HX0.out.trans' hx));clear ht hx
  by_cases hlt:k<x.kids.length
  ·exact absurd hlt (by omega)
  ·go_wp2_with fail
   go_ret;exact ⟨aF (by rw [HT.out,drop_nil (by omega),eB]),HX0.out.trans' HW.out⟩
theorem tK (N:Nat)(x:GV)(A:Option Addr)(c:Nat)(P:Nat->Prop)(w:World)(hN:gsz x<N+1)(hx:VAt w P x A c)(hk:x.kind=2)(he:¬ x.s.toList=[]) :
  Calls Tryz.prog 152 #[eI x A c] w (dC (.bool (dY aJ x)) w):=by
 have HX:=aV4 hx;have HN:=aV4 (show ∀ z ∈ x.kids,gsz z<N from fun z hz=>by have:=cT hz;omega);have HSZ:=aV4 hx.s;have hx4:=hx.len;have hx5:=hx.cap;clear hx;have t0:(x.kind == 0)=false:=aV5 (by omega);have t1:(x.kind == 1)=false:=aV5 (by omega);have t2:(x.kind == 2)=true:=aV6 hk;have t3:(x.kind == 3)=false:=aV5 (by omega);have he1:x.s.toList.isEmpty=false:=by simpa using he
 have HC:=aV4 (show dY aJ x=false by rw [cI];simp [aJ,bC,hk,he]);clear hk;go_enter Tryz.func152,Tryz.ntmps152;go_wp2_with (go_at_call 187;refine (bA _ _ HSZ.out).mono ?_;rintro e w' ⟨rfl,rfl⟩);go_ret;exact ⟨aF (by rw [HC.out]),(Ext.refl _).alloc' _⟩
theorem tJ (N:Nat)(x:GV)(A:Option Addr)(c:Nat)(P:Nat->Prop)(w:World)(hN:gsz x<N+1)(hx:VAt w P x A c)(hk:x.kind=2)(he:x.s.toList=[])(hn:¬ x.n=0) :
  Calls Tryz.prog 152 #[eI x A c] w (dC (.bool (dY aJ x)) w):=by
 have HX:=aV4 hx;have HN:=aV4 (show ∀ z ∈ x.kids,gsz z<N from fun z hz=>by have:=cT hz;omega);have HSZ:=aV4 hx.s;have hx4:=hx.len;have hx5:=hx.cap;clear hx;have t0:(x.kind == 0)=false:=aV5 (by omega);have t1:(x.kind == 1)=false:=aV5 (by omega);have t2:(x.kind == 2)=true:=aV6 hk;have t3:(x.kind == 3)=false:=aV5 (by omega);have he1:x.s.toList.isEmpty=true:=by simp [he]
 have hne:(x.n != 0)=true:=bne_iff_ne.2 hn;have HC:=aV4 (show dY aJ x=false by rw [cI];simp [aJ,bC,hk,he,hn]);clear hk;go_enter Tryz.func152,Tryz.ntmps152;go_wp2_with (go_at_call 187;refine (bA _ _ HSZ.out).mono ?_;rintro e w' ⟨rfl,rfl⟩);go_ret;exact ⟨aF (by rw [HC.out]),(Ext.refl _).alloc' _⟩
theorem vU (N:Nat)(hS:iG 152 (fun b=>b) aJ N)(x:GV)(A:Option Addr)(c:Nat)(P:Nat->Prop)(w:World)(hN:gsz x<N+1)(hx:VAt w P x A c)(hk:x.kind=2)(he:x.s.toList=[])(hn:x.n=0) :
  Calls Tryz.prog 152 #[eI x A c] w (dC (.bool (dY aJ x)) w):=by
 have HX:=aV4 hx;have HN:=aV4 (show ∀ z ∈ x.kids,gsz z<N from fun z hz=>by have:=cT hz;omega);have HSZ:=aV4 hx.s;have hx4:=hx.len;have hx5:=hx.cap;clear hx;have t0:(x.kind == 0)=false:=aV5 (by omega);have t1:(x.kind == 1)=false:=aV5 (by omega);have t2:(x.kind == 2)=true:=aV6 hk;have t3:(x.kind == 3)=false:=aV5 (by omega);have he1:x.s.toList.isEmpty=true:=by simp [he]
 have hne:(x.n != 0)=false:=by simp [hn]
 have HNN:=aV4 hn;have HC:=aV4 (show dY aJ x=eU aJ (x.kids.drop 0) by rw [cI];simp [aJ,bC,hk,he,hn];try omega);have hlo:decide (x.kind<0)=false:=by simp;omega
 have hhi:decide (3<x.kind)=false:=by simp;omega
 clear hk hn;go_enter Tryz.func152,Tryz.ntmps152;go_wp2_with (go_at_call 187;refine (bA _ _ HSZ.out).mono ?_;rintro e w' ⟨rfl,rfl⟩);have HX0:Hid (Ext w (w.alloc (.cells #[.int .i64 x.kind,.int .i64 x.n,.string x.s,.slice A x.kids.length c] 85))):=(Ext.refl _).alloc' _;have hb1:=(Blk.new w 85 #[.int .i64 x.kind,.int .i64 x.n,.string x.s,.slice A x.kids.length c]).cell' (u:=.slice A x.kids.length c) 3 rfl;generalize w.alloc (.cells #[.int .i64 x.kind,.int .i64 x.n,.string x.s,.slice A x.kids.length c] 85)=W at *;go_loopw [4] (fun i wr=>qS aJ x W i wr) (fun i _=>x.kids.length - (intOf i).toNat)
 case atStart=>exact ⟨0,Nat.zero_le _,rfl,Ext.refl _,HC.out⟩
 case round =>
  obtain ⟨k,hk,rfl,hx,ht⟩:=hrel;have HT:=aV4 ht;have hc1:=aB hx hb1;have HW:=aV4 hx;have HXK:=aV4 (HX.out.kids.ext (HX0.out.trans' hx));clear ht hx
  by_cases hlt:k<x.kids.length
  ·have HD:=aV4 (show dY aJ x=eU aJ (x.kids.getD k default :: x.kids.drop (k+1)) by rw [HT.out,<- aH default hlt])
   obtain ⟨b1,o1,c1,A1,d1,e1,-,-,-,hv1,g10,g11,g12,g13⟩:=HXK.out.at_ hlt
   cases e1
   have HM:=aV4 (HN.out _ (aG (d:=default) hlt));have HV1:=aV4 hv1;clear hv1 HXK hb1;generalize x.kids.getD k default=x1 at *;go_wp2_with fail;refine (hS x1 A1 d1 P _ HM.out HV1.out).mono ?_;rintro e w1 ⟨rfl,hx1⟩;have HX1:=aV4 (HW.out.trans' hx1);clear hx1;have HDC:=aV4 (HD.out.trans (eE _ _ _));generalize dY aJ x1=bb at *
   cases bb
   ·go_wp2_with fail
    go_ret;exact ⟨aF (by rw [HDC.out];rfl),HX0.out.trans' HX1.out⟩
   ·go_wp2_with fail
    go_roundw
    case rel=>exact ⟨k+1,by omega,by go_num,HX1.out,by rw [HDC.out];rfl⟩
    case measure=>simp [intOf];omega
  ·go_wp2_with fail
   go_ret;exact ⟨aF (by rw [HT.out,drop_nil (by omega),eB]),HX0.out.trans' HW.out⟩
theorem tI (N:Nat)(x:GV)(A:Option Addr)(c:Nat)(P:Nat->Prop)(w:World)(hN:gsz x<N+1)(hx:VAt w P x A c)(hk:x.kind=3)(he:qK x.s=false) :
  Calls Tryz.prog 152 #[eI x A c] w (dC (.bool (dY aJ x)) w):=by
 have HX:=aV4 hx;have HN:=aV4 (show ∀ z ∈ x.kids,gsz z<N from fun z hz=>by have:=cT hz;omega);have HSZ:=aV4 hx.s;have hx4:=hx.len;have hx5:=hx.cap;clear hx;have t0:(x.kind == 0)=false:=aV5 (by omega);have t1:(x.kind == 1)=false:=aV5 (by omega);have t2:(x.kind == 2)=false:=aV5 (by omega);have t3:(x.kind == 3)=true:=aV6 hk;have HC:=aV4 (show dY aJ x=false by rw [cI];simp [aJ,hk,he]);clear hk;go_enter Tryz.func152,Tryz.ntmps152;go_wp2_with (go_at_call 187;refine (bA _ _ HSZ.out).mono ?_;rintro e w' ⟨rfl,rfl⟩);go_ret;exact ⟨aF (by rw [HC.out]),(Ext.refl _).alloc' _⟩
theorem tH (N:Nat)(x:GV)(A:Option Addr)(c:Nat)(P:Nat->Prop)(w:World)(hN:gsz x<N+1)(hx:VAt w P x A c)(hk:x.kind=3)(he:qK x.s=true)(hn:¬ x.n=0) :
  Calls Tryz.prog 152 #[eI x A c] w (dC (.bool (dY aJ x)) w):=by
 have HX:=aV4 hx;have HN:=aV4 (show ∀ z ∈ x.kids,gsz z<N from fun z hz=>by have:=cT hz;omega);have HSZ:=aV4 hx.s;have hx4:=hx.len;have hx5:=hx.cap;clear hx;have t0:(x.kind == 0)=false:=aV5 (by omega);have t1:(x.kind == 1)=false:=aV5 (by omega);have t2:(x.kind == 2)=false:=aV5 (by omega);have t3:(x.kind == 3)=true:=aV6 hk;have hne:(x.n != 0)=true:=bne_iff_ne.2 hn;have HC:=aV4 (show dY aJ x=false by rw [cI];simp [aJ,hk,he,hn]);clear hk;go_enter Tryz.func152,Tryz.ntmps152;go_wp2_with (go_at_call 187;refine (bA _ _ HSZ.out).mono ?_;rintro e w' ⟨rfl,rfl⟩);go_ret;exact ⟨aF (by rw [HC.out]),(Ext.refl _).alloc' _⟩
theorem vT (N:Nat)(hS:iG 152 (fun b=>b) aJ N)(x:GV)(A:Option Addr)(c:Nat)(P:Nat->Prop)(w:World)(hN:gsz x<N+1)(hx:VAt w P x A c)(hk:x.kind=3)(he:qK x.s=true)(hn:x.n=0) :
  Calls Tryz.prog 152 #[eI x A c] w (dC (.bool (dY aJ x)) w):=by
 have HX:=aV4 hx;have HN:=aV4 (show ∀ z ∈ x.kids,gsz z<N from fun z hz=>by have:=cT hz;omega);have HSZ:=aV4 hx.s;have hx4:=hx.len;have hx5:=hx.cap;clear hx;have t0:(x.kind == 0)=false:=aV5 (by omega);have t1:(x.kind == 1)=false:=aV5 (by omega);have t2:(x.kind == 2)=false:=aV5 (by omega);have t3:(x.kind == 3)=true:=aV6 hk;have hne:(x.n != 0)=false:=by simp [hn]
 have HNN:=aV4 hn;have HC:=aV4 (show dY aJ x=eU aJ (x.kids.drop 0) by rw [cI];simp [aJ,hk,he,hn];try omega);have hlo:decide (x.kind<0)=false:=by simp;omega
 have hhi:decide (3<x.kind)=false:=by simp;omega
 clear hk hn;go_enter Tryz.func152,Tryz.ntmps152;go_wp2_with (go_at_call 187;refine (bA _ _ HSZ.out).mono ?_;rintro e w' ⟨rfl,rfl⟩);have HX0:Hid (Ext w (w.alloc (.cells #[.int .i64 x.kind,.int .i64 x.n,.string x.s,.slice A x.kids.length c] 85))):=(Ext.refl _).alloc' _;have hb1:=(Blk.new w 85 #[.int .i64 x.kind,.int .i64 x.n,.string x.s,.slice A x.kids.length c]).cell' (u:=.slice A x.kids.length c) 3 rfl;generalize w.alloc (.cells #[.int .i64 x.kind,.int .i64 x.n,.string x.s,.slice A x.kids.length c] 85)=W at *;go_loopw [4] (fun i wr=>qS aJ x W i wr) (fun i _=>x.kids.length - (intOf i).toNat)
 case atStart=>exact ⟨0,Nat.zero_le _,rfl,Ext.refl _,HC.out⟩
 case round =>
  obtain ⟨k,hk,rfl,hx,ht⟩:=hrel;have HT:=aV4 ht;have hc1:=aB hx hb1;have HW:=aV4 hx;have HXK:=aV4 (HX.out.kids.ext (HX0.out.trans' hx));clear ht hx
  by_cases hlt:k<x.kids.length
  ·have HD:=aV4 (show dY aJ x=eU aJ (x.kids.getD k default :: x.kids.drop (k+1)) by rw [HT.out,<- aH default hlt])
   obtain ⟨b1,o1,c1,A1,d1,e1,-,-,-,hv1,g10,g11,g12,g13⟩:=HXK.out.at_ hlt
   cases e1
   have HM:=aV4 (HN.out _ (aG (d:=default) hlt));have HV1:=aV4 hv1;clear hv1 HXK hb1;generalize x.kids.getD k default=x1 at *;go_wp2_with fail;refine (hS x1 A1 d1 P _ HM.out HV1.out).mono ?_;rintro e w1 ⟨rfl,hx1⟩;have HX1:=aV4 (HW.out.trans' hx1);clear hx1;have HDC:=aV4 (HD.out.trans (eE _ _ _));generalize dY aJ x1=bb at *
   cases bb
   ·go_wp2_with fail
    go_ret;exact ⟨aF (by rw [HDC.out];rfl),HX0.out.trans' HX1.out⟩
   ·go_wp2_with fail
    go_roundw
    case rel=>exact ⟨k+1,by omega,by go_num,HX1.out,by rw [HDC.out];rfl⟩
    case measure=>simp [intOf];omega
  ·go_wp2_with fail
   go_ret;exact ⟨aF (by rw [HT.out,drop_nil (by omega),eB]),HX0.out.trans' HW.out⟩
theorem vS (N:Nat)(x:GV)(A:Option Addr)(c:Nat)(P:Nat->Prop)(w:World)(hN:gsz x<N+1)(hx:VAt w P x A c)(hk:x.kind<0) :
  Calls Tryz.prog 152 #[eI x A c] w (dC (.bool (dY aJ x)) w):=by
 have HX:=aV4 hx;have HN:=aV4 (show ∀ z ∈ x.kids,gsz z<N from fun z hz=>by have:=cT hz;omega);have HSZ:=aV4 hx.s;have hx4:=hx.len;have hx5:=hx.cap;clear hx;have t0:(x.kind == 0)=false:=aV5 (by omega);have t1:(x.kind == 1)=false:=aV5 (by omega);have t2:(x.kind == 2)=false:=aV5 (by omega);have t3:(x.kind == 3)=false:=aV5 (by omega);have HC:=aV4 (show dY aJ x=false by rw [cI];simp [aJ,show ¬ x.kind=0 by omega,show ¬ x.kind=1 by omega,show ¬ x.kind=2 by omega,show ¬ x.kind=3 by omega]);go_enter Tryz.func152,Tryz.ntmps152;go_wp2_with (go_at_call 187;refine (bA _ _ HSZ.out).mono ?_;rintro e w' ⟨rfl,rfl⟩);go_ret;exact ⟨aF (by rw [HC.out]),(Ext.refl _).alloc' _⟩
theorem vX (N:Nat)(x:GV)(A:Option Addr)(c:Nat)(P:Nat->Prop)(w:World)(hN:gsz x<N+1)(hx:VAt w P x A c)(hk:3<x.kind) :
  Calls Tryz.prog 152 #[eI x A c] w (dC (.bool (dY aJ x)) w):=by
 have HX:=aV4 hx;have HN:=aV4 (show ∀ z ∈ x.kids,gsz z<N from fun z hz=>by have:=cT hz;omega);have HSZ:=aV4 hx.s;have hx4:=hx.len;have hx5:=hx.cap;clear hx;have t0:(x.kind == 0)=false:=aV5 (by omega);have t1:(x.kind == 1)=false:=aV5 (by omega);have t2:(x.kind == 2)=false:=aV5 (by omega);have t3:(x.kind == 3)=false:=aV5 (by omega);have hlo:decide (x.kind<0)=false:=by simp;omega
 have HC:=aV4 (show dY aJ x=false by rw [cI];simp [aJ,show ¬ x.kind=0 by omega,show ¬ x.kind=1 by omega,show ¬ x.kind=2 by omega,show ¬ x.kind=3 by omega]);go_enter Tryz.func152,Tryz.ntmps152;go_wp2_with (go_at_call 187;refine (bA _ _ HSZ.out).mono ?_;rintro e w' ⟨rfl,rfl⟩);go_ret;exact ⟨aF (by rw [HC.out]),(Ext.refl _).alloc' _⟩
end Go.Proofs.YtkoeecdjijfjnaaGreat
