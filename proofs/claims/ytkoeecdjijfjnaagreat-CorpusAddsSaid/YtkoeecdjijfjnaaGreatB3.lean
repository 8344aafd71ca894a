/- Contracts of functions, plain laws. Conditions: none. -/
import Derived.Test.YtkoeecdjijfjnaaGreatB2
set_option maxRecDepth 100000
set_option maxHeartbeats 8000000
namespace Go.Proofs.YtkoeecdjijfjnaaGreat
open Go.RowKit
theorem Tryz.info3:(Tryz.prog.info? 3).map (fun i=>(i.zero,i.size,i.bytes))=some (some (.int .i64 0),1,8):=by kernel_rfl
def bZ (before:List Int):Int->List Int->Int
 | s,[]=>s
 | s,z :: zs=>bZ before (wrap64 (s+before.getD z.toNat 0)) zs
def aL (before:List Int)(ch:Bool):Nat->Int->List Int->Int
 | _,m,[]=>m
 | i,m,z :: zs=>aL before ch (i+1) (if ch=true∨0<i then (if m<before.getD z.toNat 0 then before.getD z.toNat 0 else m) else m) zs
def fQ (before:List Int)(x:GN):Int :=
 if x.kind=0 then 0 else if x.kind=1 then 1 else if x.kind=3 then bZ before 0 x.kids
 else if x.kind=2 then wrap64 (1+aL before true 0 0 x.kids)
 else wrap64 (before.getD (x.kids.getD 0 0).toNat 0+aL before false 0 0 x.kids)
def fI (before:List Int)(x:GN):Int :=
 if x.kind=0 then rsz x.value else if x.kind=1 then 1 else if x.kind=3 then bZ before 1 x.kids
 else aL before (decide (x.kind=2)) 0 0 x.kids
def jK (base:Nat)(e:TypeId)(size:Nat)(vb:Value)(n:Nat)(xs:List Value)(w:World)(en:Ending)(w':World):Prop :=
 ∃ v',en=.returned v'∧w'.ownsRow base e size v' n xs∧Fr (fun k=>some k=vb.ownBlock) w w'∧(v'.ownBlock=vb.ownBlock∨∃ b,v'.ownBlock=some b∧w.heap.size<=b)
def lC (before:List Int)(x:GN)(ch:Bool)(s0:Int)(W:World)(s m i:Value)(wr:World):Prop :=
 ∃ (k:Nat) (s1 m1:Int),k<=x.kids.length∧i=.int .i64 k∧s=.int .i64 s1∧m=.int .i64 m1∧wr=W ∧
  bZ before s0 x.kids=bZ before s1 (x.kids.drop k)∧aL before ch 0 0 x.kids=aL before ch k m1 (x.kids.drop k)
theorem Sl.new (W:World)(cs:List Value)(t:TypeId)(n size:Nat)(h:cs.length=n*size):Sl (W.alloc (.cells cs.toArray t)) (fun _=>True) size (some ⟨W.heap.size,0,none⟩) n cs :=
 ⟨h,fun _=>⟨W.heap.size,0,rfl,trivial,fun j u hu=>by rw [jD];simpa using hu⟩⟩
theorem _root_.Go.World.ownsRow.ext_ {w w':World}{base:Nat}{e:TypeId}{size:Nat}{v:Value}{n:Nat}{xs:List Value}(h:w.ownsRow base e size v n xs)(hx:Ext w w'):w'.ownsRow base e size v n xs:=by
 refine ⟨h.1,?_⟩;rcases h.2 with h | ⟨g,cap,cur,h1,h2,h3,h4⟩
 ·exact .inl h
 ·exact .inr ⟨g,cap,cur,h1,h2,(Blk.ext (t:=e) h3 hx),h4⟩
theorem dD (k:IntKind)(n:Int):(Value.int k n).oneCell'=true:=rfl
theorem wM (before:List Int)(x:GN)(a:NA)(P:Nat->Prop)(base:Nat)(vb:Value)(w:World)(hx:NAt w P x a)(hown:w.ownsRow base 3 1 vb before.length (before.map (Value.int .i64)))
  (hbase:base<=w.heap.size)(hlen:before.length<=100000)(hb64:∀ z ∈ before,I64 z)(hkids:∀ z ∈ x.kids,0<=z∧z<before.length)(hk:x.kind=0) :
  Calls Tryz.prog 58 #[vb,hH x a] w (jK base 3 1 vb (before.length+1) ((before ++ [fQ before x]).map (Value.int .i64)) w):=by
 have HX:=aV4 hx;have HO:=aV4 hown;have HK:=aV4 hkids;have HB64:=aV4 hb64;have HBASE:=aV4 hbase;obtain ⟨A,c,hvb,hnc,hcm,hsl⟩:=Sl.of_own hown;unfold maxLen at hcm;have HSL:=aV4 hsl;obtain ⟨hl,hc⟩:=hx.kids.le;have HSP:=aV4 (show fQ before x=0 by unfold fQ;rw [if_pos hk]);have t0:(x.kind == 0)=true:=aV6 hk;have t1:(x.kind == 1)=false:=aV5 (by omega);have t2:(x.kind == 2)=false:=aV5 (by omega);have t3:(x.kind == 3)=false:=aV5 (by omega);have t4:(x.kind == 4)=false:=aV5 (by omega);have HKK:=aV4 hk;clear hk;subst hvb;clear hx hown hkids hb64 hbase hsl;obtain ⟨i0,hi,hz0,hz1,hz2⟩:=info_parts Tryz.info3;have HI:=aV4 hi;clear hi;go_enter Tryz.func58,Tryz.ntmps58;go_wp2_with fail;have HBX:=aV4 (show Blk (w.alloc (.cells (aE x a).toArray 87)) w.heap.size 87 (aE x a).toArray from Blk.new _ _ _);have HE:=aV4 (show Ext w (w.alloc (.cells (aE x a).toArray 87)) from (Ext.refl _).alloc' _);have hb0:=HBX.out.cell' (u:=.int .i64 x.kind) 0 rfl;have hb7:=HBX.out.cell' (u:=.slice a.kA x.kids.length a.kc) 7 rfl;have HW:=aV4 (HX.out.kids.ext HE.out);have HO2:=aV4 (HO.out.alloc (.cells (aE x a).toArray 87));have hsz:(w.alloc (.cells (aE x a).toArray 87)).heap.size=w.heap.size+1:=by simp
 have HSZ:=aV4 hsz;clear hsz;generalize hWW:w.alloc (.cells (aE x a).toArray 87)=W at *;clear hWW;go_loopw [5,6,7] (fun s m i wr=>lC before x false 0 W s m i wr) (fun _ _ i _=>x.kids.length - (intOf i).toNat)
 case atStart=>exact ⟨0,_,_,Nat.zero_le _,rfl,rfl,rfl,rfl,rfl,rfl⟩
 case round =>
  obtain ⟨k,s1,m1,hk,rfl,rfl,rfl,rfl,hs,hm⟩:=hrel;have HS:=aV4 hs;have HM:=aV4 hm;clear hs hm
  by_cases hlt:k<x.kids.length
  ·obtain ⟨b1,o1,e1,-,-,g1⟩:=HW.out.get hlt
   have HD:=aV4 (aH 0 hlt);obtain ⟨hz1',hz2'⟩:=HK.out _ (aG (d:=0) hlt);rw [e1] at hb7;clear e1;generalize x.kids.getD k 0=z at *;obtain ⟨j,rfl⟩:=Int.eq_ofNat_of_zero_le hz1';have hj:j<before.length:=by omega
   obtain ⟨b2,o2,rfl,-,hc2⟩:=((HSL.out (fun _=>True) (fun _ _=>trivial)).keep (aD.of_ext HE.out) (fun _ h=>h)).2 (by omega);have g2:=bD hj hc2;have HS2:=aV4 (show bZ before 0 x.kids=bZ before (wrap64 (s1+before.getD j 0)) (x.kids.drop (k+1)) by rw [HS.out,HD.out];rfl);clear hc2 hz1' hz2'
   by_cases hk0:0<k
   ·have tk:decide (0<(k:Int))=true:=aV7 (by omega)
    have HM3:=aV4 (show aL before false 0 0 x.kids=aL before false (k+1) (if m1<before.getD j 0 then before.getD j 0 else m1) (x.kids.drop (k+1)) by
     rw [HM.out,HD.out];show aL before false (k+1) (if false=true∨0<k then _ else _) _=_;rw [if_pos (.inr hk0)];rfl)
    generalize before.getD j 0=nn at *;go_wp2_with fail;go_roundw
    case rel=>exact ⟨k+1,_,_,by omega,by go_num,rfl,rfl,rfl,HS2.out,HM3.out⟩
    case measure=>simp [intOf];omega
   ·have tk:decide (0<(k:Int))=false:=aV8 (by omega)
    have HM3:=aV4 (show aL before false 0 0 x.kids=aL before false (k+1) m1 (x.kids.drop (k+1)) by
     rw [HM.out,HD.out];show aL before false (k+1) (if false=true∨0<k then _ else _) _=_;rw [if_neg (by simp;omega)])
    generalize before.getD j 0=nn at *;go_wp2_with fail;go_roundw
    case rel=>exact ⟨k+1,_,_,by omega,by go_num,rfl,rfl,rfl,HS2.out,HM3.out⟩
    case measure=>simp [intOf];omega
  ·have HS2:=aV4 (show bZ before 0 x.kids=s1 by rw [HS.out,drop_nil (by omega)];rfl)
   have HM2:=aV4 (show aL before false 0 0 x.kids=m1 by rw [HM.out,drop_nil (by omega)];rfl);go_wp2_with (at_builtin;go_must (refine aK _ rfl _ _ 22 rfl base 3 i0 (.int .i64 0) 1 8 Tryz.underlying22 HI.out hz0 hz1 hz2 rfl (by decide) _ _ _ rfl (HO2.out.alloc _) (fun _=>True) _ 1 1 [.int .i64 0] rfl (Sl.new _ _ _ _ _ rfl) (by simp [dD]) (by omega) (by omega) (by rw [World.size_alloc,HSZ.out];have:=HBASE.out;omega) ?_);intro v' w1 ho1 hf1 hb1);go_ret;refine ⟨v',rfl,by rw [HSP.out,List.map_append];exact ho1,((Fr.of_ext HE.out).alloc _).trans hf1,?_⟩;rcases hb1 with hb1 | hb1
   ·exact .inl hb1
   ·exact .inr ⟨_,hb1,by have:=(HE.out).size;rw [World.size_alloc];omega⟩
theorem wL (before:List Int)(x:GN)(a:NA)(P:Nat->Prop)(base:Nat)(vb:Value)(w:World)(hx:NAt w P x a)(hown:w.ownsRow base 3 1 vb before.length (before.map (Value.int .i64)))
  (hbase:base<=w.heap.size)(hlen:before.length<=100000)(hb64:∀ z ∈ before,I64 z)(hkids:∀ z ∈ x.kids,0<=z∧z<before.length)(hk:x.kind=1) :
  Calls Tryz.prog 58 #[vb,hH x a] w (jK base 3 1 vb (before.length+1) ((before ++ [fQ before x]).map (Value.int .i64)) w):=by
 have HX:=aV4 hx;have HO:=aV4 hown;have HK:=aV4 hkids;have HB64:=aV4 hb64;have HBASE:=aV4 hbase;obtain ⟨A,c,hvb,hnc,hcm,hsl⟩:=Sl.of_own hown;unfold maxLen at hcm;have HSL:=aV4 hsl;obtain ⟨hl,hc⟩:=hx.kids.le;have HSP:=aV4 (show fQ before x=1 by unfold fQ;rw [if_neg (by omega),if_pos hk]);have t0:(x.kind == 0)=false:=aV5 (by omega);have t1:(x.kind == 1)=true:=aV6 hk;have t2:(x.kind == 2)=false:=aV5 (by omega);have t3:(x.kind == 3)=false:=aV5 (by omega);have t4:(x.kind == 4)=false:=aV5 (by omega);have HKK:=aV4 hk;clear hk;subst hvb;clear hx hown hkids hb64 hbase hsl;obtain ⟨i0,hi,hz0,hz1,hz2⟩:=info_parts Tryz.info3;have HI:=aV4 hi;clear hi;go_enter Tryz.func58,Tryz.ntmps58;go_wp2_with fail;have HBX:=aV4 (show Blk (w.alloc (.cells (aE x a).toArray 87)) w.heap.size 87 (aE x a).toArray from Blk.new _ _ _);have HE:=aV4 (show Ext w (w.alloc (.cells (aE x a).toArray 87)) from (Ext.refl _).alloc' _);have hb0:=HBX.out.cell' (u:=.int .i64 x.kind) 0 rfl;have hb7:=HBX.out.cell' (u:=.slice a.kA x.kids.length a.kc) 7 rfl;have HW:=aV4 (HX.out.kids.ext HE.out);have HO2:=aV4 (HO.out.alloc (.cells (aE x a).toArray 87));have hsz:(w.alloc (.cells (aE x a).toArray 87)).heap.size=w.heap.size+1:=by simp
 have HSZ:=aV4 hsz;clear hsz;generalize hWW:w.alloc (.cells (aE x a).toArray 87)=W at *;clear hWW;go_loopw [5,6,7] (fun s m i wr=>lC before x false 0 W s m i wr) (fun _ _ i _=>x.kids.length - (intOf i).toNat)
 case atStart=>exact ⟨0,_,_,Nat.zero_le _,rfl,rfl,rfl,rfl,rfl,rfl⟩
 case round =>
  obtain ⟨k,s1,m1,hk,rfl,rfl,rfl,rfl,hs,hm⟩:=hrel;have HS:=aV4 hs;have HM:=aV4 hm;clear hs hm
  by_cases hlt:k<x.kids.length
  ·obtain ⟨b1,o1,e1,-,-,g1⟩:=HW.out.get hlt
   have HD:=aV4 (aH 0 hlt);obtain ⟨hz1',hz2'⟩:=HK.out _ (aG (d:=0) hlt);rw [e1] at hb7;clear e1;generalize x.kids.getD k 0=z at *;obtain ⟨j,rfl⟩:=Int.eq_ofNat_of_zero_le hz1';have hj:j<before.length:=by omega
   obtain ⟨b2,o2,rfl,-,hc2⟩:=((HSL.out (fun _=>True) (fun _ _=>trivial)).keep (aD.of_ext HE.out) (fun _ h=>h)).2 (by omega);have g2:=bD hj hc2;have HS2:=aV4 (show bZ before 0 x.kids=bZ before (wrap64 (s1+before.getD j 0)) (x.kids.drop (k+1)) by rw [HS.out,HD.out];rfl);clear hc2 hz1' hz2'
   by_cases hk0:0<k
   ·have tk:decide (0<(k:Int))=true:=aV7 (by omega)
    have HM3:=aV4 (show aL before false 0 0 x.kids=aL before false (k+1) (if m1<before.getD j 0 then before.getD j 0 else m1) (x.kids.drop (k+1)) by
     rw [HM.out,HD.out];show aL before false (k+1) (if false=true∨0<k then _ else _) _=_;rw [if_pos (.inr hk0)];rfl)
    generalize before.getD j 0=nn at *;go_wp2_with fail;go_roundw
    case rel=>exact ⟨k+1,_,_,by omega,by go_num,rfl,rfl,rfl,HS2.out,HM3.out⟩
    case measure=>simp [intOf];omega
   ·have tk:decide (0<(k:Int))=false:=aV8 (by omega)
    have HM3:=aV4 (show aL before false 0 0 x.kids=aL before false (k+1) m1 (x.kids.drop (k+1)) by
     rw [HM.out,HD.out];show aL before false (k+1) (if false=true∨0<k then _ else _) _=_;rw [if_neg (by simp;omega)])
    generalize before.getD j 0=nn at *;go_wp2_with fail;go_roundw
    case rel=>exact ⟨k+1,_,_,by omega,by go_num,rfl,rfl,rfl,HS2.out,HM3.out⟩
    case measure=>simp [intOf];omega
  ·have HS2:=aV4 (show bZ before 0 x.kids=s1 by rw [HS.out,drop_nil (by omega)];rfl)
   have HM2:=aV4 (show aL before false 0 0 x.kids=m1 by rw [HM.out,drop_nil (by omega)];rfl);go_wp2_with (at_builtin;go_must (refine aK _ rfl _ _ 22 rfl base 3 i0 (.int .i64 0) 1 8 Tryz.underlying22 HI.out hz0 hz1 hz2 rfl (by decide) _ _ _ rfl (HO2.out.alloc _) (fun _=>True) _ 1 1 [.int .i64 1] rfl (Sl.new _ _ _ _ _ rfl) (by simp [dD]) (by omega) (by omega) (by rw [World.size_alloc,HSZ.out];have:=HBASE.out;omega) ?_);intro v' w1 ho1 hf1 hb1);go_ret;refine ⟨v',rfl,by rw [HSP.out,List.map_append];exact ho1,((Fr.of_ext HE.out).alloc _).trans hf1,?_⟩;rcases hb1 with hb1 | hb1
   ·exact .inl hb1
   ·exact .inr ⟨_,hb1,by have:=(HE.out).size;rw [World.size_alloc];omega⟩
theorem wJ (before:List Int)(x:GN)(a:NA)(P:Nat->Prop)(base:Nat)(vb:Value)(w:World)(hx:NAt w P x a)(hown:w.ownsRow base 3 1 vb before.length (before.map (Value.int .i64)))
  (hbase:base<=w.heap.size)(hlen:before.length<=100000)(hb64:∀ z ∈ before,I64 z)(hkids:∀ z ∈ x.kids,0<=z∧z<before.length)(hk:x.kind=3) :
  Calls Tryz.prog 58 #[vb,hH x a] w (jK base 3 1 vb (before.length+1) ((before ++ [fQ before x]).map (Value.int .i64)) w):=by
 have HX:=aV4 hx;have HO:=aV4 hown;have HK:=aV4 hkids;have HB64:=aV4 hb64;have HBASE:=aV4 hbase;obtain ⟨A,c,hvb,hnc,hcm,hsl⟩:=Sl.of_own hown;unfold maxLen at hcm;have HSL:=aV4 hsl;obtain ⟨hl,hc⟩:=hx.kids.le;have HSP:=aV4 (show fQ before x=bZ before 0 x.kids by unfold fQ;rw [if_neg (by omega),if_neg (by omega),if_pos hk]);have t0:(x.kind == 0)=false:=aV5 (by omega);have t1:(x.kind == 1)=false:=aV5 (by omega);have t2:(x.kind == 2)=false:=aV5 (by omega);have t3:(x.kind == 3)=true:=aV6 hk;have t4:(x.kind == 4)=false:=aV5 (by omega);have HKK:=aV4 hk;clear hk;subst hvb;clear hx hown hkids hb64 hbase hsl;obtain ⟨i0,hi,hz0,hz1,hz2⟩:=info_parts Tryz.info3;have HI:=aV4 hi;clear hi;go_enter Tryz.func58,Tryz.ntmps58;go_wp2_with fail;have HBX:=aV4 (show Blk (w.alloc (.cells (aE x a).toArray 87)) w.heap.size 87 (aE x a).toArray from Blk.new _ _ _);have HE:=aV4 (show Ext w (w.alloc (.cells (aE x a).toArray 87)) from (Ext.refl _).alloc' _);have hb0:=HBX.out.cell' (u:=.int .i64 x.kind) 0 rfl;have hb7:=HBX.out.cell' (u:=.slice a.kA x.kids.length a.kc) 7 rfl;have HW:=aV4 (HX.out.kids.ext HE.out);have HO2:=aV4 (HO.out.alloc (.cells (aE x a).toArray 87));have hsz:(w.alloc (.cells (aE x a).toArray 87)).heap.size=w.heap.size+1:=by simp
 have HSZ:=aV4 hsz;clear hsz;generalize hWW:w.alloc (.cells (aE x a).toArray 87)=W at *;clear hWW;go_loopw [5,6,7] (fun s m i wr=>lC before x false 0 W s m i wr) (fun _ _ i _=>x.kids.length - (intOf i).toNat)
 case atStart=>exact ⟨0,_,_,Nat.zero_le _,rfl,rfl,rfl,rfl,rfl,rfl⟩
 case round =>
  obtain ⟨k,s1,m1,hk,rfl,rfl,rfl,rfl,hs,hm⟩:=hrel;have HS:=aV4 hs;have HM:=aV4 hm;clear hs hm
  by_cases hlt:k<x.kids.length
  ·obtain ⟨b1,o1,e1,-,-,g1⟩:=HW.out.get hlt
   have HD:=aV4 (aH 0 hlt);obtain ⟨hz1',hz2'⟩:=HK.out _ (aG (d:=0) hlt);rw [e1] at hb7;clear e1;generalize x.kids.getD k 0=z at *;obtain ⟨j,rfl⟩:=Int.eq_ofNat_of_zero_le hz1';have hj:j<before.length:=by omega
   obtain ⟨b2,o2,rfl,-,hc2⟩:=((HSL.out (fun _=>True) (fun _ _=>trivial)).keep (aD.of_ext HE.out) (fun _ h=>h)).2 (by omega);have g2:=bD hj hc2;have HS2:=aV4 (show bZ before 0 x.kids=bZ before (wrap64 (s1+before.getD j 0)) (x.kids.drop (k+1)) by rw [HS.out,HD.out];rfl);clear hc2 hz1' hz2'
   by_cases hk0:0<k
   ·have tk:decide (0<(k:Int))=true:=aV7 (by omega)
    have HM3:=aV4 (show aL before false 0 0 x.kids=aL before false (k+1) (if m1<before.getD j 0 then before.getD j 0 else m1) (x.kids.drop (k+1)) by
     rw [HM.out,HD.out];show aL before false (k+1) (if false=true∨0<k then _ else _) _=_;rw [if_pos (.inr hk0)];rfl)
    generalize before.getD j 0=nn at *;go_wp2_with fail;go_roundw
    case rel=>exact ⟨k+1,_,_,by omega,by go_num,rfl,rfl,rfl,HS2.out,HM3.out⟩
    case measure=>simp [intOf];omega
   ·have tk:decide (0<(k:Int))=false:=aV8 (by omega)
    have HM3:=aV4 (show aL before false 0 0 x.kids=aL before false (k+1) m1 (x.kids.drop (k+1)) by
     rw [HM.out,HD.out];show aL before false (k+1) (if false=true∨0<k then _ else _) _=_;rw [if_neg (by simp;omega)])
    generalize before.getD j 0=nn at *;go_wp2_with fail;go_roundw
    case rel=>exact ⟨k+1,_,_,by omega,by go_num,rfl,rfl,rfl,HS2.out,HM3.out⟩
    case measure=>simp [intOf];omega
  ·have HS2:=aV4 (show bZ before 0 x.kids=s1 by rw [HS.out,drop_nil (by omega)];rfl)
   have HM2:=aV4 (show aL before false 0 0 x.kids=m1 by rw [HM.out,drop_nil (by omega)];rfl);go_wp2_with (at_builtin;go_must (refine aK _ rfl _ _ 22 rfl base 3 i0 (.int .i64 0) 1 8 Tryz.underlying22 HI.out hz0 hz1 hz2 rfl (by decide) _ _ _ rfl (HO2.out.alloc _) (fun _=>True) _ 1 1 [.int .i64 s1] rfl (Sl.new _ _ _ _ _ rfl) (by simp [dD]) (by omega) (by omega) (by rw [World.size_alloc,HSZ.out];have:=HBASE.out;omega) ?_);intro v' w1 ho1 hf1 hb1);go_ret;refine ⟨v',rfl,by rw [HSP.out,List.map_append];exact (by rw [HS2.out];exact ho1),((Fr.of_ext HE.out).alloc _).trans hf1,?_⟩;rcases hb1 with hb1 | hb1
   ·exact .inl hb1
   ·exact .inr ⟨_,hb1,by have:=(HE.out).size;rw [World.size_alloc];omega⟩
theorem wK (before:List Int)(x:GN)(a:NA)(P:Nat->Prop)(base:Nat)(vb:Value)(w:World)(hx:NAt w P x a)(hown:w.ownsRow base 3 1 vb before.length (before.map (Value.int .i64)))
  (hbase:base<=w.heap.size)(hlen:before.length<=100000)(hb64:∀ z ∈ before,I64 z)(hkids:∀ z ∈ x.kids,0<=z∧z<before.length)(hk:x.kind=2) :
  Calls Tryz.prog 58 #[vb,hH x a] w (jK base 3 1 vb (before.length+1) ((before ++ [fQ before x]).map (Value.int .i64)) w):=by
 have HX:=aV4 hx;have HO:=aV4 hown;have HK:=aV4 hkids;have HB64:=aV4 hb64;have HBASE:=aV4 hbase;obtain ⟨A,c,hvb,hnc,hcm,hsl⟩:=Sl.of_own hown;unfold maxLen at hcm;have HSL:=aV4 hsl;obtain ⟨hl,hc⟩:=hx.kids.le;have HSP:=aV4 (show fQ before x=wrap64 (1+aL before true 0 0 x.kids) by unfold fQ;rw [if_neg (by omega),if_neg (by omega),if_neg (by omega),if_pos hk]);have t0:(x.kind == 0)=false:=aV5 (by omega);have t1:(x.kind == 1)=false:=aV5 (by omega);have t2:(x.kind == 2)=true:=aV6 hk;have t3:(x.kind == 3)=false:=aV5 (by omega);have t4:(x.kind == 4)=false:=aV5 (by omega);have HKK:=aV4 hk;clear hk;subst hvb;clear hx hown hkids hb64 hbase hsl;obtain ⟨i0,hi,hz0,hz1,hz2⟩:=info_parts Tryz.info3;have HI:=aV4 hi;clear hi;go_enter Tryz.func58,Tryz.ntmps58;go_wp2_with fail;have HBX:=aV4 (show Blk (w.alloc (.cells (aE x a).toArray 87)) w.heap.size 87 (aE x a).toArray from Blk.new _ _ _);have HE:=aV4 (show Ext w (w.alloc (.cells (aE x a).toArray 87)) from (Ext.refl _).alloc' _);have hb0:=HBX.out.cell' (u:=.int .i64 x.kind) 0 rfl;have hb7:=HBX.out.cell' (u:=.slice a.kA x.kids.length a.kc) 7 rfl;have HW:=aV4 (HX.out.kids.ext HE.out);have HO2:=aV4 (HO.out.alloc (.cells (aE x a).toArray 87));have hsz:(w.alloc (.cells (aE x a).toArray 87)).heap.size=w.heap.size+1:=by simp
 have HSZ:=aV4 hsz;clear hsz;generalize hWW:w.alloc (.cells (aE x a).toArray 87)=W at *;clear hWW;go_loopw [5,6,7] (fun s m i wr=>lC before x true 0 W s m i wr) (fun _ _ i _=>x.kids.length - (intOf i).toNat)
 case atStart=>exact ⟨0,_,_,Nat.zero_le _,rfl,rfl,rfl,rfl,rfl,rfl⟩
 case round =>
  obtain ⟨k,s1,m1,hk,rfl,rfl,rfl,rfl,hs,hm⟩:=hrel;have HS:=aV4 hs;have HM:=aV4 hm;clear hs hm
  by_cases hlt:k<x.kids.length
  ·obtain ⟨b1,o1,e1,-,-,g1⟩:=HW.out.get hlt
   have HD:=aV4 (aH 0 hlt);obtain ⟨hz1',hz2'⟩:=HK.out _ (aG (d:=0) hlt);rw [e1] at hb7;clear e1;generalize x.kids.getD k 0=z at *;obtain ⟨j,rfl⟩:=Int.eq_ofNat_of_zero_le hz1';have hj:j<before.length:=by omega
   obtain ⟨b2,o2,rfl,-,hc2⟩:=((HSL.out (fun _=>True) (fun _ _=>trivial)).keep (aD.of_ext HE.out) (fun _ h=>h)).2 (by omega);have g2:=bD hj hc2;have HS2:=aV4 (show bZ before 0 x.kids=bZ before (wrap64 (s1+before.getD j 0)) (x.kids.drop (k+1)) by rw [HS.out,HD.out];rfl);clear hc2 hz1' hz2';have HM3:=aV4 (show aL before true 0 0 x.kids=aL before true (k+1) (if m1<before.getD j 0 then before.getD j 0 else m1) (x.kids.drop (k+1)) by rw [HM.out,HD.out];rfl);generalize before.getD j 0=nn at *;go_wp2_with fail;go_roundw
   case rel=>exact ⟨k+1,_,_,by omega,by go_num,rfl,rfl,rfl,HS2.out,HM3.out⟩
   case measure=>simp [intOf];omega
  ·have HS2:=aV4 (show bZ before 0 x.kids=s1 by rw [HS.out,drop_nil (by omega)];rfl)
   have HM2:=aV4 (show aL before true 0 0 x.kids=m1 by rw [HM.out,drop_nil (by omega)];rfl);go_wp2_with (at_builtin;go_must (refine aK _ rfl _ _ 22 rfl base 3 i0 (.int .i64 0) 1 8 Tryz.underlying22 HI.out hz0 hz1 hz2 rfl (by decide) _ _ _ rfl (HO2.out.alloc _) (fun _=>True) _ 1 1 [.int .i64 (wrap64 (1+m1))] rfl (Sl.new _ _ _ _ _ rfl) (by simp [dD]) (by omega) (by omega) (by rw [World.size_alloc,HSZ.out];have:=HBASE.out;omega) ?_);intro v' w1 ho1 hf1 hb1);go_ret;refine ⟨v',rfl,by rw [HSP.out,List.map_append];exact (by rw [HM2.out];exact ho1),((Fr.of_ext HE.out).alloc _).trans hf1,?_⟩;rcases hb1 with hb1 | hb1
   ·exact .inl hb1
   ·exact .inr ⟨_,hb1,by have:=(HE.out).size;rw [World.size_alloc];omega⟩
theorem wI (before:List Int)(x:GN)(a:NA)(P:Nat->Prop)(base:Nat)(vb:Value)(w:World)(hx:NAt w P x a)(hown:w.ownsRow base 3 1 vb before.length (before.map (Value.int .i64)))
  (hbase:base<=w.heap.size)(hlen:before.length<=100000)(hb64:∀ z ∈ before,I64 z)(hkids:∀ z ∈ x.kids,0<=z∧z<before.length)(hk:x.kind=4)(hkp:0<x.kids.length) :
  Calls Tryz.prog 58 #[vb,hH x a] w (jK base 3 1 vb (before.length+1) ((before ++ [fQ before x]).map (Value.int .i64)) w):=by
 have HX:=aV4 hx;have HO:=aV4 hown;have HK:=aV4 hkids;have HB64:=aV4 hb64;have HBASE:=aV4 hbase;obtain ⟨A,c,hvb,hnc,hcm,hsl⟩:=Sl.of_own hown;unfold maxLen at hcm;have HSL:=aV4 hsl;obtain ⟨hl,hc⟩:=hx.kids.le;have HKP:=aV4 hkp;clear hkp;have HSP:=aV4 (show fQ before x=wrap64 (before.getD (x.kids.getD 0 0).toNat 0+aL before false 0 0 x.kids) by unfold fQ;rw [if_neg (by omega),if_neg (by omega),if_neg (by omega),if_neg (by omega)]);have t0:(x.kind == 0)=false:=aV5 (by omega);have t1:(x.kind == 1)=false:=aV5 (by omega);have t2:(x.kind == 2)=false:=aV5 (by omega);have t3:(x.kind == 3)=false:=aV5 (by omega);have t4:(x.kind == 4)=true:=aV6 hk;have HKK:=aV4 hk;clear hk;subst hvb;clear hx hown hkids hb64 hbase hsl;obtain ⟨i0,hi,hz0,hz1,hz2⟩:=info_parts Tryz.info3;have HI:=aV4 hi;clear hi;go_enter Tryz.func58,Tryz.ntmps58;go_wp2_with fail;have HBX:=aV4 (show Blk (w.alloc (.cells (aE x a).toArray 87)) w.heap.size 87 (aE x a).toArray from Blk.new _ _ _);have HE:=aV4 (show Ext w (w.alloc (.cells (aE x a).toArray 87)) from (Ext.refl _).alloc' _);have hb0:=HBX.out.cell' (u:=.int .i64 x.kind) 0 rfl;have hb7:=HBX.out.cell' (u:=.slice a.kA x.kids.length a.kc) 7 rfl;have HW:=aV4 (HX.out.kids.ext HE.out)
 have HO2:=aV4 (HO.out.alloc (.cells (aE x a).toArray 87));have hsz:(w.alloc (.cells (aE x a).toArray 87)).heap.size=w.heap.size+1:=by simp
 have HSZ:=aV4 hsz;clear hsz;generalize hWW:w.alloc (.cells (aE x a).toArray 87)=W at *;clear hWW;go_loopw [5,6,7] (fun s m i wr=>lC before x false 0 W s m i wr) (fun _ _ i _=>x.kids.length - (intOf i).toNat)
 case atStart=>exact ⟨0,_,_,Nat.zero_le _,rfl,rfl,rfl,rfl,rfl,rfl⟩
 case round =>
  obtain ⟨k,s1,m1,hk,rfl,rfl,rfl,rfl,hs,hm⟩:=hrel;have HS:=aV4 hs;have HM:=aV4 hm;clear hs hm
  by_cases hlt:k<x.kids.length
  ·obtain ⟨b1,o1,e1,-,-,g1⟩:=HW.out.get hlt
   have HD:=aV4 (aH 0 hlt);obtain ⟨hz1',hz2'⟩:=HK.out _ (aG (d:=0) hlt);rw [e1] at hb7;clear e1;generalize x.kids.getD k 0=z at *;obtain ⟨j,rfl⟩:=Int.eq_ofNat_of_zero_le hz1';have hj:j<before.length:=by omega
   obtain ⟨b2,o2,rfl,-,hc2⟩:=((HSL.out (fun _=>True) (fun _ _=>trivial)).keep (aD.of_ext HE.out) (fun _ h=>h)).2 (by omega);have g2:=bD hj hc2;have HS2:=aV4 (show bZ before 0 x.kids=bZ before (wrap64 (s1+before.getD j 0)) (x.kids.drop (k+1)) by rw [HS.out,HD.out];rfl);clear hc2 hz1' hz2'
   by_cases hk0:0<k
   ·have tk:decide (0<(k:Int))=true:=aV7 (by omega)
    have HM3:=aV4 (show aL before false 0 0 x.kids=aL before false (k+1) (if m1<before.getD j 0 then before.getD j 0 else m1) (x.kids.drop (k+1)) by
     rw [HM.out,HD.out];show aL before false (k+1) (if false=true∨0<k then _ else _) _=_;rw [if_pos (.inr hk0)];rfl)
    generalize before.getD j 0=nn at *;go_wp2_with fail;go_roundw
    case rel=>exact ⟨k+1,_,_,by omega,by go_num,rfl,rfl,rfl,HS2.out,HM3.out⟩
    case measure=>simp [intOf];omega
   ·have tk:decide (0<(k:Int))=false:=aV8 (by omega)
    have HM3:=aV4 (show aL before false 0 0 x.kids=aL before false (k+1) m1 (x.kids.drop (k+1)) by
     rw [HM.out,HD.out];show aL before false (k+1) (if false=true∨0<k then _ else _) _=_;rw [if_neg (by simp;omega)])
    generalize before.getD j 0=nn at *;go_wp2_with fail;go_roundw
    case rel=>exact ⟨k+1,_,_,by omega,by go_num,rfl,rfl,rfl,HS2.out,HM3.out⟩
    case measure=>simp [intOf];omega
  ·have HS2:=aV4 (show bZ before 0 x.kids=s1 by rw [HS.out,drop_nil (by omega)];rfl)
   have HM2:=aV4 (show aL before false 0 0 x.kids=m1 by rw [HM.out,drop_nil (by omega)];rfl);have hlt0:0<x.kids.length:=HKP.out;obtain ⟨b1,o1,e1,-,-,g1⟩:=HW.out.get hlt0;rw [Nat.add_zero] at g1;obtain ⟨hz1',hz2'⟩:=HK.out _ (aG (d:=0) hlt0);rw [e1] at hb7;clear e1;have HSP0:=HSP;clear HSP;have HM20:=HM2;clear HM2;generalize x.kids.getD 0 0=z at *;obtain ⟨j,rfl⟩:=Int.eq_ofNat_of_zero_le hz1';have hj:j<before.length:=by omega
   obtain ⟨b2,o2,rfl,-,hc2⟩:=((HSL.out (fun _=>True) (fun _ _=>trivial)).keep (aD.of_ext HE.out) (fun _ h=>h)).2 (by omega);have g2:=bD hj hc2;have HSP:=aV4 (show fQ before x=wrap64 (before.getD j 0+m1) by rw [HSP0.out,HM20.out];rfl);clear hc2 hz1' hz2' HSP0 HM20;generalize before.getD j 0=nn at *;go_wp2_with (at_builtin;go_must (refine aK _ rfl _ _ 22 rfl base 3 i0 (.int .i64 0) 1 8 Tryz.underlying22 HI.out hz0 hz1 hz2 rfl (by decide) _ _ _ rfl (HO2.out.alloc _) (fun _=>True) _ 1 1 [.int .i64 (wrap64 (nn+m1))] rfl (Sl.new _ _ _ _ _ rfl) (by simp [dD]) (by omega) (by omega) (by rw [World.size_alloc,HSZ.out];have:=HBASE.out;omega) ?_);intro v' w1 ho1 hf1 hb1);go_ret;refine ⟨v',rfl,by rw [HSP.out,List.map_append];exact ho1,((Fr.of_ext HE.out).alloc _).trans hf1,?_⟩;rcases hb1 with hb1 | hb1
   ·exact .inl hb1
   ·exact .inr ⟨_,hb1,by have:=(HE.out).size;rw [World.size_alloc];omega⟩
theorem aA7 (before:List Int)(x:GN)(a:NA)(P:Nat->Prop)(base:Nat)(vb:Value)(w:World)(hx:NAt w P x a)(hown:w.ownsRow base 3 1 vb before.length (before.map (Value.int .i64)))
  (hbase:base<=w.heap.size)(hlen:before.length<=100000)(hb64:∀ z ∈ before,I64 z)(hkids:∀ z ∈ x.kids,0<=z∧z<before.length)(hk:x.kind=0) :
  Calls Tryz.prog 59 #[vb,hH x a] w (jK base 3 1 vb (before.length+1) ((before ++ [fI before x]).map (Value.int .i64)) w):=by
 have HX:=aV4 hx;have HO:=aV4 hown;have HK:=aV4 hkids;have HB64:=aV4 hb64;have HBASE:=aV4 hbase;obtain ⟨A,c,hvb,hnc,hcm,hsl⟩:=Sl.of_own hown;unfold maxLen at hcm;have HSL:=aV4 hsl;obtain ⟨hl,hc⟩:=hx.kids.le;have HSP:=aV4 (show fI before x=rsz x.value by unfold fI;rw [if_pos hk]);have t0:(x.kind == 0)=true:=aV6 hk;have t1:(x.kind == 1)=false:=aV5 (by omega);have t2:(x.kind == 2)=false:=aV5 (by omega);have t3:(x.kind == 3)=false:=aV5 (by omega);have t4:(x.kind == 4)=false:=aV5 (by omega);have HKK:=aV4 hk;clear hk;subst hvb;clear hx hown hkids hb64 hbase hsl;obtain ⟨i0,hi,hz0,hz1,hz2⟩:=info_parts Tryz.info3;have HI:=aV4 hi;clear hi;go_enter Tryz.func59,Tryz.ntmps59;go_wp2_with fail;have HBX:=aV4 (show Blk (w.alloc (.cells (aE x a).toArray 87)) w.heap.size 87 (aE x a).toArray from Blk.new _ _ _);have HE:=aV4 (show Ext w (w.alloc (.cells (aE x a).toArray 87)) from (Ext.refl _).alloc' _);have hb0:=HBX.out.cell' (u:=.int .i64 x.kind) 0 rfl;have hb7:=HBX.out.cell' (u:=.slice a.kA x.kids.length a.kc) 7 rfl;have HW:=aV4 (HX.out.kids.ext HE.out);have HO2:=aV4 (HO.out.alloc (.cells (aE x a).toArray 87));have hsz:(w.alloc (.cells (aE x a).toArray 87)).heap.size=w.heap.size+1:=by simp
 have HSZ:=aV4 hsz;clear hsz;generalize hWW:w.alloc (.cells (aE x a).toArray 87)=W at *;clear hWW;go_loopw [5,6,7] (fun s m i wr=>lC before x false 1 W s m i wr) (fun _ _ i _=>x.kids.length - (intOf i).toNat)
 case atStart=>exact ⟨0,_,_,Nat.zero_le _,rfl,rfl,rfl,rfl,rfl,rfl⟩
 case round =>
  obtain ⟨k,s1,m1,hk,rfl,rfl,rfl,rfl,hs,hm⟩:=hrel;have HS:=aV4 hs;have HM:=aV4 hm;clear hs hm
  by_cases hlt:k<x.kids.length
  ·obtain ⟨b1,o1,e1,-,-,g1⟩:=HW.out.get hlt
   have HD:=aV4 (aH 0 hlt);obtain ⟨hz1',hz2'⟩:=HK.out _ (aG (d:=0) hlt);rw [e1] at hb7;clear e1;generalize x.kids.getD k 0=z at *;obtain ⟨j,rfl⟩:=Int.eq_ofNat_of_zero_le hz1';have hj:j<before.length:=by omega
   obtain ⟨b2,o2,rfl,-,hc2⟩:=((HSL.out (fun _=>True) (fun _ _=>trivial)).keep (aD.of_ext HE.out) (fun _ h=>h)).2 (by omega);have g2:=bD hj hc2;have HS2:=aV4 (show bZ before 1 x.kids=bZ before (wrap64 (s1+before.getD j 0)) (x.kids.drop (k+1)) by rw [HS.out,HD.out];rfl);clear hc2 hz1' hz2'
   by_cases hk0:0<k
   ·have tk:decide (0<(k:Int))=true:=aV7 (by omega)
    have HM3:=aV4 (show aL before false 0 0 x.kids=aL before false (k+1) (if m1<before.getD j 0 then before.getD j 0 else m1) (x.kids.drop (k+1)) by
     rw [HM.out,HD.out];show aL before false (k+1) (if false=true∨0<k then _ else _) _=_;rw [if_pos (.inr hk0)];rfl)
    generalize before.getD j 0=nn at *;go_wp2_with fail;go_roundw
    case rel=>exact ⟨k+1,_,_,by omega,by go_num,rfl,rfl,rfl,HS2.out,HM3.out⟩
    case measure=>simp [intOf];omega
   ·have tk:decide (0<(k:Int))=false:=aV8 (by omega)
    have HM3:=aV4 (show aL before false 0 0 x.kids=aL before false (k+1) m1 (x.kids.drop (k+1)) by
     rw [HM.out,HD.out];show aL before false (k+1) (if false=true∨0<k then _ else _) _=_;rw [if_neg (by simp;omega)])
    generalize before.getD j 0=nn at *;go_wp2_with fail;go_roundw
    case rel=>exact ⟨k+1,_,_,by omega,by go_num,rfl,rfl,rfl,HS2.out,HM3.out⟩
    case measure=>simp [intOf];omega
  ·have HS2:=aV4 (show bZ before 1 x.kids=s1 by rw [HS.out,drop_nil (by omega)];rfl)
   have HM2:=aV4 (show aL before false 0 0 x.kids=m1 by rw [HM.out,drop_nil (by omega)];rfl);have hb8:=HBX.out.cell' (u:=.int .i64 x.value.kind) 8 rfl;have hb9:=HBX.out.cell' (u:=.int .i64 x.value.n) 9 rfl;have hb10:=HBX.out.cell' (u:=.string x.value.s) 10 rfl;have hb11:=HBX.out.cell' (u:=.slice a.xA x.value.kids.length a.xc) 11 rfl;go_wp2_with fail;refine (pD x.value a.xA a.xc P _ (HX.out.value.ext HE.out)).mono ?_;rintro e w2 ⟨rfl,hx2⟩;have HE2:=aV4 (HE.out.trans' hx2);have HO3:=aV4 (HO2.out.ext_ hx2);clear hx2;go_wp2_with (at_builtin;go_must (refine aK _ rfl _ _ 22 rfl base 3 i0 (.int .i64 0) 1 8 Tryz.underlying22 HI.out hz0 hz1 hz2 rfl (by decide) _ _ _ rfl (HO3.out.alloc _) (fun _=>True) _ 1 1 [.int .i64 (rsz x.value)] rfl (Sl.new _ _ _ _ _ rfl) (by simp [dD]) (by omega) (by omega) (by have:=HE2.out.size;have:=HBASE.out;rw [World.size_alloc];omega) ?_);intro v' w1 ho1 hf1 hb1);go_ret;refine ⟨v',rfl,by rw [HSP.out,List.map_append];exact ho1,((Fr.of_ext HE2.out).alloc _).trans hf1,?_⟩;rcases hb1 with hb1 | hb1
   ·exact .inl hb1
   ·exact .inr ⟨_,hb1,by have:=(HE2.out).size;rw [World.size_alloc];omega⟩
theorem aA6 (before:List Int)(x:GN)(a:NA)(P:Nat->Prop)(base:Nat)(vb:Value)(w:World)(hx:NAt w P x a)(hown:w.ownsRow base 3 1 vb before.length (before.map (Value.int .i64)))
  (hbase:base<=w.heap.size)(hlen:before.length<=100000)(hb64:∀ z ∈ before,I64 z)(hkids:∀ z ∈ x.kids,0<=z∧z<before.length)(hk:x.kind=1) :
  Calls Tryz.prog 59 #[vb,hH x a] w (jK base 3 1 vb (before.length+1) ((before ++ [fI before x]).map (Value.int .i64)) w):=by
 have HX:=aV4 hx;have HO:=aV4 hown;have HK:=aV4 hkids;have HB64:=aV4 hb64;have HBASE:=aV4 hbase;obtain ⟨A,c,hvb,hnc,hcm,hsl⟩:=Sl.of_own hown;unfold maxLen at hcm;have HSL:=aV4 hsl;obtain ⟨hl,hc⟩:=hx.kids.le;have HSP:=aV4 (show fI before x=1 by unfold fI;rw [if_neg (by omega),if_pos hk]);have t0:(x.kind == 0)=false:=aV5 (by omega);have t1:(x.kind == 1)=true:=aV6 hk;have t2:(x.kind == 2)=false:=aV5 (by omega);have t3:(x.kind == 3)=false:=aV5 (by omega);have t4:(x.kind == 4)=false:=aV5 (by omega);have HKK:=aV4 hk;clear hk;subst hvb;clear hx hown hkids hb64 hbase hsl;obtain ⟨i0,hi,hz0,hz1,hz2⟩:=info_parts Tryz.info3;have HI:=aV4 hi;clear hi;go_enter Tryz.func59,Tryz.ntmps59;go_wp2_with fail;have HBX:=aV4 (show Blk (w.alloc (.cells (aE x a).toArray 87)) w.heap.size 87 (aE x a).toArray from Blk.new _ _ _);have HE:=aV4 (show Ext w (w.alloc (.cells (aE x a).toArray 87)) from (Ext.refl _).alloc' _);have hb0:=HBX.out.cell' (u:=.int .i64 x.kind) 0 rfl;have hb7:=HBX.out.cell' (u:=.slice a.kA x.kids.length a.kc) 7 rfl;have HW:=aV4 (HX.out.kids.ext HE.out);have HO2:=aV4 (HO.out.alloc (.cells (aE x a).toArray 87));have hsz:(w.alloc (.cells (aE x a).toArray 87)).heap.size=w.heap.size+1:=by simp
 have HSZ:=aV4 hsz;clear hsz;generalize hWW:w.alloc (.cells (aE x a).toArray 87)=W at *;clear hWW;go_loopw [5,6,7] (fun s m i wr=>lC before x false 1 W s m i wr) (fun _ _ i _=>x.kids.length - (intOf i).toNat)
 case atStart=>exact ⟨0,_,_,Nat.zero_le _,rfl,rfl,rfl,rfl,rfl,rfl⟩
 case round =>
  obtain ⟨k,s1,m1,hk,rfl,rfl,rfl,rfl,hs,hm⟩:=hrel;have HS:=aV4 hs;have HM:=aV4 hm;clear hs hm
  by_cases hlt:k<x.kids.length
  ·obtain ⟨b1,o1,e1,-,-,g1⟩:=HW.out.get hlt
   have HD:=aV4 (aH 0 hlt);obtain ⟨hz1',hz2'⟩:=HK.out _ (aG (d:=0) hlt);rw [e1] at hb7;clear e1;generalize x.kids.getD k 0=z at *;obtain ⟨j,rfl⟩:=Int.eq_ofNat_of_zero_le hz1';have hj:j<before.length:=by omega
   obtain ⟨b2,o2,rfl,-,hc2⟩:=((HSL.out (fun _=>True) (fun _ _=>trivial)).keep (aD.of_ext HE.out) (fun _ h=>h)).2 (by omega);have g2:=bD hj hc2;have HS2:=aV4 (show bZ before 1 x.kids=bZ before (wrap64 (s1+before.getD j 0)) (x.kids.drop (k+1)) by rw [HS.out,HD.out];rfl);clear hc2 hz1' hz2'
   by_cases hk0:0<k
   ·have tk:decide (0<(k:Int))=true:=aV7 (by omega)
    have HM3:=aV4 (show aL before false 0 0 x.kids=aL before false (k+1) (if m1<before.getD j 0 then before.getD j 0 else m1) (x.kids.drop (k+1)) by
     rw [HM.out,HD.out];show aL before false (k+1) (if false=true∨0<k then _ else _) _=_;rw [if_pos (.inr hk0)];rfl)
    generalize before.getD j 0=nn at *;go_wp2_with fail;go_roundw
    case rel=>exact ⟨k+1,_,_,by omega,by go_num,rfl,rfl,rfl,HS2.out,HM3.out⟩
    case measure=>simp [intOf];omega
   ·have tk:decide (0<(k:Int))=false:=aV8 (by omega)
    have HM3:=aV4 (show aL before false 0 0 x.kids=aL before false (k+1) m1 (x.kids.drop (k+1)) by
     rw [HM.out,HD.out];show aL before false (k+1) (if false=true∨0<k then _ else _) _=_;rw [if_neg (by simp;omega)])
    generalize before.getD j 0=nn at *;go_wp2_with fail;go_roundw
    case rel=>exact ⟨k+1,_,_,by omega,by go_num,rfl,rfl,rfl,HS2.out,HM3.out⟩
    case measure=>simp [intOf];omega
  ·have HS2:=aV4 (show bZ before 1 x.kids=s1 by rw [HS.out,drop_nil (by omega)];rfl)
   have HM2:=aV4 (show aL before false 0 0 x.kids=m1 by rw [HM.out,drop_nil (by omega)];rfl);go_wp2_with (at_builtin;go_must (refine aK _ rfl _ _ 22 rfl base 3 i0 (.int .i64 0) 1 8 Tryz.underlying22 HI.out hz0 hz1 hz2 rfl (by decide) _ _ _ rfl (HO2.out.alloc _) (fun _=>True) _ 1 1 [.int .i64 1] rfl (Sl.new _ _ _ _ _ rfl) (by simp [dD]) (by omega) (by omega) (by rw [World.size_alloc,HSZ.out];have:=HBASE.out;omega) ?_);intro v' w1 ho1 hf1 hb1);go_ret;refine ⟨v',rfl,by rw [HSP.out,List.map_append];exact ho1,((Fr.of_ext HE.out).alloc _).trans hf1,?_⟩;rcases hb1 with hb1 | hb1
   ·exact .inl hb1
   ·exact .inr ⟨_,hb1,by have:=(HE.out).size;rw [World.size_alloc];omega⟩
theorem aA4 (before:List Int)(x:GN)(a:NA)(P:Nat->Prop)(base:Nat)(vb:Value)(w:World)(hx:NAt w P x a)(hown:w.ownsRow base 3 1 vb before.length (before.map (Value.int .i64)))
  (hbase:base<=w.heap.size)(hlen:before.length<=100000)(hb64:∀ z ∈ before,I64 z)(hkids:∀ z ∈ x.kids,0<=z∧z<before.length)(hk:x.kind=3) :
  Calls Tryz.prog 59 #[vb,hH x a] w (jK base 3 1 vb (before.length+1) ((before ++ [fI before x]).map (Value.int .i64)) w):=by
 have HX:=aV4 hx;have HO:=aV4 hown;have HK:=aV4 hkids;have HB64:=aV4 hb64;have HBASE:=aV4 hbase;obtain ⟨A,c,hvb,hnc,hcm,hsl⟩:=Sl.of_own hown;unfold maxLen at hcm;have HSL:=aV4 hsl;obtain ⟨hl,hc⟩:=hx.kids.le;have HSP:=aV4 (show fI before x=bZ before 1 x.kids by unfold fI;rw [if_neg (by omega),if_neg (by omega),if_pos hk]);have t0:(x.kind == 0)=false:=aV5 (by omega);have t1:(x.kind == 1)=false:=aV5 (by omega);have t2:(x.kind == 2)=false:=aV5 (by omega);have t3:(x.kind == 3)=true:=aV6 hk;have t4:(x.kind == 4)=false:=aV5 (by omega);have HKK:=aV4 hk;clear hk;subst hvb;clear hx hown hkids hb64 hbase hsl;obtain ⟨i0,hi,hz0,hz1,hz2⟩:=info_parts Tryz.info3;have HI:=aV4 hi;clear hi;go_enter Tryz.func59,Tryz.ntmps59;go_wp2_with fail;have HBX:=aV4 (show Blk (w.alloc (.cells (aE x a).toArray 87)) w.heap.size 87 (aE x a).toArray from Blk.new _ _ _);have HE:=aV4 (show Ext w (w.alloc (.cells (aE x a).toArray 87)) from (Ext.refl _).alloc' _);have hb0:=HBX.out.cell' (u:=.int .i64 x.kind) 0 rfl;have hb7:=HBX.out.cell' (u:=.slice a.kA x.kids.length a.kc) 7 rfl;have HW:=aV4 (HX.out.kids.ext HE.out);have HO2:=aV4 (HO.out.alloc (.cells (aE x a).toArray 87));have hsz:(w.alloc (.cells (aE x a).toArray 87)).heap.size=w.heap.size+1:=by simp
 have HSZ:=aV4 hsz;clear hsz;generalize hWW:w.alloc (.cells (aE x a).toArray 87)=W at *;clear hWW;go_loopw [5,6,7] (fun s m i wr=>lC before x false 1 W s m i wr) (fun _ _ i _=>x.kids.length - (intOf i).toNat)
 case atStart=>exact ⟨0,_,_,Nat.zero_le _,rfl,rfl,rfl,rfl,rfl,rfl⟩
 case round =>
  obtain ⟨k,s1,m1,hk,rfl,rfl,rfl,rfl,hs,hm⟩:=hrel;have HS:=aV4 hs;have HM:=aV4 hm;clear hs hm
  by_cases hlt:k<x.kids.length
  ·obtain ⟨b1,o1,e1,-,-,g1⟩:=HW.out.get hlt
   have HD:=aV4 (aH 0 hlt);obtain ⟨hz1',hz2'⟩:=HK.out _ (aG (d:=0) hlt);rw [e1] at hb7;clear e1;generalize x.kids.getD k 0=z at *;obtain ⟨j,rfl⟩:=Int.eq_ofNat_of_zero_le hz1';have hj:j<before.length:=by omega
   obtain ⟨b2,o2,rfl,-,hc2⟩:=((HSL.out (fun _=>True) (fun _ _=>trivial)).keep (aD.of_ext HE.out) (fun _ h=>h)).2 (by omega);have g2:=bD hj hc2;have HS2:=aV4 (show bZ before 1 x.kids=bZ before (wrap64 (s1+before.getD j 0)) (x.kids.drop (k+1)) by rw [HS.out,HD.out];rfl);clear hc2 hz1' hz2'
   by_cases hk0:0<k
   ·have tk:decide (0<(k:Int))=true:=aV7 (by omega)
    have HM3:=aV4 (show aL before false 0 0 x.kids=aL before false (k+1) (if m1<before.getD j 0 then before.getD j 0 else m1) (x.kids.drop (k+1)) by
     rw [HM.out,HD.out];show aL before false (k+1) (if false=true∨0<k then _ else _) _=_;rw [if_pos (.inr hk0)];rfl)
    generalize before.getD j 0=nn at *;go_wp2_with fail;go_roundw
    case rel=>exact ⟨k+1,_,_,by omega,by go_num,rfl,rfl,rfl,HS2.out,HM3.out⟩
    case measure=>simp [intOf];omega
   ·have tk:decide (0<(k:Int))=false:=aV8 (by omega)
    have HM3:=aV4 (show aL before false 0 0 x.kids=aL before false (k+1) m1 (x.kids.drop (k+1)) by
     rw [HM.out,HD.out];show aL before false (k+1) (if false=true∨0<k then _ else _) _=_;rw [if_neg (by simp;omega)])
    generalize before.getD j 0=nn at *;go_wp2_with fail;go_roundw
    case rel=>exact ⟨k+1,_,_,by omega,by go_num,rfl,rfl,rfl,HS2.out,HM3.out⟩
    case measure=>simp [intOf];omega
  ·have HS2:=aV4 (show bZ before 1 x.kids=s1 by rw [HS.out,drop_nil (by omega)];rfl)
   have HM2:=aV4 (show aL before false 0 0 x.kids=m1 by rw [HM.out,drop_nil (by omega)];rfl);go_wp2_with (at_builtin;go_must (refine aK _ rfl _ _ 22 rfl base 3 i0 (.int .i64 0) 1 8 Tryz.underlying22 HI.out hz0 hz1 hz2 rfl (by decide) _ _ _ rfl (HO2.out.alloc _) (fun _=>True) _ 1 1 [.int .i64 s1] rfl (Sl.new _ _ _ _ _ rfl) (by simp [dD]) (by omega) (by omega) (by rw [World.size_alloc,HSZ.out];have:=HBASE.out;omega) ?_);intro v' w1 ho1 hf1 hb1);go_ret;refine ⟨v',rfl,by rw [HSP.out,List.map_append];exact (by rw [HS2.out];exact ho1),((Fr.of_ext HE.out).alloc _).trans hf1,?_⟩;rcases hb1 with hb1 | hb1
   ·exact .inl hb1
   ·exact .inr ⟨_,hb1,by have:=(HE.out).size;rw [World.size_alloc];omega⟩
theorem aA5 (before:List Int)(x:GN)(a:NA)(P:Nat->Prop)(base:Nat)(vb:Value)(w:World)(hx:NAt w P x a)(hown:w.ownsRow base 3 1 vb before.length (before.map (Value.int .i64)))
  (hbase:base<=w.heap.size)(hlen:before.length<=100000)(hb64:∀ z ∈ before,I64 z)(hkids:∀ z ∈ x.kids,0<=z∧z<before.length)(hk:x.kind=2) :
  Calls Tryz.prog 59 #[vb,hH x a] w (jK base 3 1 vb (before.length+1) ((before ++ [fI before x]).map (Value.int .i64)) w):=by
 have HX:=aV4 hx;have HO:=aV4 hown;have HK:=aV4 hkids;have HB64:=aV4 hb64;have HBASE:=aV4 hbase;obtain ⟨A,c,hvb,hnc,hcm,hsl⟩:=Sl.of_own hown;unfold maxLen at hcm;have HSL:=aV4 hsl;obtain ⟨hl,hc⟩:=hx.kids.le;have HSP:=aV4 (show fI before x=aL before true 0 0 x.kids by unfold fI;rw [if_neg (by omega),if_neg (by omega),if_neg (by omega),aV7 hk]);have t0:(x.kind == 0)=false:=aV5 (by omega);have t1:(x.kind == 1)=false:=aV5 (by omega);have t2:(x.kind == 2)=true:=aV6 hk;have t3:(x.kind == 3)=false:=aV5 (by omega);have t4:(x.kind == 4)=false:=aV5 (by omega);have HKK:=aV4 hk;clear hk;subst hvb;clear hx hown hkids hb64 hbase hsl;obtain ⟨i0,hi,hz0,hz1,hz2⟩:=info_parts Tryz.info3;have HI:=aV4 hi;clear hi;go_enter Tryz.func59,Tryz.ntmps59;go_wp2_with fail;have HBX:=aV4 (show Blk (w.alloc (.cells (aE x a).toArray 87)) w.heap.size 87 (aE x a).toArray from Blk.new _ _ _);have HE:=aV4 (show Ext w (w.alloc (.cells (aE x a).toArray 87)) from (Ext.refl _).alloc' _);have hb0:=HBX.out.cell' (u:=.int .i64 x.kind) 0 rfl;have hb7:=HBX.out.cell' (u:=.slice a.kA x.kids.length a.kc) 7 rfl;have HW:=aV4 (HX.out.kids.ext HE.out);have HO2:=aV4 (HO.out.alloc (.cells (aE x a).toArray 87));have hsz:(w.alloc (.cells (aE x a).toArray 87)).heap.size=w.heap.size+1:=by simp
 have HSZ:=aV4 hsz;clear hsz;generalize hWW:w.alloc (.cells (aE x a).toArray 87)=W at *;clear hWW;go_loopw [5,6,7] (fun s m i wr=>lC before x true 1 W s m i wr) (fun _ _ i _=>x.kids.length - (intOf i).toNat)
 case atStart=>exact ⟨0,_,_,Nat.zero_le _,rfl,rfl,rfl,rfl,rfl,rfl⟩
 case round =>
  obtain ⟨k,s1,m1,hk,rfl,rfl,rfl,rfl,hs,hm⟩:=hrel;have HS:=aV4 hs;have HM:=aV4 hm;clear hs hm
  by_cases hlt:k<x.kids.length
  ·obtain ⟨b1,o1,e1,-,-,g1⟩:=HW.out.get hlt
   have HD:=aV4 (aH 0 hlt);obtain ⟨hz1',hz2'⟩:=HK.out _ (aG (d:=0) hlt);rw [e1] at hb7;clear e1;generalize x.kids.getD k 0=z at *;obtain ⟨j,rfl⟩:=Int.eq_ofNat_of_zero_le hz1';have hj:j<before.length:=by omega
   obtain ⟨b2,o2,rfl,-,hc2⟩:=((HSL.out (fun _=>True) (fun _ _=>trivial)).keep (aD.of_ext HE.out) (fun _ h=>h)).2 (by omega);have g2:=bD hj hc2;have HS2:=aV4 (show bZ before 1 x.kids=bZ before (wrap64 (s1+before.getD j 0)) (x.kids.drop (k+1)) by rw [HS.out,HD.out];rfl);clear hc2 hz1' hz2';have HM3:=aV4 (show aL before true 0 0 x.kids=aL before true (k+1) (if m1<before.getD j 0 then before.getD j 0 else m1) (x.kids.drop (k+1)) by rw [HM.out,HD.out];rfl);generalize before.getD j 0=nn at *;go_wp2_with fail;go_roundw
   case rel=>exact ⟨k+1,_,_,by omega,by go_num,rfl,rfl,rfl,HS2.out,HM3.out⟩
   case measure=>simp [intOf];omega
  ·have HS2:=aV4 (show bZ before 1 x.kids=s1 by rw [HS.out,drop_nil (by omega)];rfl)
   have HM2:=aV4 (show aL before true 0 0 x.kids=m1 by rw [HM.out,drop_nil (by omega)];rfl);go_wp2_with (at_builtin;go_must (refine aK _ rfl _ _ 22 rfl base 3 i0 (.int .i64 0) 1 8 Tryz.underlying22 HI.out hz0 hz1 hz2 rfl (by decide) _ _ _ rfl (HO2.out.alloc _) (fun _=>True) _ 1 1 [.int .i64 m1] rfl (Sl.new _ _ _ _ _ rfl) (by simp [dD]) (by omega) (by omega) (by rw [World.size_alloc,HSZ.out];have:=HBASE.out;omega) ?_);intro v' w1 ho1 hf1 hb1);go_ret;refine ⟨v',rfl,by rw [HSP.out,List.map_append];exact (by rw [HM2.out];exact ho1),((Fr.of_ext HE.out).alloc _).trans hf1,?_⟩;rcases hb1 with hb1 | hb1
   ·exact .inl hb1
   ·exact .inr ⟨_,hb1,by have:=(HE.out).size;rw [World.size_alloc];omega⟩
theorem aA3 (before:List Int)(x:GN)(a:NA)(P:Nat->Prop)(base:Nat)(vb:Value)(w:World)(hx:NAt w P x a)(hown:w.ownsRow base 3 1 vb before.length (before.map (Value.int .i64)))
  (hbase:base<=w.heap.size)(hlen:before.length<=100000)(hb64:∀ z ∈ before,I64 z)(hkids:∀ z ∈ x.kids,0<=z∧z<before.length)(hk:x.kind=4) :
  Calls Tryz.prog 59 #[vb,hH x a] w (jK base 3 1 vb (before.length+1) ((before ++ [fI before x]).map (Value.int .i64)) w):=by
 have HX:=aV4 hx;have HO:=aV4 hown;have HK:=aV4 hkids;have HB64:=aV4 hb64;have HBASE:=aV4 hbase;obtain ⟨A,c,hvb,hnc,hcm,hsl⟩:=Sl.of_own hown;unfold maxLen at hcm;have HSL:=aV4 hsl;obtain ⟨hl,hc⟩:=hx.kids.le;have HSP:=aV4 (show fI before x=aL before false 0 0 x.kids by unfold fI;rw [if_neg (by omega),if_neg (by omega),if_neg (by omega),aV8 (by omega)]);have t0:(x.kind == 0)=false:=aV5 (by omega);have t1:(x.kind == 1)=false:=aV5 (by omega);have t2:(x.kind == 2)=false:=aV5 (by omega);have t3:(x.kind == 3)=false:=aV5 (by omega);have t4:(x.kind == 4)=true:=aV6 hk;have HKK:=aV4 hk;clear hk;subst hvb;clear hx hown hkids hb64 hbase hsl;obtain ⟨i0,hi,hz0,hz1,hz2⟩:=info_parts Tryz.info3;have HI:=aV4 hi;clear hi;go_enter Tryz.func59,Tryz.ntmps59;go_wp2_with fail;have HBX:=aV4 (show Blk (w.alloc (.cells (aE x a).toArray 87)) w.heap.size 87 (aE x a).toArray from Blk.new _ _ _);have HE:=aV4 (show Ext w (w.alloc (.cells (aE x a).toArray 87)) from (Ext.refl _).alloc' _);have hb0:=HBX.out.cell' (u:=.int .i64 x.kind) 0 rfl;have hb7:=HBX.out.cell' (u:=.slice a.kA x.kids.length a.kc) 7 rfl;have HW:=aV4 (HX.out.kids.ext HE.out);have HO2:=aV4 (HO.out.alloc (.cells (aE x a).toArray 87));have hsz:(w.alloc (.cells (aE x a).toArray 87)).heap.size=w.heap.size+1:=by simp
 have HSZ:=aV4 hsz;clear hsz;generalize hWW:w.alloc (.cells (aE x a).toArray 87)=W at *;clear hWW;go_loopw [5,6,7] (fun s m i wr=>lC before x false 1 W s m i wr) (fun _ _ i _=>x.kids.length - (intOf i).toNat)
 case atStart=>exact ⟨0,_,_,Nat.zero_le _,rfl,rfl,rfl,rfl,rfl,rfl⟩
 case round =>
  obtain ⟨k,s1,m1,hk,rfl,rfl,rfl,rfl,hs,hm⟩:=hrel;have HS:=aV4 hs;have HM:=aV4 hm;clear hs hm
  by_cases hlt:k<x.kids.length
  ·obtain ⟨b1,o1,e1,-,-,g1⟩:=HW.out.get hlt
   have HD:=aV4 (aH 0 hlt);obtain ⟨hz1',hz2'⟩:=HK.out _ (aG (d:=0) hlt);rw [e1] at hb7;clear e1;generalize x.kids.getD k 0=z at *;obtain ⟨j,rfl⟩:=Int.eq_ofNat_of_zero_le hz1';have hj:j<before.length:=by omega
   obtain ⟨b2,o2,rfl,-,hc2⟩:=((HSL.out (fun _=>True) (fun _ _=>trivial)).keep (aD.of_ext HE.out) (fun _ h=>h)).2 (by omega);have g2:=bD hj hc2;have HS2:=aV4 (show bZ before 1 x.kids=bZ before (wrap64 (s1+before.getD j 0)) (x.kids.drop (k+1)) by rw [HS.out,HD.out];rfl);clear hc2 hz1' hz2'
   by_cases hk0:0<k
   ·have tk:decide (0<(k:Int))=true:=aV7 (by omega)
    have HM3:=aV4 (show aL before false 0 0 x.kids=aL before false (k+1) (if m1<before.getD j 0 then before.getD j 0 else m1) (x.kids.drop (k+1)) by
     rw [HM.out,HD.out];show aL before false (k+1) (if false=true∨0<k then _ else _) _=_;rw [if_pos (.inr hk0)];rfl)
    generalize before.getD j 0=nn at *;go_wp2_with fail;go_roundw
    case rel=>exact ⟨k+1,_,_,by omega,by go_num,rfl,rfl,rfl,HS2.out,HM3.out⟩
    case measure=>simp [intOf];omega
   ·have tk:decide (0<(k:Int))=false:=aV8 (by omega)
    have HM3:=aV4 (show aL before false 0 0 x.kids=aL before false (k+1) m1 (x.kids.drop (k+1)) by
     rw [HM.out,HD.out];show aL before false (k+1) (if false=true∨0<k then _ else _) _=_;rw [if_neg (by simp;omega)])
    generalize before.getD j 0=nn at *;go_wp2_with fail;go_roundw
    case rel=>exact ⟨k+1,_,_,by omega,by go_num,rfl,rfl,rfl,HS2.out,HM3.out⟩
    case measure=>simp [intOf];omega
  ·have HS2:=aV4 (show bZ before 1 x.kids=s1 by rw [HS.out,drop_nil (by omega)];rfl)
   have HM2:=aV4 (show aL before false 0 0 x.kids=m1 by rw [HM.out,drop_nil (by omega)];rfl);go_wp2_with (at_builtin;go_must (refine aK _ rfl _ _ 22 rfl base 3 i0 (.int .i64 0) 1 8 Tryz.underlying22 HI.out hz0 hz1 hz2 rfl (by decide) _ _ _ rfl (HO2.out.alloc _) (fun _=>True) _ 1 1 [.int .i64 m1] rfl (Sl.new _ _ _ _ _ rfl) (by simp [dD]) (by omega) (by omega) (by rw [World.size_alloc,HSZ.out];have:=HBASE.out;omega) ?_);intro v' w1 ho1 hf1 hb1);go_ret;refine ⟨v',rfl,by rw [HSP.out,List.map_append];exact (by rw [HM2.out];exact ho1),((Fr.of_ext HE.out).alloc _).trans hf1,?_⟩;rcases hb1 with hb1 | hb1
   ·exact .inl hb1
   ·exact .inr ⟨_,hb1,by have:=(HE.out).size;rw [World.size_alloc];omega⟩
end Go.Proofs.YtkoeecdjijfjnaaGreat
