/- Contracts of functions, plain laws. Conditions: none. -/
import Derived.Test.YtkoeecdjijfjnaaGreatB2
set_option maxRecDepth 100000
set_option maxHeartbeats 8000000
namespace Go.Proofs.YtkoeecdjijfjnaaGreat
open Go.RowKit
theorem Tryz.info3:(Tryz.prog.info? 3).map (fun i=>(i.zero,i.size,i.bytes))=some (some (.int .i64 0),1,8):=Y
def bV (before:List Int):Int->List Int->Int
 | s,[]=>s
 | s,z :: zs=>bV before (wrap64 (s+before.getD z.toNat 0)) zs
def aK (before:List Int)(ch:Bool):Nat->Int->List Int->Int
 | _,m,[]=>m
 | i,m,z :: zs=>aK before ch (i+1) (if ch=true∨0<i then (if m<before.getD z.toNat 0 then before.getD z.toNat 0 else m) else m) zs
def fN (before:List Int)(x:GN):Int :=
 if x.kind=0 then 0 else if x.kind=1 then 1 else if x.kind=3 then bV before 0 x.kids
 else if x.kind=2 then wrap64 (1+aK before true 0 0 x.kids)
 else wrap64 (before.getD (x.kids.getD 0 0).toNat 0+aK before false 0 0 x.kids)
def fE (before:List Int)(x:GN):Int :=
 if x.kind=0 then rsz x.value else if x.kind=1 then 1 else if x.kind=3 then bV before 1 x.kids
 else aK before (decide (x.kind=2)) 0 0 x.kids
def jB (base:Nat)(e:TypeId)(size:Nat)(vb:Value)(n:Nat)(xs:List Value)(w:World)(en:Ending)(w':World):Prop :=
 ∃ v',en=.returned v'∧w'.ownsRow base e size v' n xs∧Fr (fun k=>some k=vb.ownBlock) w w'∧(v'.ownBlock=vb.ownBlock∨∃ b,v'.ownBlock=some b∧w.heap.size<=b)
def kO (before:List Int)(x:GN)(ch:Bool)(s0:Int)(W:World)(s m i:Value)(wr:World):Prop :=
 ∃ (k:Nat) (s1 m1:Int),k<=x.kids.length∧i=↑k∧s=↑s1∧m=↑m1∧wr=W ∧
  bV before s0 x.kids=bV before s1 (x.kids.drop k)∧aK before ch 0 0 x.kids=aK before ch k m1 (x.kids.drop k)
theorem Sl.new (W:World)(cs:List Value)(t:TypeId)(n size:Nat)(h:cs.length=n*size):Sl (W.alloc (.cells cs.toArray t)) (fun _=>True) size (some ⟨W.heap.size,0,none⟩) n cs :=
 ⟨h,fun _=>⟨W.heap.size,0,rfl,trivial,fun j u hu=>by rw [iU];simpa using hu⟩⟩
theorem _root_.Go.World.ownsRow.ext_ {w w':World}{base:Nat}{e:TypeId}{size:Nat}{v:Value}{n:Nat}{xs:List Value}(h:w.ownsRow base e size v n xs)(hx:Ext w w'):w'.ownsRow base e size v n xs:=by
 refine ⟨h.1,?_⟩;rcases h.2 with h | ⟨g,cap,cur,h1,h2,h3,h4⟩
 ·exact .inl h
 ·exact .inr ⟨g,cap,cur,h1,h2,(Blk.ext (t:=e) h3 hx),h4⟩
theorem dA (k:IntKind)(n:Int):(Value.int k n).oneCell'=true:=rfl
theorem wD (before:List Int)(x:GN)(a:NA)(P:Nat->Prop)(base:Nat)(vb:Value)(w:World)(hx:NAt w P x a)(hown:w.ownsRow base 3 1 vb before.length (before.map (Value.int .i64)))
  (hbase:base<=w.heap.size)(hlen:before.length<=100000)(hb64:∀ z ∈ before,I64 z)(hkids:∀ z ∈ x.kids,0<=z∧z<before.length)(hk:x.kind=0) :
  Calls Tryz.prog 58 #[vb,fF x a] w (jB base 3 1 vb (before.length+1) ((before ++ [fN before x]).map (Value.int .i64)) w):=by
 have HX:=aZv hx;have HO:=aZv hown;have HK:=aZv hkids;have HB64:=aZv hb64;have HBASE:=aZv hbase;obtain ⟨A,c,hvb,hnc,hcm,hsl⟩:=Sl.of_own hown;unfold maxLen at hcm;have HSL:=aZv hsl;obtain ⟨hl,hc⟩:=hx.kids.le;have HSP:=aZv (show fN before x=0 by unfold fN;rw [if_pos hk]);have t0:(x.kind == 0)=true:=aZx hk;have t1:(x.kind == 1)=false:=aZw D;have t2:(x.kind == 2)=false:=aZw D;have t3:(x.kind == 3)=false:=aZw D;have t4:(x.kind == 4)=false:=aZw D;have HKK:=aZv hk;clear hk;subst hvb;clear hx hown hkids hb64 hbase hsl;obtain ⟨i0,hi,hz0,hz1,hz2⟩:=info_parts Tryz.info3;have HI:=aZv hi;clear hi;go_enter Tryz.func58,Tryz.ntmps58;go_wp2_with fail;have HBX:=aZv (show Blk (w.alloc (.cells (aE x a).toArray 87)) w.heap.size 87 (aE x a).toArray from Blk.new _ _ _);have HE:=aZv (show Ext w (w.alloc (.cells (aE x a).toArray 87)) from (Ext.refl _).alloc' _);have hb0:=HBX.out.cell' (u:=↑x.kind) 0 rfl;have hb7:=HBX.out.cell' (u:=.slice a.kA x.kids.length a.kc) 7 rfl;have HW:=aZv (HX.out.kids.ext HE.out);have HO2:=aZv (HO.out.alloc (.cells (aE x a).toArray 87));have hsz:(w.alloc (.cells (aE x a).toArray 87)).heap.size=w.heap.size+1:=by simp
 have HSZ:=aZv hsz;clear hsz;generalize hWW:w.alloc (.cells (aE x a).toArray 87)=W at *;clear hWW;go_loopw [5,6,7] (fun s m i wr=>kO before x false 0 W s m i wr) (fun _ _ i _=>x.kids.length - (intOf i).toNat)
 case atStart=>exact ⟨0,_,_,Nat.zero_le _,rfl,rfl,rfl,rfl,rfl,rfl⟩
 case round =>
  obtain ⟨k,s1,m1,hk,rfl,rfl,rfl,rfl,hs,hm⟩:=hrel;have HS:=aZv hs;have HM:=aZv hm;clear hs hm
  by_cases hlt:k<x.kids.length
  ·obtain ⟨b1,o1,e1,-,-,g1⟩:=HW.out.get hlt
   have HD:=aZv (aF 0 hlt);obtain ⟨hz1',hz2'⟩:=HK.out _ (aD (d:=0) hlt);rw [e1] at hb7;clear e1;generalize x.kids.getD k 0=z at *;obtain ⟨j,rfl⟩:=Int.eq_ofNat_of_zero_le hz1';have hj:j<before.length:=by omega
   obtain ⟨b2,o2,rfl,-,hc2⟩:=((HSL.out (fun _=>True) (fun _ _=>trivial)).keep (aB.of_ext HE.out) (fun _ h=>h)).2 D;have g2:=aZ hj hc2;have HS2:=aZv (show bV before 0 x.kids=bV before (wrap64 (s1+before.getD j 0)) (x.kids.drop (k+1)) by rw [HS.out,HD.out];rfl);clear hc2 hz1' hz2'
   by_cases hk0:0<k
   ·have tk:decide (0<(k:Int))=true:=aZy D
    have HM3:=aZv (show aK before false 0 0 x.kids=aK before false (k+1) (if m1<before.getD j 0 then before.getD j 0 else m1) (x.kids.drop (k+1)) by
     rw [HM.out,HD.out];show aK before false (k+1) (if false=true∨0<k then _ else _) _=_;rw [if_pos (.inr hk0)];rfl)
    generalize before.getD j 0=nn at *;go_wp2_with fail;go_roundw
    case rel=>exact ⟨k+1,_,_,D,by go_num,rfl,rfl,rfl,HS2.out,HM3.out⟩
    case measure=>simp [intOf];omega
   ·have tk:decide (0<(k:Int))=false:=aZz D
    have HM3:=aZv (show aK before false 0 0 x.kids=aK before false (k+1) m1 (x.kids.drop (k+1)) by
     rw [HM.out,HD.out];show aK before false (k+1) (if false=true∨0<k then _ else _) _=_;rw [if_neg aa])
    generalize before.getD j 0=nn at *;go_wp2_with fail;go_roundw
    case rel=>exact ⟨k+1,_,_,D,by go_num,rfl,rfl,rfl,HS2.out,HM3.out⟩
    case measure=>simp [intOf];omega
  ·have HS2:=aZv (show bV before 0 x.kids=s1 by rw [HS.out,drop_nil D];rfl)
   have HM2:=aZv (show aK before false 0 0 x.kids=m1 by rw [HM.out,drop_nil D];rfl);go_wp2_with (at_builtin;go_must (refine aI _ rfl _ _ 22 rfl base 3 i0 (.int .i64 0) 1 8 Tryz.underlying22 HI.out hz0 hz1 hz2 rfl ao _ _ _ rfl (HO2.out.alloc _) (fun _=>True) _ 1 1 [.int .i64 0] rfl (Sl.new _ _ _ _ _ rfl) fd D D al ?_);intro v' w1 ho1 hf1 hb1);go_ret;refine ⟨v',rfl,ci,((Fr.of_ext HE.out).alloc _).trans hf1,?_⟩;rcases hb1 with hb1 | hb1
   ·exact .inl hb1
   ·exact .inr ⟨_,hb1,am⟩
theorem wC (before:List Int)(x:GN)(a:NA)(P:Nat->Prop)(base:Nat)(vb:Value)(w:World)(hx:NAt w P x a)(hown:w.ownsRow base 3 1 vb before.length (before.map (Value.int .i64)))
  (hbase:base<=w.heap.size)(hlen:before.length<=100000)(hb64:∀ z ∈ before,I64 z)(hkids:∀ z ∈ x.kids,0<=z∧z<before.length)(hk:x.kind=1) :
  Calls Tryz.prog 58 #[vb,fF x a] w (jB base 3 1 vb (before.length+1) ((before ++ [fN before x]).map (Value.int .i64)) w):=by
 have HX:=aZv hx;have HO:=aZv hown;have HK:=aZv hkids;have HB64:=aZv hb64;have HBASE:=aZv hbase;obtain ⟨A,c,hvb,hnc,hcm,hsl⟩:=Sl.of_own hown;unfold maxLen at hcm;have HSL:=aZv hsl;obtain ⟨hl,hc⟩:=hx.kids.le;have HSP:=aZv (show fN before x=1 by unfold fN;rw [if_neg D,if_pos hk]);have t0:(x.kind == 0)=false:=aZw D;have t1:(x.kind == 1)=true:=aZx hk;have t2:(x.kind == 2)=false:=aZw D;have t3:(x.kind == 3)=false:=aZw D;have t4:(x.kind == 4)=false:=aZw D;have HKK:=aZv hk;clear hk;subst hvb;clear hx hown hkids hb64 hbase hsl;obtain ⟨i0,hi,hz0,hz1,hz2⟩:=info_parts Tryz.info3;have HI:=aZv hi;clear hi;go_enter Tryz.func58,Tryz.ntmps58;go_wp2_with fail;have HBX:=aZv (show Blk (w.alloc (.cells (aE x a).toArray 87)) w.heap.size 87 (aE x a).toArray from Blk.new _ _ _);have HE:=aZv (show Ext w (w.alloc (.cells (aE x a).toArray 87)) from (Ext.refl _).alloc' _);have hb0:=HBX.out.cell' (u:=↑x.kind) 0 rfl;have hb7:=HBX.out.cell' (u:=.slice a.kA x.kids.length a.kc) 7 rfl;have HW:=aZv (HX.out.kids.ext HE.out);have HO2:=aZv (HO.out.alloc (.cells (aE x a).toArray 87));have hsz:(w.alloc (.cells (aE x a).toArray 87)).heap.size=w.heap.size+1:=by simp
 have HSZ:=aZv hsz;clear hsz;generalize hWW:w.alloc (.cells (aE x a).toArray 87)=W at *;clear hWW;go_loopw [5,6,7] (fun s m i wr=>kO before x false 0 W s m i wr) (fun _ _ i _=>x.kids.length - (intOf i).toNat)
 case atStart=>exact ⟨0,_,_,Nat.zero_le _,rfl,rfl,rfl,rfl,rfl,rfl⟩
 case round =>
  obtain ⟨k,s1,m1,hk,rfl,rfl,rfl,rfl,hs,hm⟩:=hrel;have HS:=aZv hs;have HM:=aZv hm;clear hs hm
  by_cases hlt:k<x.kids.length
  ·obtain ⟨b1,o1,e1,-,-,g1⟩:=HW.out.get hlt
   have HD:=aZv (aF 0 hlt);obtain ⟨hz1',hz2'⟩:=HK.out _ (aD (d:=0) hlt);rw [e1] at hb7;clear e1;generalize x.kids.getD k 0=z at *;obtain ⟨j,rfl⟩:=Int.eq_ofNat_of_zero_le hz1';have hj:j<before.length:=by omega
   obtain ⟨b2,o2,rfl,-,hc2⟩:=((HSL.out (fun _=>True) (fun _ _=>trivial)).keep (aB.of_ext HE.out) (fun _ h=>h)).2 D;have g2:=aZ hj hc2;have HS2:=aZv (show bV before 0 x.kids=bV before (wrap64 (s1+before.getD j 0)) (x.kids.drop (k+1)) by rw [HS.out,HD.out];rfl);clear hc2 hz1' hz2'
   by_cases hk0:0<k
   ·have tk:decide (0<(k:Int))=true:=aZy D
    have HM3:=aZv (show aK before false 0 0 x.kids=aK before false (k+1) (if m1<before.getD j 0 then before.getD j 0 else m1) (x.kids.drop (k+1)) by
     rw [HM.out,HD.out];show aK before false (k+1) (if false=true∨0<k then _ else _) _=_;rw [if_pos (.inr hk0)];rfl)
    generalize before.getD j 0=nn at *;go_wp2_with fail;go_roundw
    case rel=>exact ⟨k+1,_,_,D,by go_num,rfl,rfl,rfl,HS2.out,HM3.out⟩
    case measure=>simp [intOf];omega
   ·have tk:decide (0<(k:Int))=false:=aZz D
    have HM3:=aZv (show aK before false 0 0 x.kids=aK before false (k+1) m1 (x.kids.drop (k+1)) by
     rw [HM.out,HD.out];show aK before false (k+1) (if false=true∨0<k then _ else _) _=_;rw [if_neg aa])
    generalize before.getD j 0=nn at *;go_wp2_with fail;go_roundw
    case rel=>exact ⟨k+1,_,_,D,by go_num,rfl,rfl,rfl,HS2.out,HM3.out⟩
    case measure=>simp [intOf];omega
  ·have HS2:=aZv (show bV before 0 x.kids=s1 by rw [HS.out,drop_nil D];rfl)
   have HM2:=aZv (show aK before false 0 0 x.kids=m1 by rw [HM.out,drop_nil D];rfl);go_wp2_with (at_builtin;go_must (refine aI _ rfl _ _ 22 rfl base 3 i0 (.int .i64 0) 1 8 Tryz.underlying22 HI.out hz0 hz1 hz2 rfl ao _ _ _ rfl (HO2.out.alloc _) (fun _=>True) _ 1 1 [.int .i64 1] rfl (Sl.new _ _ _ _ _ rfl) fd D D al ?_);intro v' w1 ho1 hf1 hb1);go_ret;refine ⟨v',rfl,ci,((Fr.of_ext HE.out).alloc _).trans hf1,?_⟩;rcases hb1 with hb1 | hb1
   ·exact .inl hb1
   ·exact .inr ⟨_,hb1,am⟩
theorem vZ (before:List Int)(x:GN)(a:NA)(P:Nat->Prop)(base:Nat)(vb:Value)(w:World)(hx:NAt w P x a)(hown:w.ownsRow base 3 1 vb before.length (before.map (Value.int .i64)))
  (hbase:base<=w.heap.size)(hlen:before.length<=100000)(hb64:∀ z ∈ before,I64 z)(hkids:∀ z ∈ x.kids,0<=z∧z<before.length)(hk:x.kind=3) :
  Calls Tryz.prog 58 #[vb,fF x a] w (jB base 3 1 vb (before.length+1) ((before ++ [fN before x]).map (Value.int .i64)) w):=by
 have HX:=aZv hx;have HO:=aZv hown;have HK:=aZv hkids;have HB64:=aZv hb64;have HBASE:=aZv hbase;obtain ⟨A,c,hvb,hnc,hcm,hsl⟩:=Sl.of_own hown;unfold maxLen at hcm;have HSL:=aZv hsl;obtain ⟨hl,hc⟩:=hx.kids.le;have HSP:=aZv (show fN before x=bV before 0 x.kids by unfold fN;rw [if_neg D,if_neg D,if_pos hk]);have t0:(x.kind == 0)=false:=aZw D;have t1:(x.kind == 1)=false:=aZw D;have t2:(x.kind == 2)=false:=aZw D;have t3:(x.kind == 3)=true:=aZx hk;have t4:(x.kind == 4)=false:=aZw D;have HKK:=aZv hk;clear hk;subst hvb;clear hx hown hkids hb64 hbase hsl;obtain ⟨i0,hi,hz0,hz1,hz2⟩:=info_parts Tryz.info3;have HI:=aZv hi;clear hi;go_enter Tryz.func58,Tryz.ntmps58;go_wp2_with fail;have HBX:=aZv (show Blk (w.alloc (.cells (aE x a).toArray 87)) w.heap.size 87 (aE x a).toArray from Blk.new _ _ _);have HE:=aZv (show Ext w (w.alloc (.cells (aE x a).toArray 87)) from (Ext.refl _).alloc' _);have hb0:=HBX.out.cell' (u:=↑x.kind) 0 rfl;have hb7:=HBX.out.cell' (u:=.slice a.kA x.kids.length a.kc) 7 rfl;have HW:=aZv (HX.out.kids.ext HE.out);have HO2:=aZv (HO.out.alloc (.cells (aE x a).toArray 87));have hsz:(w.alloc (.cells (aE x a).toArray 87)).heap.size=w.heap.size+1:=by simp
 have HSZ:=aZv hsz;clear hsz;generalize hWW:w.alloc (.cells (aE x a).toArray 87)=W at *;clear hWW;go_loopw [5,6,7] (fun s m i wr=>kO before x false 0 W s m i wr) (fun _ _ i _=>x.kids.length - (intOf i).toNat)
 case atStart=>exact ⟨0,_,_,Nat.zero_le _,rfl,rfl,rfl,rfl,rfl,rfl⟩
 case round =>
  obtain ⟨k,s1,m1,hk,rfl,rfl,rfl,rfl,hs,hm⟩:=hrel;have HS:=aZv hs;have HM:=aZv hm;clear hs hm
  by_cases hlt:k<x.kids.length
  ·obtain ⟨b1,o1,e1,-,-,g1⟩:=HW.out.get hlt
   have HD:=aZv (aF 0 hlt);obtain ⟨hz1',hz2'⟩:=HK.out _ (aD (d:=0) hlt);rw [e1] at hb7;clear e1;generalize x.kids.getD k 0=z at *;obtain ⟨j,rfl⟩:=Int.eq_ofNat_of_zero_le hz1';have hj:j<before.length:=by omega
   obtain ⟨b2,o2,rfl,-,hc2⟩:=((HSL.out (fun _=>True) (fun _ _=>trivial)).keep (aB.of_ext HE.out) (fun _ h=>h)).2 D;have g2:=aZ hj hc2;have HS2:=aZv (show bV before 0 x.kids=bV before (wrap64 (s1+before.getD j 0)) (x.kids.drop (k+1)) by rw [HS.out,HD.out];rfl);clear hc2 hz1' hz2'
   by_cases hk0:0<k
   ·have tk:decide (0<(k:Int))=true:=aZy D
    have HM3:=aZv (show aK before false 0 0 x.kids=aK before false (k+1) (if m1<before.getD j 0 then before.getD j 0 else m1) (x.kids.drop (k+1)) by
     rw [HM.out,HD.out];show aK before false (k+1) (if false=true∨0<k then _ else _) _=_;rw [if_pos (.inr hk0)];rfl)
    generalize before.getD j 0=nn at *;go_wp2_with fail;go_roundw
    case rel=>exact ⟨k+1,_,_,D,by go_num,rfl,rfl,rfl,HS2.out,HM3.out⟩
    case measure=>simp [intOf];omega
   ·have tk:decide (0<(k:Int))=false:=aZz D
    have HM3:=aZv (show aK before false 0 0 x.kids=aK before false (k+1) m1 (x.kids.drop (k+1)) by
     rw [HM.out,HD.out];show aK before false (k+1) (if false=true∨0<k then _ else _) _=_;rw [if_neg aa])
    generalize before.getD j 0=nn at *;go_wp2_with fail;go_roundw
    case rel=>exact ⟨k+1,_,_,D,by go_num,rfl,rfl,rfl,HS2.out,HM3.out⟩
    case measure=>simp [intOf];omega
  ·have HS2:=aZv (show bV before 0 x.kids=s1 by rw [HS.out,drop_nil D];rfl)
   have HM2:=aZv (show aK before false 0 0 x.kids=m1 by rw [HM.out,drop_nil D];rfl);go_wp2_with (at_builtin;go_must (refine aI _ rfl _ _ 22 rfl base 3 i0 (.int .i64 0) 1 8 Tryz.underlying22 HI.out hz0 hz1 hz2 rfl ao _ _ _ rfl (HO2.out.alloc _) (fun _=>True) _ 1 1 [.int .i64 s1] rfl (Sl.new _ _ _ _ _ rfl) fd D D al ?_);intro v' w1 ho1 hf1 hb1);go_ret;refine ⟨v',rfl,ez,((Fr.of_ext HE.out).alloc _).trans hf1,?_⟩;rcases hb1 with hb1 | hb1
   ·exact .inl hb1
   ·exact .inr ⟨_,hb1,am⟩
theorem wB (before:List Int)(x:GN)(a:NA)(P:Nat->Prop)(base:Nat)(vb:Value)(w:World)(hx:NAt w P x a)(hown:w.ownsRow base 3 1 vb before.length (before.map (Value.int .i64)))
  (hbase:base<=w.heap.size)(hlen:before.length<=100000)(hb64:∀ z ∈ before,I64 z)(hkids:∀ z ∈ x.kids,0<=z∧z<before.length)(hk:x.kind=2) :
  Calls Tryz.prog 58 #[vb,fF x a] w (jB base 3 1 vb (before.length+1) ((before ++ [fN before x]).map (Value.int .i64)) w):=by
 have HX:=aZv hx;have HO:=aZv hown;have HK:=aZv hkids;have HB64:=aZv hb64;have HBASE:=aZv hbase;obtain ⟨A,c,hvb,hnc,hcm,hsl⟩:=Sl.of_own hown;unfold maxLen at hcm;have HSL:=aZv hsl;obtain ⟨hl,hc⟩:=hx.kids.le;have HSP:=aZv (show fN before x=wrap64 (1+aK before true 0 0 x.kids) by unfold fN;rw [if_neg D,if_neg D,if_neg D,if_pos hk]);have t0:(x.kind == 0)=false:=aZw D;have t1:(x.kind == 1)=false:=aZw D;have t2:(x.kind == 2)=true:=aZx hk;have t3:(x.kind == 3)=false:=aZw D;have t4:(x.kind == 4)=false:=aZw D;have HKK:=aZv hk;clear hk;subst hvb;clear hx hown hkids hb64 hbase hsl;obtain ⟨i0,hi,hz0,hz1,hz2⟩:=info_parts Tryz.info3;have HI:=aZv hi;clear hi;go_enter Tryz.func58,Tryz.ntmps58;go_wp2_with fail;have HBX:=aZv (show Blk (w.alloc (.cells (aE x a).toArray 87)) w.heap.size 87 (aE x a).toArray from Blk.new _ _ _);have HE:=aZv (show Ext w (w.alloc (.cells (aE x a).toArray 87)) from (Ext.refl _).alloc' _);have hb0:=HBX.out.cell' (u:=↑x.kind) 0 rfl;have hb7:=HBX.out.cell' (u:=.slice a.kA x.kids.length a.kc) 7 rfl;have HW:=aZv (HX.out.kids.ext HE.out);have HO2:=aZv (HO.out.alloc (.cells (aE x a).toArray 87));have hsz:(w.alloc (.cells (aE x a).toArray 87)).heap.size=w.heap.size+1:=by simp
 have HSZ:=aZv hsz;clear hsz;generalize hWW:w.alloc (.cells (aE x a).toArray 87)=W at *;clear hWW;go_loopw [5,6,7] (fun s m i wr=>kO before x true 0 W s m i wr) (fun _ _ i _=>x.kids.length - (intOf i).toNat)
 case atStart=>exact ⟨0,_,_,Nat.zero_le _,rfl,rfl,rfl,rfl,rfl,rfl⟩
 case round =>
  obtain ⟨k,s1,m1,hk,rfl,rfl,rfl,rfl,hs,hm⟩:=hrel;have HS:=aZv hs;have HM:=aZv hm;clear hs hm
  by_cases hlt:k<x.kids.length
  ·obtain ⟨b1,o1,e1,-,-,g1⟩:=HW.out.get hlt
   have HD:=aZv (aF 0 hlt);obtain ⟨hz1',hz2'⟩:=HK.out _ (aD (d:=0) hlt);rw [e1] at hb7;clear e1;generalize x.kids.getD k 0=z at *;obtain ⟨j,rfl⟩:=Int.eq_ofNat_of_zero_le hz1';have hj:j<before.length:=by omega
   obtain ⟨b2,o2,rfl,-,hc2⟩:=((HSL.out (fun _=>True) (fun _ _=>trivial)).keep (aB.of_ext HE.out) (fun _ h=>h)).2 D;have g2:=aZ hj hc2;have HS2:=aZv (show bV before 0 x.kids=bV before (wrap64 (s1+before.getD j 0)) (x.kids.drop (k+1)) by rw [HS.out,HD.out];rfl);clear hc2 hz1' hz2';have HM3:=aZv (show aK before true 0 0 x.kids=aK before true (k+1) (if m1<before.getD j 0 then before.getD j 0 else m1) (x.kids.drop (k+1)) by rw [HM.out,HD.out];rfl);generalize before.getD j 0=nn at *;go_wp2_with fail;go_roundw
   case rel=>exact ⟨k+1,_,_,D,by go_num,rfl,rfl,rfl,HS2.out,HM3.out⟩
   case measure=>simp [intOf];omega
  ·have HS2:=aZv (show bV before 0 x.kids=s1 by rw [HS.out,drop_nil D];rfl)
   have HM2:=aZv (show aK before true 0 0 x.kids=m1 by rw [HM.out,drop_nil D];rfl);go_wp2_with (at_builtin;go_must (refine aI _ rfl _ _ 22 rfl base 3 i0 (.int .i64 0) 1 8 Tryz.underlying22 HI.out hz0 hz1 hz2 rfl ao _ _ _ rfl (HO2.out.alloc _) (fun _=>True) _ 1 1 [.int .i64 (wrap64 (1+m1))] rfl (Sl.new _ _ _ _ _ rfl) fd D D al ?_);intro v' w1 ho1 hf1 hb1);go_ret;refine ⟨v',rfl,co,((Fr.of_ext HE.out).alloc _).trans hf1,?_⟩;rcases hb1 with hb1 | hb1
   ·exact .inl hb1
   ·exact .inr ⟨_,hb1,am⟩
theorem vY (before:List Int)(x:GN)(a:NA)(P:Nat->Prop)(base:Nat)(vb:Value)(w:World)(hx:NAt w P x a)(hown:w.ownsRow base 3 1 vb before.length (before.map (Value.int .i64)))
  (hbase:base<=w.heap.size)(hlen:before.length<=100000)(hb64:∀ z ∈ before,I64 z)(hkids:∀ z ∈ x.kids,0<=z∧z<before.length)(hk:x.kind=4)(hkp:0<x.kids.length) :
  Calls Tryz.prog 58 #[vb,fF x a] w (jB base 3 1 vb (before.length+1) ((before ++ [fN before x]).map (Value.int .i64)) w):=by
 have HX:=aZv hx;have HO:=aZv hown;have HK:=aZv hkids;have HB64:=aZv hb64;have HBASE:=aZv hbase;obtain ⟨A,c,hvb,hnc,hcm,hsl⟩:=Sl.of_own hown;unfold maxLen at hcm;have HSL:=aZv hsl;obtain ⟨hl,hc⟩:=hx.kids.le;have HKP:=aZv hkp;clear hkp;have HSP:=aZv (show fN before x=wrap64 (before.getD (x.kids.getD 0 0).toNat 0+aK before false 0 0 x.kids) by unfold fN;rw [if_neg D,if_neg D,if_neg D,if_neg D]);have t0:(x.kind == 0)=false:=aZw D;have t1:(x.kind == 1)=false:=aZw D;have t2:(x.kind == 2)=false:=aZw D;have t3:(x.kind == 3)=false:=aZw D;have t4:(x.kind == 4)=true:=aZx hk;have HKK:=aZv hk;clear hk;subst hvb;clear hx hown hkids hb64 hbase hsl;obtain ⟨i0,hi,hz0,hz1,hz2⟩:=info_parts Tryz.info3;have HI:=aZv hi;clear hi;go_enter Tryz.func58,Tryz.ntmps58;go_wp2_with fail;have HBX:=aZv (show Blk (w.alloc (.cells (aE x a).toArray 87)) w.heap.size 87 (aE x a).toArray from Blk.new _ _ _);have HE:=aZv (show Ext w (w.alloc (.cells (aE x a).toArray 87)) from (Ext.refl _).alloc' _);have hb0:=HBX.out.cell' (u:=↑x.kind) 0 rfl;have hb7:=HBX.out.cell' (u:=.slice a.kA x.kids.length a.kc) 7 rfl;have HW:=aZv (HX.out.kids.ext HE.out)
 have HO2:=aZv (HO.out.alloc (.cells (aE x a).toArray 87));have hsz:(w.alloc (.cells (aE x a).toArray 87)).heap.size=w.heap.size+1:=by simp
 have HSZ:=aZv hsz;clear hsz;generalize hWW:w.alloc (.cells (aE x a).toArray 87)=W at *;clear hWW;go_loopw [5,6,7] (fun s m i wr=>kO before x false 0 W s m i wr) (fun _ _ i _=>x.kids.length - (intOf i).toNat)
 case atStart=>exact ⟨0,_,_,Nat.zero_le _,rfl,rfl,rfl,rfl,rfl,rfl⟩
 case round =>
  obtain ⟨k,s1,m1,hk,rfl,rfl,rfl,rfl,hs,hm⟩:=hrel;have HS:=aZv hs;have HM:=aZv hm;clear hs hm
  by_cases hlt:k<x.kids.length
  ·obtain ⟨b1,o1,e1,-,-,g1⟩:=HW.out.get hlt
   have HD:=aZv (aF 0 hlt);obtain ⟨hz1',hz2'⟩:=HK.out _ (aD (d:=0) hlt);rw [e1] at hb7;clear e1;generalize x.kids.getD k 0=z at *;obtain ⟨j,rfl⟩:=Int.eq_ofNat_of_zero_le hz1';have hj:j<before.length:=by omega
   obtain ⟨b2,o2,rfl,-,hc2⟩:=((HSL.out (fun _=>True) (fun _ _=>trivial)).keep (aB.of_ext HE.out) (fun _ h=>h)).2 D;have g2:=aZ hj hc2;have HS2:=aZv (show bV before 0 x.kids=bV before (wrap64 (s1+before.getD j 0)) (x.kids.drop (k+1)) by rw [HS.out,HD.out];rfl);clear hc2 hz1' hz2'
   by_cases hk0:0<k
   ·have tk:decide (0<(k:Int))=true:=aZy D
    have HM3:=aZv (show aK before false 0 0 x.kids=aK before false (k+1) (if m1<before.getD j 0 then before.getD j 0 else m1) (x.kids.drop (k+1)) by
     rw [HM.out,HD.out];show aK before false (k+1) (if false=true∨0<k then _ else _) _=_;rw [if_pos (.inr hk0)];rfl)
    generalize before.getD j 0=nn at *;go_wp2_with fail;go_roundw
    case rel=>exact ⟨k+1,_,_,D,by go_num,rfl,rfl,rfl,HS2.out,HM3.out⟩
    case measure=>simp [intOf];omega
   ·have tk:decide (0<(k:Int))=false:=aZz D
    have HM3:=aZv (show aK before false 0 0 x.kids=aK before false (k+1) m1 (x.kids.drop (k+1)) by
     rw [HM.out,HD.out];show aK before false (k+1) (if false=true∨0<k then _ else _) _=_;rw [if_neg aa])
    generalize before.getD j 0=nn at *;go_wp2_with fail;go_roundw
    case rel=>exact ⟨k+1,_,_,D,by go_num,rfl,rfl,rfl,HS2.out,HM3.out⟩
    case measure=>simp [intOf];omega
  ·have HS2:=aZv (show bV before 0 x.kids=s1 by rw [HS.out,drop_nil D];rfl)
   have HM2:=aZv (show aK before false 0 0 x.kids=m1 by rw [HM.out,drop_nil D];rfl);have hlt0:0<x.kids.length:=HKP.out;obtain ⟨b1,o1,e1,-,-,g1⟩:=HW.out.get hlt0;rw [Nat.add_zero] at g1;obtain ⟨hz1',hz2'⟩:=HK.out _ (aD (d:=0) hlt0);rw [e1] at hb7;clear e1;have HSP0:=HSP;clear HSP;have HM20:=HM2;clear HM2;generalize x.kids.getD 0 0=z at *;obtain ⟨j,rfl⟩:=Int.eq_ofNat_of_zero_le hz1';have hj:j<before.length:=by omega
   obtain ⟨b2,o2,rfl,-,hc2⟩:=((HSL.out (fun _=>True) (fun _ _=>trivial)).keep (aB.of_ext HE.out) (fun _ h=>h)).2 D;have g2:=aZ hj hc2;have HSP:=aZv (show fN before x=wrap64 (before.getD j 0+m1) by rw [HSP0.out,HM20.out];rfl);clear hc2 hz1' hz2' HSP0 HM20;generalize before.getD j 0=nn at *;go_wp2_with (at_builtin;go_must (refine aI _ rfl _ _ 22 rfl base 3 i0 (.int .i64 0) 1 8 Tryz.underlying22 HI.out hz0 hz1 hz2 rfl ao _ _ _ rfl (HO2.out.alloc _) (fun _=>True) _ 1 1 [.int .i64 (wrap64 (nn+m1))] rfl (Sl.new _ _ _ _ _ rfl) fd D D al ?_);intro v' w1 ho1 hf1 hb1);go_ret;refine ⟨v',rfl,ci,((Fr.of_ext HE.out).alloc _).trans hf1,?_⟩;rcases hb1 with hb1 | hb1
   ·exact .inl hb1
   ·exact .inr ⟨_,hb1,am⟩
theorem aBi (before:List Int)(x:GN)(a:NA)(P:Nat->Prop)(base:Nat)(vb:Value)(w:World)(hx:NAt w P x a)(hown:w.ownsRow base 3 1 vb before.length (before.map (Value.int .i64)))
  (hbase:base<=w.heap.size)(hlen:before.length<=100000)(hb64:∀ z ∈ before,I64 z)(hkids:∀ z ∈ x.kids,0<=z∧z<before.length)(hk:x.kind=0) :
  Calls Tryz.prog 59 #[vb,fF x a] w (jB base 3 1 vb (before.length+1) ((before ++ [fE before x]).map (Value.int .i64)) w):=by
 have HX:=aZv hx;have HO:=aZv hown;have HK:=aZv hkids;have HB64:=aZv hb64;have HBASE:=aZv hbase;obtain ⟨A,c,hvb,hnc,hcm,hsl⟩:=Sl.of_own hown;unfold maxLen at hcm;have HSL:=aZv hsl;obtain ⟨hl,hc⟩:=hx.kids.le;have HSP:=aZv (show fE before x=rsz x.value by unfold fE;rw [if_pos hk]);have t0:(x.kind == 0)=true:=aZx hk;have t1:(x.kind == 1)=false:=aZw D;have t2:(x.kind == 2)=false:=aZw D;have t3:(x.kind == 3)=false:=aZw D;have t4:(x.kind == 4)=false:=aZw D;have HKK:=aZv hk;clear hk;subst hvb;clear hx hown hkids hb64 hbase hsl;obtain ⟨i0,hi,hz0,hz1,hz2⟩:=info_parts Tryz.info3;have HI:=aZv hi;clear hi;go_enter Tryz.func59,Tryz.ntmps59;go_wp2_with fail;have HBX:=aZv (show Blk (w.alloc (.cells (aE x a).toArray 87)) w.heap.size 87 (aE x a).toArray from Blk.new _ _ _);have HE:=aZv (show Ext w (w.alloc (.cells (aE x a).toArray 87)) from (Ext.refl _).alloc' _);have hb0:=HBX.out.cell' (u:=↑x.kind) 0 rfl;have hb7:=HBX.out.cell' (u:=.slice a.kA x.kids.length a.kc) 7 rfl;have HW:=aZv (HX.out.kids.ext HE.out);have HO2:=aZv (HO.out.alloc (.cells (aE x a).toArray 87));have hsz:(w.alloc (.cells (aE x a).toArray 87)).heap.size=w.heap.size+1:=by simp
 have HSZ:=aZv hsz;clear hsz;generalize hWW:w.alloc (.cells (aE x a).toArray 87)=W at *;clear hWW;go_loopw [5,6,7] (fun s m i wr=>kO before x false 1 W s m i wr) (fun _ _ i _=>x.kids.length - (intOf i).toNat)
 case atStart=>exact ⟨0,_,_,Nat.zero_le _,rfl,rfl,rfl,rfl,rfl,rfl⟩
 case round =>
  obtain ⟨k,s1,m1,hk,rfl,rfl,rfl,rfl,hs,hm⟩:=hrel;have HS:=aZv hs;have HM:=aZv hm;clear hs hm
  by_cases hlt:k<x.kids.length
  ·obtain ⟨b1,o1,e1,-,-,g1⟩:=HW.out.get hlt
   have HD:=aZv (aF 0 hlt);obtain ⟨hz1',hz2'⟩:=HK.out _ (aD (d:=0) hlt);rw [e1] at hb7;clear e1;generalize x.kids.getD k 0=z at *;obtain ⟨j,rfl⟩:=Int.eq_ofNat_of_zero_le hz1';have hj:j<before.length:=by omega
   obtain ⟨b2,o2,rfl,-,hc2⟩:=((HSL.out (fun _=>True) (fun _ _=>trivial)).keep (aB.of_ext HE.out) (fun _ h=>h)).2 D;have g2:=aZ hj hc2;have HS2:=aZv (show bV before 1 x.kids=bV before (wrap64 (s1+before.getD j 0)) (x.kids.drop (k+1)) by rw [HS.out,HD.out];rfl);clear hc2 hz1' hz2'
   by_cases hk0:0<k
   ·have tk:decide (0<(k:Int))=true:=aZy D
    have HM3:=aZv (show aK before false 0 0 x.kids=aK before false (k+1) (if m1<before.getD j 0 then before.getD j 0 else m1) (x.kids.drop (k+1)) by
     rw [HM.out,HD.out];show aK before false (k+1) (if false=true∨0<k then _ else _) _=_;rw [if_pos (.inr hk0)];rfl)
    generalize before.getD j 0=nn at *;go_wp2_with fail;go_roundw
    case rel=>exact ⟨k+1,_,_,D,by go_num,rfl,rfl,rfl,HS2.out,HM3.out⟩
    case measure=>simp [intOf];omega
   ·have tk:decide (0<(k:Int))=false:=aZz D
    have HM3:=aZv (show aK before false 0 0 x.kids=aK before false (k+1) m1 (x.kids.drop (k+1)) by
     rw [HM.out,HD.out];show aK before false (k+1) (if false=true∨0<k then _ else _) _=_;rw [if_neg aa])
    generalize before.getD j 0=nn at *;go_wp2_with fail;go_roundw
    case rel=>exact ⟨k+1,_,_,D,by go_num,rfl,rfl,rfl,HS2.out,HM3.out⟩
    case measure=>simp [intOf];omega
  ·have HS2:=aZv (show bV before 1 x.kids=s1 by rw [HS.out,drop_nil D];rfl)
   have HM2:=aZv (show aK before false 0 0 x.kids=m1 by rw [HM.out,drop_nil D];rfl);have hb8:=HBX.out.cell' (u:=↑x.value.kind) 8 rfl;have hb9:=HBX.out.cell' (u:=↑x.value.n) 9 rfl;have hb10:=HBX.out.cell' (u:=.string x.value.s) 10 rfl;have hb11:=HBX.out.cell' (u:=.slice a.xA x.value.kids.length a.xc) 11 rfl;go_wp2_with fail;refine (oN x.value a.xA a.xc P _ (HX.out.value.ext HE.out)).mono ?_;rintro e w2 ⟨rfl,hx2⟩;have HE2:=aZv (HE.out.trans' hx2);have HO3:=aZv (HO2.out.ext_ hx2);clear hx2;go_wp2_with (at_builtin;go_must (refine aI _ rfl _ _ 22 rfl base 3 i0 (.int .i64 0) 1 8 Tryz.underlying22 HI.out hz0 hz1 hz2 rfl ao _ _ _ rfl (HO3.out.alloc _) (fun _=>True) _ 1 1 [.int .i64 (rsz x.value)] rfl (Sl.new _ _ _ _ _ rfl) fd D D (by have:=HE2.out.size;have:=HBASE.out;rw [World.size_alloc];omega) ?_);intro v' w1 ho1 hf1 hb1);go_ret;refine ⟨v',rfl,ci,((Fr.of_ext HE2.out).alloc _).trans hf1,?_⟩;rcases hb1 with hb1 | hb1
   ·exact .inl hb1
   ·exact .inr ⟨_,hb1,by have:=(HE2.out).size;rw [World.size_alloc];omega⟩
theorem aBh (before:List Int)(x:GN)(a:NA)(P:Nat->Prop)(base:Nat)(vb:Value)(w:World)(hx:NAt w P x a)(hown:w.ownsRow base 3 1 vb before.length (before.map (Value.int .i64)))
  (hbase:base<=w.heap.size)(hlen:before.length<=100000)(hb64:∀ z ∈ before,I64 z)(hkids:∀ z ∈ x.kids,0<=z∧z<before.length)(hk:x.kind=1) :
  Calls Tryz.prog 59 #[vb,fF x a] w (jB base 3 1 vb (before.length+1) ((before ++ [fE before x]).map (Value.int .i64)) w):=by
 have HX:=aZv hx;have HO:=aZv hown;have HK:=aZv hkids;have HB64:=aZv hb64;have HBASE:=aZv hbase;obtain ⟨A,c,hvb,hnc,hcm,hsl⟩:=Sl.of_own hown;unfold maxLen at hcm;have HSL:=aZv hsl;obtain ⟨hl,hc⟩:=hx.kids.le;have HSP:=aZv (show fE before x=1 by unfold fE;rw [if_neg D,if_pos hk]);have t0:(x.kind == 0)=false:=aZw D;have t1:(x.kind == 1)=true:=aZx hk;have t2:(x.kind == 2)=false:=aZw D;have t3:(x.kind == 3)=false:=aZw D;have t4:(x.kind == 4)=false:=aZw D;have HKK:=aZv hk;clear hk;subst hvb;clear hx hown hkids hb64 hbase hsl;obtain ⟨i0,hi,hz0,hz1,hz2⟩:=info_parts Tryz.info3;have HI:=aZv hi;clear hi;go_enter Tryz.func59,Tryz.ntmps59;go_wp2_with fail;have HBX:=aZv (show Blk (w.alloc (.cells (aE x a).toArray 87)) w.heap.size 87 (aE x a).toArray from Blk.new _ _ _);have HE:=aZv (show Ext w (w.alloc (.cells (aE x a).toArray 87)) from (Ext.refl _).alloc' _);have hb0:=HBX.out.cell' (u:=↑x.kind) 0 rfl;have hb7:=HBX.out.cell' (u:=.slice a.kA x.kids.length a.kc) 7 rfl;have HW:=aZv (HX.out.kids.ext HE.out);have HO2:=aZv (HO.out.alloc (.cells (aE x a).toArray 87));have hsz:(w.alloc (.cells (aE x a).toArray 87)).heap.size=w.heap.size+1:=by simp
 have HSZ:=aZv hsz;clear hsz;generalize hWW:w.alloc (.cells (aE x a).toArray 87)=W at *;clear hWW;go_loopw [5,6,7] (fun s m i wr=>kO before x false 1 W s m i wr) (fun _ _ i _=>x.kids.length - (intOf i).toNat)
 case atStart=>exact ⟨0,_,_,Nat.zero_le _,rfl,rfl,rfl,rfl,rfl,rfl⟩
 case round =>
  obtain ⟨k,s1,m1,hk,rfl,rfl,rfl,rfl,hs,hm⟩:=hrel;have HS:=aZv hs;have HM:=aZv hm;clear hs hm
  by_cases hlt:k<x.kids.length
  ·obtain ⟨b1,o1,e1,-,-,g1⟩:=HW.out.get hlt
   have HD:=aZv (aF 0 hlt);obtain ⟨hz1',hz2'⟩:=HK.out _ (aD (d:=0) hlt);rw [e1] at hb7;clear e1;generalize x.kids.getD k 0=z at *;obtain ⟨j,rfl⟩:=Int.eq_ofNat_of_zero_le hz1';have hj:j<before.length:=by omega
   obtain ⟨b2,o2,rfl,-,hc2⟩:=((HSL.out (fun _=>True) (fun _ _=>trivial)).keep (aB.of_ext HE.out) (fun _ h=>h)).2 D;have g2:=aZ hj hc2;have HS2:=aZv (show bV before 1 x.kids=bV before (wrap64 (s1+before.getD j 0)) (x.kids.drop (k+1)) by rw [HS.out,HD.out];rfl);clear hc2 hz1' hz2'
   by_cases hk0:0<k
   ·have tk:decide (0<(k:Int))=true:=aZy D
    have HM3:=aZv (show aK before false 0 0 x.kids=aK before false (k+1) (if m1<before.getD j 0 then before.getD j 0 else m1) (x.kids.drop (k+1)) by
     rw [HM.out,HD.out];show aK before false (k+1) (if false=true∨0<k then _ else _) _=_;rw [if_pos (.inr hk0)];rfl)
    generalize before.getD j 0=nn at *;go_wp2_with fail;go_roundw
    case rel=>exact ⟨k+1,_,_,D,by go_num,rfl,rfl,rfl,HS2.out,HM3.out⟩
    case measure=>simp [intOf];omega
   ·have tk:decide (0<(k:Int))=false:=aZz D
    have HM3:=aZv (show aK before false 0 0 x.kids=aK before false (k+1) m1 (x.kids.drop (k+1)) by
     rw [HM.out,HD.out];show aK before false (k+1) (if false=true∨0<k then _ else _) _=_;rw [if_neg aa])
    generalize before.getD j 0=nn at *;go_wp2_with fail;go_roundw
    case rel=>exact ⟨k+1,_,_,D,by go_num,rfl,rfl,rfl,HS2.out,HM3.out⟩
    case measure=>simp [intOf];omega
  ·have HS2:=aZv (show bV before 1 x.kids=s1 by rw [HS.out,drop_nil D];rfl)
   have HM2:=aZv (show aK before false 0 0 x.kids=m1 by rw [HM.out,drop_nil D];rfl);go_wp2_with (at_builtin;go_must (refine aI _ rfl _ _ 22 rfl base 3 i0 (.int .i64 0) 1 8 Tryz.underlying22 HI.out hz0 hz1 hz2 rfl ao _ _ _ rfl (HO2.out.alloc _) (fun _=>True) _ 1 1 [.int .i64 1] rfl (Sl.new _ _ _ _ _ rfl) fd D D al ?_);intro v' w1 ho1 hf1 hb1);go_ret;refine ⟨v',rfl,ci,((Fr.of_ext HE.out).alloc _).trans hf1,?_⟩;rcases hb1 with hb1 | hb1
   ·exact .inl hb1
   ·exact .inr ⟨_,hb1,am⟩
theorem aBf (before:List Int)(x:GN)(a:NA)(P:Nat->Prop)(base:Nat)(vb:Value)(w:World)(hx:NAt w P x a)(hown:w.ownsRow base 3 1 vb before.length (before.map (Value.int .i64)))
  (hbase:base<=w.heap.size)(hlen:before.length<=100000)(hb64:∀ z ∈ before,I64 z)(hkids:∀ z ∈ x.kids,0<=z∧z<before.length)(hk:x.kind=3) :
  Calls Tryz.prog 59 #[vb,fF x a] w (jB base 3 1 vb (before.length+1) ((before ++ [fE before x]).map (Value.int .i64)) w):=by
 have HX:=aZv hx;have HO:=aZv hown;have HK:=aZv hkids;have HB64:=aZv hb64;have HBASE:=aZv hbase;obtain ⟨A,c,hvb,hnc,hcm,hsl⟩:=Sl.of_own hown;unfold maxLen at hcm;have HSL:=aZv hsl;obtain ⟨hl,hc⟩:=hx.kids.le;have HSP:=aZv (show fE before x=bV before 1 x.kids by unfold fE;rw [if_neg D,if_neg D,if_pos hk]);have t0:(x.kind == 0)=false:=aZw D;have t1:(x.kind == 1)=false:=aZw D;have t2:(x.kind == 2)=false:=aZw D;have t3:(x.kind == 3)=true:=aZx hk;have t4:(x.kind == 4)=false:=aZw D;have HKK:=aZv hk;clear hk;subst hvb;clear hx hown hkids hb64 hbase hsl;obtain ⟨i0,hi,hz0,hz1,hz2⟩:=info_parts Tryz.info3;have HI:=aZv hi;clear hi;go_enter Tryz.func59,Tryz.ntmps59;go_wp2_with fail;have HBX:=aZv (show Blk (w.alloc (.cells (aE x a).toArray 87)) w.heap.size 87 (aE x a).toArray from Blk.new _ _ _);have HE:=aZv (show Ext w (w.alloc (.cells (aE x a).toArray 87)) from (Ext.refl _).alloc' _);have hb0:=HBX.out.cell' (u:=↑x.kind) 0 rfl;have hb7:=HBX.out.cell' (u:=.slice a.kA x.kids.length a.kc) 7 rfl;have HW:=aZv (HX.out.kids.ext HE.out);have HO2:=aZv (HO.out.alloc (.cells (aE x a).toArray 87));have hsz:(w.alloc (.cells (aE x a).toArray 87)).heap.size=w.heap.size+1:=by simp
 have HSZ:=aZv hsz;clear hsz;generalize hWW:w.alloc (.cells (aE x a).toArray 87)=W at *;clear hWW;go_loopw [5,6,7] (fun s m i wr=>kO before x false 1 W s m i wr) (fun _ _ i _=>x.kids.length - (intOf i).toNat)
 case atStart=>exact ⟨0,_,_,Nat.zero_le _,rfl,rfl,rfl,rfl,rfl,rfl⟩
 case round =>
  obtain ⟨k,s1,m1,hk,rfl,rfl,rfl,rfl,hs,hm⟩:=hrel;have HS:=aZv hs;have HM:=aZv hm;clear hs hm
  by_cases hlt:k<x.kids.length
  ·obtain ⟨b1,o1,e1,-,-,g1⟩:=HW.out.get hlt
   have HD:=aZv (aF 0 hlt);obtain ⟨hz1',hz2'⟩:=HK.out _ (aD (d:=0) hlt);rw [e1] at hb7;clear e1;generalize x.kids.getD k 0=z at *;obtain ⟨j,rfl⟩:=Int.eq_ofNat_of_zero_le hz1';have hj:j<before.length:=by omega
   obtain ⟨b2,o2,rfl,-,hc2⟩:=((HSL.out (fun _=>True) (fun _ _=>trivial)).keep (aB.of_ext HE.out) (fun _ h=>h)).2 D;have g2:=aZ hj hc2;have HS2:=aZv (show bV before 1 x.kids=bV before (wrap64 (s1+before.getD j 0)) (x.kids.drop (k+1)) by rw [HS.out,HD.out];rfl);clear hc2 hz1' hz2'
   by_cases hk0:0<k
   ·have tk:decide (0<(k:Int))=true:=aZy D
    have HM3:=aZv (show aK before false 0 0 x.kids=aK before false (k+1) (if m1<before.getD j 0 then before.getD j 0 else m1) (x.kids.drop (k+1)) by
     rw [HM.out,HD.out];show aK before false (k+1) (if false=true∨0<k then _ else _) _=_;rw [if_pos (.inr hk0)];rfl)
    generalize before.getD j 0=nn at *;go_wp2_with fail;go_roundw
    case rel=>exact ⟨k+1,_,_,D,by go_num,rfl,rfl,rfl,HS2.out,HM3.out⟩
    case measure=>simp [intOf];omega
   ·have tk:decide (0<(k:Int))=false:=aZz D
    have HM3:=aZv (show aK before false 0 0 x.kids=aK before false (k+1) m1 (x.kids.drop (k+1)) by
     rw [HM.out,HD.out];show aK before false (k+1) (if false=true∨0<k then _ else _) _=_;rw [if_neg aa])
    generalize before.getD j 0=nn at *;go_wp2_with fail;go_roundw
    case rel=>exact ⟨k+1,_,_,D,by go_num,rfl,rfl,rfl,HS2.out,HM3.out⟩
    case measure=>simp [intOf];omega
  ·have HS2:=aZv (show bV before 1 x.kids=s1 by rw [HS.out,drop_nil D];rfl)
   have HM2:=aZv (show aK before false 0 0 x.kids=m1 by rw [HM.out,drop_nil D];rfl);go_wp2_with (at_builtin;go_must (refine aI _ rfl _ _ 22 rfl base 3 i0 (.int .i64 0) 1 8 Tryz.underlying22 HI.out hz0 hz1 hz2 rfl ao _ _ _ rfl (HO2.out.alloc _) (fun _=>True) _ 1 1 [.int .i64 s1] rfl (Sl.new _ _ _ _ _ rfl) fd D D al ?_);intro v' w1 ho1 hf1 hb1);go_ret;refine ⟨v',rfl,ez,((Fr.of_ext HE.out).alloc _).trans hf1,?_⟩;rcases hb1 with hb1 | hb1
   ·exact .inl hb1
   ·exact .inr ⟨_,hb1,am⟩
theorem aBg (before:List Int)(x:GN)(a:NA)(P:Nat->Prop)(base:Nat)(vb:Value)(w:World)(hx:NAt w P x a)(hown:w.ownsRow base 3 1 vb before.length (before.map (Value.int .i64)))
  (hbase:base<=w.heap.size)(hlen:before.length<=100000)(hb64:∀ z ∈ before,I64 z)(hkids:∀ z ∈ x.kids,0<=z∧z<before.length)(hk:x.kind=2) :
  Calls Tryz.prog 59 #[vb,fF x a] w (jB base 3 1 vb (before.length+1) ((before ++ [fE before x]).map (Value.int .i64)) w):=by
 have HX:=aZv hx;have HO:=aZv hown;have HK:=aZv hkids;have HB64:=aZv hb64;have HBASE:=aZv hbase;obtain ⟨A,c,hvb,hnc,hcm,hsl⟩:=Sl.of_own hown;unfold maxLen at hcm;have HSL:=aZv hsl;obtain ⟨hl,hc⟩:=hx.kids.le;have HSP:=aZv (show fE before x=aK before true 0 0 x.kids by unfold fE;rw [if_neg D,if_neg D,if_neg D,aZy hk]);have t0:(x.kind == 0)=false:=aZw D;have t1:(x.kind == 1)=false:=aZw D;have t2:(x.kind == 2)=true:=aZx hk;have t3:(x.kind == 3)=false:=aZw D;have t4:(x.kind == 4)=false:=aZw D;have HKK:=aZv hk;clear hk;subst hvb;clear hx hown hkids hb64 hbase hsl;obtain ⟨i0,hi,hz0,hz1,hz2⟩:=info_parts Tryz.info3;have HI:=aZv hi;clear hi;go_enter Tryz.func59,Tryz.ntmps59;go_wp2_with fail;have HBX:=aZv (show Blk (w.alloc (.cells (aE x a).toArray 87)) w.heap.size 87 (aE x a).toArray from Blk.new _ _ _);have HE:=aZv (show Ext w (w.alloc (.cells (aE x a).toArray 87)) from (Ext.refl _).alloc' _);have hb0:=HBX.out.cell' (u:=↑x.kind) 0 rfl;have hb7:=HBX.out.cell' (u:=.slice a.kA x.kids.length a.kc) 7 rfl;have HW:=aZv (HX.out.kids.ext HE.out);have HO2:=aZv (HO.out.alloc (.cells (aE x a).toArray 87));have hsz:(w.alloc (.cells (aE x a).toArray 87)).heap.size=w.heap.size+1:=by simp
 have HSZ:=aZv hsz;clear hsz;generalize hWW:w.alloc (.cells (aE x a).toArray 87)=W at *;clear hWW;go_loopw [5,6,7] (fun s m i wr=>kO before x true 1 W s m i wr) (fun _ _ i _=>x.kids.length - (intOf i).toNat)
 case atStart=>exact ⟨0,_,_,Nat.zero_le _,rfl,rfl,rfl,rfl,rfl,rfl⟩
 case round =>
  obtain ⟨k,s1,m1,hk,rfl,rfl,rfl,rfl,hs,hm⟩:=hrel;have HS:=aZv hs;have HM:=aZv hm;clear hs hm
  by_cases hlt:k<x.kids.length
  ·obtain ⟨b1,o1,e1,-,-,g1⟩:=HW.out.get hlt
   have HD:=aZv (aF 0 hlt);obtain ⟨hz1',hz2'⟩:=HK.out _ (aD (d:=0) hlt);rw [e1] at hb7;clear e1;generalize x.kids.getD k 0=z at *;obtain ⟨j,rfl⟩:=Int.eq_ofNat_of_zero_le hz1';have hj:j<before.length:=by omega
   obtain ⟨b2,o2,rfl,-,hc2⟩:=((HSL.out (fun _=>True) (fun _ _=>trivial)).keep (aB.of_ext HE.out) (fun _ h=>h)).2 D;have g2:=aZ hj hc2;have HS2:=aZv (show bV before 1 x.kids=bV before (wrap64 (s1+before.getD j 0)) (x.kids.drop (k+1)) by rw [HS.out,HD.out];rfl);clear hc2 hz1' hz2';have HM3:=aZv (show aK before true 0 0 x.kids=aK before true (k+1) (if m1<before.getD j 0 then before.getD j 0 else m1) (x.kids.drop (k+1)) by rw [HM.out,HD.out];rfl);generalize before.getD j 0=nn at *;go_wp2_with fail;go_roundw
   case rel=>exact ⟨k+1,_,_,D,by go_num,rfl,rfl,rfl,HS2.out,HM3.out⟩
   case measure=>simp [intOf];omega
  ·have HS2:=aZv (show bV before 1 x.kids=s1 by rw [HS.out,drop_nil D];rfl)
   have HM2:=aZv (show aK before true 0 0 x.kids=m1 by rw [HM.out,drop_nil D];rfl);go_wp2_with (at_builtin;go_must (refine aI _ rfl _ _ 22 rfl base 3 i0 (.int .i64 0) 1 8 Tryz.underlying22 HI.out hz0 hz1 hz2 rfl ao _ _ _ rfl (HO2.out.alloc _) (fun _=>True) _ 1 1 [.int .i64 m1] rfl (Sl.new _ _ _ _ _ rfl) fd D D al ?_);intro v' w1 ho1 hf1 hb1);go_ret;refine ⟨v',rfl,co,((Fr.of_ext HE.out).alloc _).trans hf1,?_⟩;rcases hb1 with hb1 | hb1
   ·exact .inl hb1
   ·exact .inr ⟨_,hb1,am⟩
theorem aBe (before:List Int)(x:GN)(a:NA)(P:Nat->Prop)(base:Nat)(vb:Value)(w:World)(hx:NAt w P x a)(hown:w.ownsRow base 3 1 vb before.length (before.map (Value.int .i64)))
  (hbase:base<=w.heap.size)(hlen:before.length<=100000)(hb64:∀ z ∈ before,I64 z)(hkids:∀ z ∈ x.kids,0<=z∧z<before.length)(hk:x.kind=4) :
  Calls Tryz.prog 59 #[vb,fF x a] w (jB base 3 1 vb (before.length+1) ((before ++ [fE before x]).map (Value.int .i64)) w):=by
 have HX:=aZv hx;have HO:=aZv hown;have HK:=aZv hkids;have HB64:=aZv hb64;have HBASE:=aZv hbase;obtain ⟨A,c,hvb,hnc,hcm,hsl⟩:=Sl.of_own hown;unfold maxLen at hcm;have HSL:=aZv hsl;obtain ⟨hl,hc⟩:=hx.kids.le;have HSP:=aZv (show fE before x=aK before false 0 0 x.kids by unfold fE;rw [if_neg D,if_neg D,if_neg D,aZz D]);have t0:(x.kind == 0)=false:=aZw D;have t1:(x.kind == 1)=false:=aZw D;have t2:(x.kind == 2)=false:=aZw D;have t3:(x.kind == 3)=false:=aZw D;have t4:(x.kind == 4)=true:=aZx hk;have HKK:=aZv hk;clear hk;subst hvb;clear hx hown hkids hb64 hbase hsl;obtain ⟨i0,hi,hz0,hz1,hz2⟩:=info_parts Tryz.info3;have HI:=aZv hi;clear hi;go_enter Tryz.func59,Tryz.ntmps59;go_wp2_with fail;have HBX:=aZv (show Blk (w.alloc (.cells (aE x a).toArray 87)) w.heap.size 87 (aE x a).toArray from Blk.new _ _ _);have HE:=aZv (show Ext w (w.alloc (.cells (aE x a).toArray 87)) from (Ext.refl _).alloc' _);have hb0:=HBX.out.cell' (u:=↑x.kind) 0 rfl;have hb7:=HBX.out.cell' (u:=.slice a.kA x.kids.length a.kc) 7 rfl;have HW:=aZv (HX.out.kids.ext HE.out);have HO2:=aZv (HO.out.alloc (.cells (aE x a).toArray 87));have hsz:(w.alloc (.cells (aE x a).toArray 87)).heap.size=w.heap.size+1:=by simp
 have HSZ:=aZv hsz;clear hsz;generalize hWW:w.alloc (.cells (aE x a).toArray 87)=W at *;clear hWW;go_loopw [5,6,7] (fun s m i wr=>kO before x false 1 W s m i wr) (fun _ _ i _=>x.kids.length - (intOf i).toNat)
 case atStart=>exact ⟨0,_,_,Nat.zero_le _,rfl,rfl,rfl,rfl,rfl,rfl⟩
 case round =>
  obtain ⟨k,s1,m1,hk,rfl,rfl,rfl,rfl,hs,hm⟩:=hrel;have HS:=aZv hs;have HM:=aZv hm;clear hs hm
  by_cases hlt:k<x.kids.length
  ·obtain ⟨b1,o1,e1,-,-,g1⟩:=HW.out.get hlt
   have HD:=aZv (aF 0 hlt);obtain ⟨hz1',hz2'⟩:=HK.out _ (aD (d:=0) hlt);rw [e1] at hb7;clear e1;generalize x.kids.getD k 0=z at *;obtain ⟨j,rfl⟩:=Int.eq_ofNat_of_zero_le hz1';have hj:j<before.length:=by omega
   obtain ⟨b2,o2,rfl,-,hc2⟩:=((HSL.out (fun _=>True) (fun _ _=>trivial)).keep (aB.of_ext HE.out) (fun _ h=>h)).2 D;have g2:=aZ hj hc2;have HS2:=aZv (show bV before 1 x.kids=bV before (wrap64 (s1+before.getD j 0)) (x.kids.drop (k+1)) by rw [HS.out,HD.out];rfl);clear hc2 hz1' hz2'
   by_cases hk0:0<k
   ·have tk:decide (0<(k:Int))=true:=aZy D
    have HM3:=aZv (show aK before false 0 0 x.kids=aK before false (k+1) (if m1<before.getD j 0 then before.getD j 0 else m1) (x.kids.drop (k+1)) by
     rw [HM.out,HD.out];show aK before false (k+1) (if false=true∨0<k then _ else _) _=_;rw [if_pos (.inr hk0)];rfl)
    generalize before.getD j 0=nn at *;go_wp2_with fail;go_roundw
    case rel=>exact ⟨k+1,_,_,D,by go_num,rfl,rfl,rfl,HS2.out,HM3.out⟩
    case measure=>simp [intOf];omega
   ·have tk:decide (0<(k:Int))=false:=aZz D
    have HM3:=aZv (show aK before false 0 0 x.kids=aK before false (k+1) m1 (x.kids.drop (k+1)) by
     rw [HM.out,HD.out];show aK before false (k+1) (if false=true∨0<k then _ else _) _=_;rw [if_neg aa])
    generalize before.getD j 0=nn at *;go_wp2_with fail;go_roundw
    case rel=>exact ⟨k+1,_,_,D,by go_num,rfl,rfl,rfl,HS2.out,HM3.out⟩
    case measure=>simp [intOf];omega
  ·have HS2:=aZv (show bV before 1 x.kids=s1 by rw [HS.out,drop_nil D];rfl)
   have HM2:=aZv (show aK before false 0 0 x.kids=m1 by rw [HM.out,drop_nil D];rfl);go_wp2_with (at_builtin;go_must (refine aI _ rfl _ _ 22 rfl base 3 i0 (.int .i64 0) 1 8 Tryz.underlying22 HI.out hz0 hz1 hz2 rfl ao _ _ _ rfl (HO2.out.alloc _) (fun _=>True) _ 1 1 [.int .i64 m1] rfl (Sl.new _ _ _ _ _ rfl) fd D D al ?_);intro v' w1 ho1 hf1 hb1);go_ret;refine ⟨v',rfl,co,((Fr.of_ext HE.out).alloc _).trans hf1,?_⟩;rcases hb1 with hb1 | hb1
   ·exact .inl hb1
   ·exact .inr ⟨_,hb1,am⟩
end Go.Proofs.YtkoeecdjijfjnaaGreat
