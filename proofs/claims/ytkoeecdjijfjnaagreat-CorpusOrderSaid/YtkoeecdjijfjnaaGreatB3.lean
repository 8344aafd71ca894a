/- Contracts of the reference's Lengths and Sizes. Conditions: none. -/
import Derived.Test.YtkoeecdjijfjnaaGreatB2
namespace Go.Proofs.YtkoeecdjijfjnaaGreat
open Go.RowKit
theorem Tryz.info3:(Tryz.prog.info? 3).map (fun i=>(i.zero,i.size,i.bytes))=some (some (.int .i64 0),1,8):=by kernel_rfl
def lsumW (before:List Int):Int→List Int→Int
 | s,[]=>s
 | s,z :: zs=>lsumW before (wrap64 (s+before.getD z.toNat 0)) zs
def lmostW (before:List Int)(ch:Bool):Nat→Int→List Int→Int
 | _,m,[]=>m
 | i,m,z :: zs=>lmostW before ch (i+1) (if ch=true∨0<i then (if m<before.getD z.toNat 0 then before.getD z.toNat 0 else m) else m) zs
def lenR (before:List Int)(x:GN):Int :=
 if x.kind=0 then 0 else if x.kind=1 then 1 else if x.kind=3 then lsumW before 0 x.kids
 else if x.kind=2 then wrap64 (1+lmostW before true 0 0 x.kids)
 else wrap64 (before.getD (x.kids.getD 0 0).toNat 0+lmostW before false 0 0 x.kids)
def sizeR (before:List Int)(x:GN):Int :=
 if x.kind=0 then rsz x.value else if x.kind=1 then 1 else if x.kind=3 then lsumW before 1 x.kids
 else lmostW before (decide (x.kind=2)) 0 0 x.kids
def RetApp (base:Nat)(e:TypeId)(size:Nat)(vb:Value)(n:Nat)(xs:List Value)(w:World)(en:Ending)(w':World):Prop :=
 ∃ v',en=.returned v'∧w'.ownsRow base e size v' n xs∧Fr (fun k=>some k=vb.ownBlock) w w'∧(v'.ownBlock=vb.ownBlock∨∃ b,v'.ownBlock=some b∧w.heap.size≤b)
def LenInv (before:List Int)(x:GN)(ch:Bool)(s0:Int)(W:World)(s m i:Value)(wr:World):Prop :=
 ∃ (k:Nat) (s1 m1:Int),k≤x.kids.length∧i=.int .i64 k∧s=.int .i64 s1∧m=.int .i64 m1∧wr=W ∧
  lsumW before s0 x.kids=lsumW before s1 (x.kids.drop k)∧lmostW before ch 0 0 x.kids=lmostW before ch k m1 (x.kids.drop k)
theorem Sl.new (W:World)(cs:List Value)(t:TypeId)(n size:Nat)(h:cs.length=n*size):Sl (W.alloc (.cells cs.toArray t)) (fun _=>True) size (some ⟨W.heap.size,0,none⟩) n cs :=
 ⟨h,fun _=>⟨W.heap.size,0,rfl,trivial,fun j u hu=>by rw [cell_new];simpa using hu⟩⟩
theorem _root_.Go.World.ownsRow.ext_ {w w':World}{base:Nat}{e:TypeId}{size:Nat}{v:Value}{n:Nat}{xs:List Value}(h:w.ownsRow base e size v n xs)(hx:Ext w w'):w'.ownsRow base e size v n xs:=by
 refine ⟨h.1,?_⟩
 rcases h.2 with h | ⟨g,cap,cur,h1,h2,h3,h4⟩
 ·exact .inl h
 ·exact .inr ⟨g,cap,cur,h1,h2,(Blk.ext (t:=e) h3 hx),h4⟩
theorem oneCell_int (k:IntKind)(n:Int):(Value.int k n).oneCell'=true:=rfl
set_option maxRecDepth 100000 in
set_option maxHeartbeats 1000000 in
theorem lengths0_any (before:List Int)(x:GN)(a:NA)(P:Nat→Prop)(base:Nat)(vb:Value)(w:World)(hx:NAt w P x a)(hown:w.ownsRow base 3 1 vb before.length (before.map (Value.int .i64)))
  (hbase:base≤w.heap.size)(hlen:before.length≤100000)(hb64:∀ z ∈ before,I64 z)(hkids:∀ z ∈ x.kids,0≤z∧z<before.length)(hk:x.kind=0) :
  Calls Tryz.prog 58 #[vb,nagg x a] w (RetApp base 3 1 vb (before.length+1) ((before ++ [lenR before x]).map (Value.int .i64)) w):=by
 have HX:=Lib.hid hx
 have HO:=Lib.hid hown
 have HK:=Lib.hid hkids
 have HB64:=Lib.hid hb64
 have HBASE:=Lib.hid hbase
 obtain ⟨A,c,hvb,hnc,hcm,hsl⟩:=Sl.of_own hown
 unfold maxLen at hcm
 have HSL:=Lib.hid hsl
 obtain ⟨hl,hc⟩:=hx.kids.le
 have HSP:=Lib.hid (show lenR before x=0 by unfold lenR;rw [if_pos hk])
 have t0:(x.kind == 0)=true:=beq_iff_eq.2 hk
 have t1:(x.kind == 1)=false:=beq_eq_false_iff_ne.2 (by omega)
 have t2:(x.kind == 2)=false:=beq_eq_false_iff_ne.2 (by omega)
 have t3:(x.kind == 3)=false:=beq_eq_false_iff_ne.2 (by omega)
 have t4:(x.kind == 4)=false:=beq_eq_false_iff_ne.2 (by omega)
 have HKK:=Lib.hid hk
 clear hk
 subst hvb
 clear hx hown hkids hb64 hbase hsl
 obtain ⟨i0,hi,hz0,hz1,hz2⟩:=info_parts Tryz.info3
 have HI:=Lib.hid hi
 clear hi
 go_enter Tryz.func58,Tryz.ntmps58
 go_wp2_with fail
 have HBX:=Lib.hid (show Blk (w.alloc (.cells (ncells x a).toArray 87)) w.heap.size 87 (ncells x a).toArray from Blk.new _ _ _)
 have HE:=Lib.hid (show Ext w (w.alloc (.cells (ncells x a).toArray 87)) from (Ext.refl _).alloc' _)
 have hb0:=HBX.out.cell' (u:=.int .i64 x.kind) 0 rfl
 have hb7:=HBX.out.cell' (u:=.slice a.kA x.kids.length a.kc) 7 rfl
 have HW:=Lib.hid (HX.out.kids.ext HE.out)
 have HO2:=Lib.hid (HO.out.alloc (.cells (ncells x a).toArray 87))
 have hsz:(w.alloc (.cells (ncells x a).toArray 87)).heap.size=w.heap.size+1:=by simp
 have HSZ:=Lib.hid hsz
 clear hsz
 generalize hWW:w.alloc (.cells (ncells x a).toArray 87)=W at *
 clear hWW
 go_loopw [5,6,7] (fun s m i wr=>LenInv before x false 0 W s m i wr) (fun _ _ i _=>x.kids.length - (intOf i).toNat)
 case atStart=>exact ⟨0,_,_,Nat.zero_le _,rfl,rfl,rfl,rfl,rfl,rfl⟩
 case round =>
  obtain ⟨k,s1,m1,hk,rfl,rfl,rfl,rfl,hs,hm⟩:=hrel
  have HS:=Lib.hid hs
  have HM:=Lib.hid hm
  clear hs hm
  by_cases hlt:k<x.kids.length
  ·obtain ⟨b1,o1,e1,-,-,g1⟩:=HW.out.get hlt
   have HD:=Lib.hid (drop_getD 0 hlt)
   obtain ⟨hz1',hz2'⟩:=HK.out _ (getD_mem (d:=0) hlt)
   rw [e1] at hb7
   clear e1
   generalize x.kids.getD k 0=z at *
   obtain ⟨j,rfl⟩:=Int.eq_ofNat_of_zero_le hz1'
   have hj:j<before.length:=by omega
   obtain ⟨b2,o2,rfl,-,hc2⟩:=((HSL.out (fun _=>True) (fun _ _=>trivial)).keep (Keeps.of_ext HE.out) (fun _ h=>h)).2 (by omega)
   have g2:=cell_of_ints hj hc2
   have HS2:=Lib.hid (show lsumW before 0 x.kids=lsumW before (wrap64 (s1+before.getD j 0)) (x.kids.drop (k+1)) by rw [HS.out,HD.out];rfl)
   clear hc2 hz1' hz2'
   by_cases hk0:0<k
   ·have tk:decide (0<(k:Int))=true:=decide_eq_true (by omega)
    have HM3:=Lib.hid (show lmostW before false 0 0 x.kids=lmostW before false (k+1) (if m1<before.getD j 0 then before.getD j 0 else m1) (x.kids.drop (k+1)) by
     rw [HM.out,HD.out];show lmostW before false (k+1) (if false=true∨0<k then _ else _) _=_;rw [if_pos (.inr hk0)];rfl)
    generalize before.getD j 0=nn at *
    go_wp2_with fail
    go_roundw
    case rel=>exact ⟨k+1,_,_,by omega,by go_num,rfl,rfl,rfl,HS2.out,HM3.out⟩
    case measure=>simp [intOf];omega
   ·have tk:decide (0<(k:Int))=false:=decide_eq_false (by omega)
    have HM3:=Lib.hid (show lmostW before false 0 0 x.kids=lmostW before false (k+1) m1 (x.kids.drop (k+1)) by
     rw [HM.out,HD.out];show lmostW before false (k+1) (if false=true∨0<k then _ else _) _=_;rw [if_neg (by simp;omega)])
    generalize before.getD j 0=nn at *
    go_wp2_with fail
    go_roundw
    case rel=>exact ⟨k+1,_,_,by omega,by go_num,rfl,rfl,rfl,HS2.out,HM3.out⟩
    case measure=>simp [intOf];omega
  ·have HS2:=Lib.hid (show lsumW before 0 x.kids=s1 by rw [HS.out,drop_nil (by omega)];rfl)
   have HM2:=Lib.hid (show lmostW before false 0 0 x.kids=m1 by rw [HM.out,drop_nil (by omega)];rfl)
   go_wp2_with (at_builtin;go_must (refine wpList_append_sl _ rfl _ _ 22 rfl base 3 i0 (.int .i64 0) 1 8 Tryz.underlying22 HI.out hz0 hz1 hz2 rfl (by decide) _ _ _ rfl (HO2.out.alloc _) (fun _=>True) _ 1 1 [.int .i64 0] rfl (Sl.new _ _ _ _ _ rfl) (by simp [oneCell_int]) (by omega) (by omega) (by rw [World.size_alloc,HSZ.out];have:=HBASE.out;omega) ?_);intro v' w1 ho1 hf1 hb1)
   go_ret
   refine ⟨v',rfl,by rw [HSP.out,List.map_append];exact ho1,((Fr.of_ext HE.out).alloc _).trans hf1,?_⟩
   rcases hb1 with hb1 | hb1
   ·exact .inl hb1
   ·exact .inr ⟨_,hb1,by have:=(HE.out).size;rw [World.size_alloc];omega⟩
set_option maxRecDepth 100000 in
set_option maxHeartbeats 1000000 in
theorem lengths1_any (before:List Int)(x:GN)(a:NA)(P:Nat→Prop)(base:Nat)(vb:Value)(w:World)(hx:NAt w P x a)(hown:w.ownsRow base 3 1 vb before.length (before.map (Value.int .i64)))
  (hbase:base≤w.heap.size)(hlen:before.length≤100000)(hb64:∀ z ∈ before,I64 z)(hkids:∀ z ∈ x.kids,0≤z∧z<before.length)(hk:x.kind=1) :
  Calls Tryz.prog 58 #[vb,nagg x a] w (RetApp base 3 1 vb (before.length+1) ((before ++ [lenR before x]).map (Value.int .i64)) w):=by
 have HX:=Lib.hid hx
 have HO:=Lib.hid hown
 have HK:=Lib.hid hkids
 have HB64:=Lib.hid hb64
 have HBASE:=Lib.hid hbase
 obtain ⟨A,c,hvb,hnc,hcm,hsl⟩:=Sl.of_own hown
 unfold maxLen at hcm
 have HSL:=Lib.hid hsl
 obtain ⟨hl,hc⟩:=hx.kids.le
 have HSP:=Lib.hid (show lenR before x=1 by unfold lenR;rw [if_neg (by omega),if_pos hk])
 have t0:(x.kind == 0)=false:=beq_eq_false_iff_ne.2 (by omega)
 have t1:(x.kind == 1)=true:=beq_iff_eq.2 hk
 have t2:(x.kind == 2)=false:=beq_eq_false_iff_ne.2 (by omega)
 have t3:(x.kind == 3)=false:=beq_eq_false_iff_ne.2 (by omega)
 have t4:(x.kind == 4)=false:=beq_eq_false_iff_ne.2 (by omega)
 have HKK:=Lib.hid hk
 clear hk
 subst hvb
 clear hx hown hkids hb64 hbase hsl
 obtain ⟨i0,hi,hz0,hz1,hz2⟩:=info_parts Tryz.info3
 have HI:=Lib.hid hi
 clear hi
 go_enter Tryz.func58,Tryz.ntmps58
 go_wp2_with fail
 have HBX:=Lib.hid (show Blk (w.alloc (.cells (ncells x a).toArray 87)) w.heap.size 87 (ncells x a).toArray from Blk.new _ _ _)
 have HE:=Lib.hid (show Ext w (w.alloc (.cells (ncells x a).toArray 87)) from (Ext.refl _).alloc' _)
 have hb0:=HBX.out.cell' (u:=.int .i64 x.kind) 0 rfl
 have hb7:=HBX.out.cell' (u:=.slice a.kA x.kids.length a.kc) 7 rfl
 have HW:=Lib.hid (HX.out.kids.ext HE.out)
 have HO2:=Lib.hid (HO.out.alloc (.cells (ncells x a).toArray 87))
 have hsz:(w.alloc (.cells (ncells x a).toArray 87)).heap.size=w.heap.size+1:=by simp
 have HSZ:=Lib.hid hsz
 clear hsz
 generalize hWW:w.alloc (.cells (ncells x a).toArray 87)=W at *
 clear hWW
 go_loopw [5,6,7] (fun s m i wr=>LenInv before x false 0 W s m i wr) (fun _ _ i _=>x.kids.length - (intOf i).toNat)
 case atStart=>exact ⟨0,_,_,Nat.zero_le _,rfl,rfl,rfl,rfl,rfl,rfl⟩
 case round =>
  obtain ⟨k,s1,m1,hk,rfl,rfl,rfl,rfl,hs,hm⟩:=hrel
  have HS:=Lib.hid hs
  have HM:=Lib.hid hm
  clear hs hm
  by_cases hlt:k<x.kids.length
  ·obtain ⟨b1,o1,e1,-,-,g1⟩:=HW.out.get hlt
   have HD:=Lib.hid (drop_getD 0 hlt)
   obtain ⟨hz1',hz2'⟩:=HK.out _ (getD_mem (d:=0) hlt)
   rw [e1] at hb7
   clear e1
   generalize x.kids.getD k 0=z at *
   obtain ⟨j,rfl⟩:=Int.eq_ofNat_of_zero_le hz1'
   have hj:j<before.length:=by omega
   obtain ⟨b2,o2,rfl,-,hc2⟩:=((HSL.out (fun _=>True) (fun _ _=>trivial)).keep (Keeps.of_ext HE.out) (fun _ h=>h)).2 (by omega)
   have g2:=cell_of_ints hj hc2
   have HS2:=Lib.hid (show lsumW before 0 x.kids=lsumW before (wrap64 (s1+before.getD j 0)) (x.kids.drop (k+1)) by rw [HS.out,HD.out];rfl)
   clear hc2 hz1' hz2'
   by_cases hk0:0<k
   ·have tk:decide (0<(k:Int))=true:=decide_eq_true (by omega)
    have HM3:=Lib.hid (show lmostW before false 0 0 x.kids=lmostW before false (k+1) (if m1<before.getD j 0 then before.getD j 0 else m1) (x.kids.drop (k+1)) by
     rw [HM.out,HD.out];show lmostW before false (k+1) (if false=true∨0<k then _ else _) _=_;rw [if_pos (.inr hk0)];rfl)
    generalize before.getD j 0=nn at *
    go_wp2_with fail
    go_roundw
    case rel=>exact ⟨k+1,_,_,by omega,by go_num,rfl,rfl,rfl,HS2.out,HM3.out⟩
    case measure=>simp [intOf];omega
   ·have tk:decide (0<(k:Int))=false:=decide_eq_false (by omega)
    have HM3:=Lib.hid (show lmostW before false 0 0 x.kids=lmostW before false (k+1) m1 (x.kids.drop (k+1)) by
     rw [HM.out,HD.out];show lmostW before false (k+1) (if false=true∨0<k then _ else _) _=_;rw [if_neg (by simp;omega)])
    generalize before.getD j 0=nn at *
    go_wp2_with fail
    go_roundw
    case rel=>exact ⟨k+1,_,_,by omega,by go_num,rfl,rfl,rfl,HS2.out,HM3.out⟩
    case measure=>simp [intOf];omega
  ·have HS2:=Lib.hid (show lsumW before 0 x.kids=s1 by rw [HS.out,drop_nil (by omega)];rfl)
   have HM2:=Lib.hid (show lmostW before false 0 0 x.kids=m1 by rw [HM.out,drop_nil (by omega)];rfl)
   go_wp2_with (at_builtin;go_must (refine wpList_append_sl _ rfl _ _ 22 rfl base 3 i0 (.int .i64 0) 1 8 Tryz.underlying22 HI.out hz0 hz1 hz2 rfl (by decide) _ _ _ rfl (HO2.out.alloc _) (fun _=>True) _ 1 1 [.int .i64 1] rfl (Sl.new _ _ _ _ _ rfl) (by simp [oneCell_int]) (by omega) (by omega) (by rw [World.size_alloc,HSZ.out];have:=HBASE.out;omega) ?_);intro v' w1 ho1 hf1 hb1)
   go_ret
   refine ⟨v',rfl,by rw [HSP.out,List.map_append];exact ho1,((Fr.of_ext HE.out).alloc _).trans hf1,?_⟩
   rcases hb1 with hb1 | hb1
   ·exact .inl hb1
   ·exact .inr ⟨_,hb1,by have:=(HE.out).size;rw [World.size_alloc];omega⟩
set_option maxRecDepth 100000 in
set_option maxHeartbeats 1000000 in
theorem lengths3_any (before:List Int)(x:GN)(a:NA)(P:Nat→Prop)(base:Nat)(vb:Value)(w:World)(hx:NAt w P x a)(hown:w.ownsRow base 3 1 vb before.length (before.map (Value.int .i64)))
  (hbase:base≤w.heap.size)(hlen:before.length≤100000)(hb64:∀ z ∈ before,I64 z)(hkids:∀ z ∈ x.kids,0≤z∧z<before.length)(hk:x.kind=3) :
  Calls Tryz.prog 58 #[vb,nagg x a] w (RetApp base 3 1 vb (before.length+1) ((before ++ [lenR before x]).map (Value.int .i64)) w):=by
 have HX:=Lib.hid hx
 have HO:=Lib.hid hown
 have HK:=Lib.hid hkids
 have HB64:=Lib.hid hb64
 have HBASE:=Lib.hid hbase
 obtain ⟨A,c,hvb,hnc,hcm,hsl⟩:=Sl.of_own hown
 unfold maxLen at hcm
 have HSL:=Lib.hid hsl
 obtain ⟨hl,hc⟩:=hx.kids.le
 have HSP:=Lib.hid (show lenR before x=lsumW before 0 x.kids by unfold lenR;rw [if_neg (by omega),if_neg (by omega),if_pos hk])
 have t0:(x.kind == 0)=false:=beq_eq_false_iff_ne.2 (by omega)
 have t1:(x.kind == 1)=false:=beq_eq_false_iff_ne.2 (by omega)
 have t2:(x.kind == 2)=false:=beq_eq_false_iff_ne.2 (by omega)
 have t3:(x.kind == 3)=true:=beq_iff_eq.2 hk
 have t4:(x.kind == 4)=false:=beq_eq_false_iff_ne.2 (by omega)
 have HKK:=Lib.hid hk
 clear hk
 subst hvb
 clear hx hown hkids hb64 hbase hsl
 obtain ⟨i0,hi,hz0,hz1,hz2⟩:=info_parts Tryz.info3
 have HI:=Lib.hid hi
 clear hi
 go_enter Tryz.func58,Tryz.ntmps58
 go_wp2_with fail
 have HBX:=Lib.hid (show Blk (w.alloc (.cells (ncells x a).toArray 87)) w.heap.size 87 (ncells x a).toArray from Blk.new _ _ _)
 have HE:=Lib.hid (show Ext w (w.alloc (.cells (ncells x a).toArray 87)) from (Ext.refl _).alloc' _)
 have hb0:=HBX.out.cell' (u:=.int .i64 x.kind) 0 rfl
 have hb7:=HBX.out.cell' (u:=.slice a.kA x.kids.length a.kc) 7 rfl
 have HW:=Lib.hid (HX.out.kids.ext HE.out)
 have HO2:=Lib.hid (HO.out.alloc (.cells (ncells x a).toArray 87))
 have hsz:(w.alloc (.cells (ncells x a).toArray 87)).heap.size=w.heap.size+1:=by simp
 have HSZ:=Lib.hid hsz
 clear hsz
 generalize hWW:w.alloc (.cells (ncells x a).toArray 87)=W at *
 clear hWW
 go_loopw [5,6,7] (fun s m i wr=>LenInv before x false 0 W s m i wr) (fun _ _ i _=>x.kids.length - (intOf i).toNat)
 case atStart=>exact ⟨0,_,_,Nat.zero_le _,rfl,rfl,rfl,rfl,rfl,rfl⟩
 case round =>
  obtain ⟨k,s1,m1,hk,rfl,rfl,rfl,rfl,hs,hm⟩:=hrel
  have HS:=Lib.hid hs
  have HM:=Lib.hid hm
  clear hs hm
  by_cases hlt:k<x.kids.length
  ·obtain ⟨b1,o1,e1,-,-,g1⟩:=HW.out.get hlt
   have HD:=Lib.hid (drop_getD 0 hlt)
   obtain ⟨hz1',hz2'⟩:=HK.out _ (getD_mem (d:=0) hlt)
   rw [e1] at hb7
   clear e1
   generalize x.kids.getD k 0=z at *
   obtain ⟨j,rfl⟩:=Int.eq_ofNat_of_zero_le hz1'
   have hj:j<before.length:=by omega
   obtain ⟨b2,o2,rfl,-,hc2⟩:=((HSL.out (fun _=>True) (fun _ _=>trivial)).keep (Keeps.of_ext HE.out) (fun _ h=>h)).2 (by omega)
   have g2:=cell_of_ints hj hc2
   have HS2:=Lib.hid (show lsumW before 0 x.kids=lsumW before (wrap64 (s1+before.getD j 0)) (x.kids.drop (k+1)) by rw [HS.out,HD.out];rfl)
   clear hc2 hz1' hz2'
   by_cases hk0:0<k
   ·have tk:decide (0<(k:Int))=true:=decide_eq_true (by omega)
    have HM3:=Lib.hid (show lmostW before false 0 0 x.kids=lmostW before false (k+1) (if m1<before.getD j 0 then before.getD j 0 else m1) (x.kids.drop (k+1)) by
     rw [HM.out,HD.out];show lmostW before false (k+1) (if false=true∨0<k then _ else _) _=_;rw [if_pos (.inr hk0)];rfl)
    generalize before.getD j 0=nn at *
    go_wp2_with fail
    go_roundw
    case rel=>exact ⟨k+1,_,_,by omega,by go_num,rfl,rfl,rfl,HS2.out,HM3.out⟩
    case measure=>simp [intOf];omega
   ·have tk:decide (0<(k:Int))=false:=decide_eq_false (by omega)
    have HM3:=Lib.hid (show lmostW before false 0 0 x.kids=lmostW before false (k+1) m1 (x.kids.drop (k+1)) by
     rw [HM.out,HD.out];show lmostW before false (k+1) (if false=true∨0<k then _ else _) _=_;rw [if_neg (by simp;omega)])
    generalize before.getD j 0=nn at *
    go_wp2_with fail
    go_roundw
    case rel=>exact ⟨k+1,_,_,by omega,by go_num,rfl,rfl,rfl,HS2.out,HM3.out⟩
    case measure=>simp [intOf];omega
  ·have HS2:=Lib.hid (show lsumW before 0 x.kids=s1 by rw [HS.out,drop_nil (by omega)];rfl)
   have HM2:=Lib.hid (show lmostW before false 0 0 x.kids=m1 by rw [HM.out,drop_nil (by omega)];rfl)
   go_wp2_with (at_builtin;go_must (refine wpList_append_sl _ rfl _ _ 22 rfl base 3 i0 (.int .i64 0) 1 8 Tryz.underlying22 HI.out hz0 hz1 hz2 rfl (by decide) _ _ _ rfl (HO2.out.alloc _) (fun _=>True) _ 1 1 [.int .i64 s1] rfl (Sl.new _ _ _ _ _ rfl) (by simp [oneCell_int]) (by omega) (by omega) (by rw [World.size_alloc,HSZ.out];have:=HBASE.out;omega) ?_);intro v' w1 ho1 hf1 hb1)
   go_ret
   refine ⟨v',rfl,by rw [HSP.out,List.map_append];exact (by rw [HS2.out];exact ho1),((Fr.of_ext HE.out).alloc _).trans hf1,?_⟩
   rcases hb1 with hb1 | hb1
   ·exact .inl hb1
   ·exact .inr ⟨_,hb1,by have:=(HE.out).size;rw [World.size_alloc];omega⟩
set_option maxRecDepth 100000 in
set_option maxHeartbeats 1000000 in
theorem lengths2_any (before:List Int)(x:GN)(a:NA)(P:Nat→Prop)(base:Nat)(vb:Value)(w:World)(hx:NAt w P x a)(hown:w.ownsRow base 3 1 vb before.length (before.map (Value.int .i64)))
  (hbase:base≤w.heap.size)(hlen:before.length≤100000)(hb64:∀ z ∈ before,I64 z)(hkids:∀ z ∈ x.kids,0≤z∧z<before.length)(hk:x.kind=2) :
  Calls Tryz.prog 58 #[vb,nagg x a] w (RetApp base 3 1 vb (before.length+1) ((before ++ [lenR before x]).map (Value.int .i64)) w):=by
 have HX:=Lib.hid hx
 have HO:=Lib.hid hown
 have HK:=Lib.hid hkids
 have HB64:=Lib.hid hb64
 have HBASE:=Lib.hid hbase
 obtain ⟨A,c,hvb,hnc,hcm,hsl⟩:=Sl.of_own hown
 unfold maxLen at hcm
 have HSL:=Lib.hid hsl
 obtain ⟨hl,hc⟩:=hx.kids.le
 have HSP:=Lib.hid (show lenR before x=wrap64 (1+lmostW before true 0 0 x.kids) by unfold lenR;rw [if_neg (by omega),if_neg (by omega),if_neg (by omega),if_pos hk])
 have t0:(x.kind == 0)=false:=beq_eq_false_iff_ne.2 (by omega)
 have t1:(x.kind == 1)=false:=beq_eq_false_iff_ne.2 (by omega)
 have t2:(x.kind == 2)=true:=beq_iff_eq.2 hk
 have t3:(x.kind == 3)=false:=beq_eq_false_iff_ne.2 (by omega)
 have t4:(x.kind == 4)=false:=beq_eq_false_iff_ne.2 (by omega)
 have HKK:=Lib.hid hk
 clear hk
 subst hvb
 clear hx hown hkids hb64 hbase hsl
 obtain ⟨i0,hi,hz0,hz1,hz2⟩:=info_parts Tryz.info3
 have HI:=Lib.hid hi
 clear hi
 go_enter Tryz.func58,Tryz.ntmps58
 go_wp2_with fail
 have HBX:=Lib.hid (show Blk (w.alloc (.cells (ncells x a).toArray 87)) w.heap.size 87 (ncells x a).toArray from Blk.new _ _ _)
 have HE:=Lib.hid (show Ext w (w.alloc (.cells (ncells x a).toArray 87)) from (Ext.refl _).alloc' _)
 have hb0:=HBX.out.cell' (u:=.int .i64 x.kind) 0 rfl
 have hb7:=HBX.out.cell' (u:=.slice a.kA x.kids.length a.kc) 7 rfl
 have HW:=Lib.hid (HX.out.kids.ext HE.out)
 have HO2:=Lib.hid (HO.out.alloc (.cells (ncells x a).toArray 87))
 have hsz:(w.alloc (.cells (ncells x a).toArray 87)).heap.size=w.heap.size+1:=by simp
 have HSZ:=Lib.hid hsz
 clear hsz
 generalize hWW:w.alloc (.cells (ncells x a).toArray 87)=W at *
 clear hWW
 go_loopw [5,6,7] (fun s m i wr=>LenInv before x true 0 W s m i wr) (fun _ _ i _=>x.kids.length - (intOf i).toNat)
 case atStart=>exact ⟨0,_,_,Nat.zero_le _,rfl,rfl,rfl,rfl,rfl,rfl⟩
 case round =>
  obtain ⟨k,s1,m1,hk,rfl,rfl,rfl,rfl,hs,hm⟩:=hrel
  have HS:=Lib.hid hs
  have HM:=Lib.hid hm
  clear hs hm
  by_cases hlt:k<x.kids.length
  ·obtain ⟨b1,o1,e1,-,-,g1⟩:=HW.out.get hlt
   have HD:=Lib.hid (drop_getD 0 hlt)
   obtain ⟨hz1',hz2'⟩:=HK.out _ (getD_mem (d:=0) hlt)
   rw [e1] at hb7
   clear e1
   generalize x.kids.getD k 0=z at *
   obtain ⟨j,rfl⟩:=Int.eq_ofNat_of_zero_le hz1'
   have hj:j<before.length:=by omega
   obtain ⟨b2,o2,rfl,-,hc2⟩:=((HSL.out (fun _=>True) (fun _ _=>trivial)).keep (Keeps.of_ext HE.out) (fun _ h=>h)).2 (by omega)
   have g2:=cell_of_ints hj hc2
   have HS2:=Lib.hid (show lsumW before 0 x.kids=lsumW before (wrap64 (s1+before.getD j 0)) (x.kids.drop (k+1)) by rw [HS.out,HD.out];rfl)
   clear hc2 hz1' hz2'
   have HM3:=Lib.hid (show lmostW before true 0 0 x.kids=lmostW before true (k+1) (if m1<before.getD j 0 then before.getD j 0 else m1) (x.kids.drop (k+1)) by rw [HM.out,HD.out];rfl)
   generalize before.getD j 0=nn at *
   go_wp2_with fail
   go_roundw
   case rel=>exact ⟨k+1,_,_,by omega,by go_num,rfl,rfl,rfl,HS2.out,HM3.out⟩
   case measure=>simp [intOf];omega
  ·have HS2:=Lib.hid (show lsumW before 0 x.kids=s1 by rw [HS.out,drop_nil (by omega)];rfl)
   have HM2:=Lib.hid (show lmostW before true 0 0 x.kids=m1 by rw [HM.out,drop_nil (by omega)];rfl)
   go_wp2_with (at_builtin;go_must (refine wpList_append_sl _ rfl _ _ 22 rfl base 3 i0 (.int .i64 0) 1 8 Tryz.underlying22 HI.out hz0 hz1 hz2 rfl (by decide) _ _ _ rfl (HO2.out.alloc _) (fun _=>True) _ 1 1 [.int .i64 (wrap64 (1+m1))] rfl (Sl.new _ _ _ _ _ rfl) (by simp [oneCell_int]) (by omega) (by omega) (by rw [World.size_alloc,HSZ.out];have:=HBASE.out;omega) ?_);intro v' w1 ho1 hf1 hb1)
   go_ret
   refine ⟨v',rfl,by rw [HSP.out,List.map_append];exact (by rw [HM2.out];exact ho1),((Fr.of_ext HE.out).alloc _).trans hf1,?_⟩
   rcases hb1 with hb1 | hb1
   ·exact .inl hb1
   ·exact .inr ⟨_,hb1,by have:=(HE.out).size;rw [World.size_alloc];omega⟩
set_option maxRecDepth 100000 in
set_option maxHeartbeats 1000000 in
theorem lengths4_any (before:List Int)(x:GN)(a:NA)(P:Nat→Prop)(base:Nat)(vb:Value)(w:World)(hx:NAt w P x a)(hown:w.ownsRow base 3 1 vb before.length (before.map (Value.int .i64)))
  (hbase:base≤w.heap.size)(hlen:before.length≤100000)(hb64:∀ z ∈ before,I64 z)(hkids:∀ z ∈ x.kids,0≤z∧z<before.length)(hk:x.kind=4)(hkp:0<x.kids.length) :
  Calls Tryz.prog 58 #[vb,nagg x a] w (RetApp base 3 1 vb (before.length+1) ((before ++ [lenR before x]).map (Value.int .i64)) w):=by
 have HX:=Lib.hid hx
 have HO:=Lib.hid hown
 have HK:=Lib.hid hkids
 have HB64:=Lib.hid hb64
 have HBASE:=Lib.hid hbase
 obtain ⟨A,c,hvb,hnc,hcm,hsl⟩:=Sl.of_own hown
 unfold maxLen at hcm
 have HSL:=Lib.hid hsl
 obtain ⟨hl,hc⟩:=hx.kids.le
 have HKP:=Lib.hid hkp
 clear hkp
 have HSP:=Lib.hid (show lenR before x=wrap64 (before.getD (x.kids.getD 0 0).toNat 0+lmostW before false 0 0 x.kids) by unfold lenR;rw [if_neg (by omega),if_neg (by omega),if_neg (by omega),if_neg (by omega)])
 have t0:(x.kind == 0)=false:=beq_eq_false_iff_ne.2 (by omega)
 have t1:(x.kind == 1)=false:=beq_eq_false_iff_ne.2 (by omega)
 have t2:(x.kind == 2)=false:=beq_eq_false_iff_ne.2 (by omega)
 have t3:(x.kind == 3)=false:=beq_eq_false_iff_ne.2 (by omega)
 have t4:(x.kind == 4)=true:=beq_iff_eq.2 hk
 have HKK:=Lib.hid hk
 clear hk
 subst hvb
 clear hx hown hkids hb64 hbase hsl
 obtain ⟨i0,hi,hz0,hz1,hz2⟩:=info_parts Tryz.info3
 have HI:=Lib.hid hi
 clear hi
 go_enter Tryz.func58,Tryz.ntmps58
 go_wp2_with fail
 have HBX:=Lib.hid (show Blk (w.alloc (.cells (ncells x a).toArray 87)) w.heap.size 87 (ncells x a).toArray from Blk.new _ _ _)
 have HE:=Lib.hid (show Ext w (w.alloc (.cells (ncells x a).toArray 87)) from (Ext.refl _).alloc' _)
 have hb0:=HBX.out.cell' (u:=.int .i64 x.kind) 0 rfl
 have hb7:=HBX.out.cell' (u:=.slice a.kA x.kids.length a.kc) 7 rfl
 have HW:=Lib.hid (HX.out.kids.ext HE.out)
 have HO2:=Lib.hid (HO.out.alloc (.cells (ncells x a).toArray 87))
 have hsz:(w.alloc (.cells (ncells x a).toArray 87)).heap.size=w.heap.size+1:=by simp
 have HSZ:=Lib.hid hsz
 clear hsz
 generalize hWW:w.alloc (.cells (ncells x a).toArray 87)=W at *
 clear hWW
 go_loopw [5,6,7] (fun s m i wr=>LenInv before x false 0 W s m i wr) (fun _ _ i _=>x.kids.length - (intOf i).toNat)
 case atStart=>exact ⟨0,_,_,Nat.zero_le _,rfl,rfl,rfl,rfl,rfl,rfl⟩
 case round =>
  obtain ⟨k,s1,m1,hk,rfl,rfl,rfl,rfl,hs,hm⟩:=hrel
  have HS:=Lib.hid hs
  have HM:=Lib.hid hm
  clear hs hm
  by_cases hlt:k<x.kids.length
  ·obtain ⟨b1,o1,e1,-,-,g1⟩:=HW.out.get hlt
   have HD:=Lib.hid (drop_getD 0 hlt)
   obtain ⟨hz1',hz2'⟩:=HK.out _ (getD_mem (d:=0) hlt)
   rw [e1] at hb7
   clear e1
   generalize x.kids.getD k 0=z at *
   obtain ⟨j,rfl⟩:=Int.eq_ofNat_of_zero_le hz1'
   have hj:j<before.length:=by omega
   obtain ⟨b2,o2,rfl,-,hc2⟩:=((HSL.out (fun _=>True) (fun _ _=>trivial)).keep (Keeps.of_ext HE.out) (fun _ h=>h)).2 (by omega)
   have g2:=cell_of_ints hj hc2
   have HS2:=Lib.hid (show lsumW before 0 x.kids=lsumW before (wrap64 (s1+before.getD j 0)) (x.kids.drop (k+1)) by rw [HS.out,HD.out];rfl)
   clear hc2 hz1' hz2'
   by_cases hk0:0<k
   ·have tk:decide (0<(k:Int))=true:=decide_eq_true (by omega)
    have HM3:=Lib.hid (show lmostW before false 0 0 x.kids=lmostW before false (k+1) (if m1<before.getD j 0 then before.getD j 0 else m1) (x.kids.drop (k+1)) by
     rw [HM.out,HD.out];show lmostW before false (k+1) (if false=true∨0<k then _ else _) _=_;rw [if_pos (.inr hk0)];rfl)
    generalize before.getD j 0=nn at *
    go_wp2_with fail
    go_roundw
    case rel=>exact ⟨k+1,_,_,by omega,by go_num,rfl,rfl,rfl,HS2.out,HM3.out⟩
    case measure=>simp [intOf];omega
   ·have tk:decide (0<(k:Int))=false:=decide_eq_false (by omega)
    have HM3:=Lib.hid (show lmostW before false 0 0 x.kids=lmostW before false (k+1) m1 (x.kids.drop (k+1)) by
     rw [HM.out,HD.out];show lmostW before false (k+1) (if false=true∨0<k then _ else _) _=_;rw [if_neg (by simp;omega)])
    generalize before.getD j 0=nn at *
    go_wp2_with fail
    go_roundw
    case rel=>exact ⟨k+1,_,_,by omega,by go_num,rfl,rfl,rfl,HS2.out,HM3.out⟩
    case measure=>simp [intOf];omega
  ·have HS2:=Lib.hid (show lsumW before 0 x.kids=s1 by rw [HS.out,drop_nil (by omega)];rfl)
   have HM2:=Lib.hid (show lmostW before false 0 0 x.kids=m1 by rw [HM.out,drop_nil (by omega)];rfl)
   have hlt0:0<x.kids.length:=HKP.out
   obtain ⟨b1,o1,e1,-,-,g1⟩:=HW.out.get hlt0
   rw [Nat.add_zero] at g1
   obtain ⟨hz1',hz2'⟩:=HK.out _ (getD_mem (d:=0) hlt0)
   rw [e1] at hb7
   clear e1
   have HSP0:=HSP
   clear HSP
   have HM20:=HM2
   clear HM2
   generalize x.kids.getD 0 0=z at *
   obtain ⟨j,rfl⟩:=Int.eq_ofNat_of_zero_le hz1'
   have hj:j<before.length:=by omega
   obtain ⟨b2,o2,rfl,-,hc2⟩:=((HSL.out (fun _=>True) (fun _ _=>trivial)).keep (Keeps.of_ext HE.out) (fun _ h=>h)).2 (by omega)
   have g2:=cell_of_ints hj hc2
   have HSP:=Lib.hid (show lenR before x=wrap64 (before.getD j 0+m1) by rw [HSP0.out,HM20.out];rfl)
   clear hc2 hz1' hz2' HSP0 HM20
   generalize before.getD j 0=nn at *
   go_wp2_with (at_builtin;go_must (refine wpList_append_sl _ rfl _ _ 22 rfl base 3 i0 (.int .i64 0) 1 8 Tryz.underlying22 HI.out hz0 hz1 hz2 rfl (by decide) _ _ _ rfl (HO2.out.alloc _) (fun _=>True) _ 1 1 [.int .i64 (wrap64 (nn+m1))] rfl (Sl.new _ _ _ _ _ rfl) (by simp [oneCell_int]) (by omega) (by omega) (by rw [World.size_alloc,HSZ.out];have:=HBASE.out;omega) ?_);intro v' w1 ho1 hf1 hb1)
   go_ret
   refine ⟨v',rfl,by rw [HSP.out,List.map_append];exact ho1,((Fr.of_ext HE.out).alloc _).trans hf1,?_⟩
   rcases hb1 with hb1 | hb1
   ·exact .inl hb1
   ·exact .inr ⟨_,hb1,by have:=(HE.out).size;rw [World.size_alloc];omega⟩
set_option maxRecDepth 100000 in
set_option maxHeartbeats 1000000 in
theorem sizes0_any (before:List Int)(x:GN)(a:NA)(P:Nat→Prop)(base:Nat)(vb:Value)(w:World)(hx:NAt w P x a)(hown:w.ownsRow base 3 1 vb before.length (before.map (Value.int .i64)))
  (hbase:base≤w.heap.size)(hlen:before.length≤100000)(hb64:∀ z ∈ before,I64 z)(hkids:∀ z ∈ x.kids,0≤z∧z<before.length)(hk:x.kind=0) :
  Calls Tryz.prog 59 #[vb,nagg x a] w (RetApp base 3 1 vb (before.length+1) ((before ++ [sizeR before x]).map (Value.int .i64)) w):=by
 have HX:=Lib.hid hx
 have HO:=Lib.hid hown
 have HK:=Lib.hid hkids
 have HB64:=Lib.hid hb64
 have HBASE:=Lib.hid hbase
 obtain ⟨A,c,hvb,hnc,hcm,hsl⟩:=Sl.of_own hown
 unfold maxLen at hcm
 have HSL:=Lib.hid hsl
 obtain ⟨hl,hc⟩:=hx.kids.le
 have HSP:=Lib.hid (show sizeR before x=rsz x.value by unfold sizeR;rw [if_pos hk])
 have t0:(x.kind == 0)=true:=beq_iff_eq.2 hk
 have t1:(x.kind == 1)=false:=beq_eq_false_iff_ne.2 (by omega)
 have t2:(x.kind == 2)=false:=beq_eq_false_iff_ne.2 (by omega)
 have t3:(x.kind == 3)=false:=beq_eq_false_iff_ne.2 (by omega)
 have t4:(x.kind == 4)=false:=beq_eq_false_iff_ne.2 (by omega)
 have HKK:=Lib.hid hk
 clear hk
 subst hvb
 clear hx hown hkids hb64 hbase hsl
 obtain ⟨i0,hi,hz0,hz1,hz2⟩:=info_parts Tryz.info3
 have HI:=Lib.hid hi
 clear hi
 go_enter Tryz.func59,Tryz.ntmps59
 go_wp2_with fail
 have HBX:=Lib.hid (show Blk (w.alloc (.cells (ncells x a).toArray 87)) w.heap.size 87 (ncells x a).toArray from Blk.new _ _ _)
 have HE:=Lib.hid (show Ext w (w.alloc (.cells (ncells x a).toArray 87)) from (Ext.refl _).alloc' _)
 have hb0:=HBX.out.cell' (u:=.int .i64 x.kind) 0 rfl
 have hb7:=HBX.out.cell' (u:=.slice a.kA x.kids.length a.kc) 7 rfl
 have HW:=Lib.hid (HX.out.kids.ext HE.out)
 have HO2:=Lib.hid (HO.out.alloc (.cells (ncells x a).toArray 87))
 have hsz:(w.alloc (.cells (ncells x a).toArray 87)).heap.size=w.heap.size+1:=by simp
 have HSZ:=Lib.hid hsz
 clear hsz
 generalize hWW:w.alloc (.cells (ncells x a).toArray 87)=W at *
 clear hWW
 go_loopw [5,6,7] (fun s m i wr=>LenInv before x false 1 W s m i wr) (fun _ _ i _=>x.kids.length - (intOf i).toNat)
 case atStart=>exact ⟨0,_,_,Nat.zero_le _,rfl,rfl,rfl,rfl,rfl,rfl⟩
 case round =>
  obtain ⟨k,s1,m1,hk,rfl,rfl,rfl,rfl,hs,hm⟩:=hrel
  have HS:=Lib.hid hs
  have HM:=Lib.hid hm
  clear hs hm
  by_cases hlt:k<x.kids.length
  ·obtain ⟨b1,o1,e1,-,-,g1⟩:=HW.out.get hlt
   have HD:=Lib.hid (drop_getD 0 hlt)
   obtain ⟨hz1',hz2'⟩:=HK.out _ (getD_mem (d:=0) hlt)
   rw [e1] at hb7
   clear e1
   generalize x.kids.getD k 0=z at *
   obtain ⟨j,rfl⟩:=Int.eq_ofNat_of_zero_le hz1'
   have hj:j<before.length:=by omega
   obtain ⟨b2,o2,rfl,-,hc2⟩:=((HSL.out (fun _=>True) (fun _ _=>trivial)).keep (Keeps.of_ext HE.out) (fun _ h=>h)).2 (by omega)
   have g2:=cell_of_ints hj hc2
   have HS2:=Lib.hid (show lsumW before 1 x.kids=lsumW before (wrap64 (s1+before.getD j 0)) (x.kids.drop (k+1)) by rw [HS.out,HD.out];rfl)
   clear hc2 hz1' hz2'
   by_cases hk0:0<k
   ·have tk:decide (0<(k:Int))=true:=decide_eq_true (by omega)
    have HM3:=Lib.hid (show lmostW before false 0 0 x.kids=lmostW before false (k+1) (if m1<before.getD j 0 then before.getD j 0 else m1) (x.kids.drop (k+1)) by
     rw [HM.out,HD.out];show lmostW before false (k+1) (if false=true∨0<k then _ else _) _=_;rw [if_pos (.inr hk0)];rfl)
    generalize before.getD j 0=nn at *
    go_wp2_with fail
    go_roundw
    case rel=>exact ⟨k+1,_,_,by omega,by go_num,rfl,rfl,rfl,HS2.out,HM3.out⟩
    case measure=>simp [intOf];omega
   ·have tk:decide (0<(k:Int))=false:=decide_eq_false (by omega)
    have HM3:=Lib.hid (show lmostW before false 0 0 x.kids=lmostW before false (k+1) m1 (x.kids.drop (k+1)) by
     rw [HM.out,HD.out];show lmostW before false (k+1) (if false=true∨0<k then _ else _) _=_;rw [if_neg (by simp;omega)])
    generalize before.getD j 0=nn at *
    go_wp2_with fail
    go_roundw
    case rel=>exact ⟨k+1,_,_,by omega,by go_num,rfl,rfl,rfl,HS2.out,HM3.out⟩
    case measure=>simp [intOf];omega
  ·have HS2:=Lib.hid (show lsumW before 1 x.kids=s1 by rw [HS.out,drop_nil (by omega)];rfl)
   have HM2:=Lib.hid (show lmostW before false 0 0 x.kids=m1 by rw [HM.out,drop_nil (by omega)];rfl)
   have hb8:=HBX.out.cell' (u:=.int .i64 x.value.kind) 8 rfl
   have hb9:=HBX.out.cell' (u:=.int .i64 x.value.n) 9 rfl
   have hb10:=HBX.out.cell' (u:=.string x.value.s) 10 rfl
   have hb11:=HBX.out.cell' (u:=.slice a.xA x.value.kids.length a.xc) 11 rfl
   go_wp2_with fail
   refine (refSize_any x.value a.xA a.xc P _ (HX.out.value.ext HE.out)).mono ?_
   rintro e w2 ⟨rfl,hx2⟩
   have HE2:=Lib.hid (HE.out.trans' hx2)
   have HO3:=Lib.hid (HO2.out.ext_ hx2)
   clear hx2
   go_wp2_with (at_builtin;go_must (refine wpList_append_sl _ rfl _ _ 22 rfl base 3 i0 (.int .i64 0) 1 8 Tryz.underlying22 HI.out hz0 hz1 hz2 rfl (by decide) _ _ _ rfl (HO3.out.alloc _) (fun _=>True) _ 1 1 [.int .i64 (rsz x.value)] rfl (Sl.new _ _ _ _ _ rfl) (by simp [oneCell_int]) (by omega) (by omega) (by have:=HE2.out.size;have:=HBASE.out;rw [World.size_alloc];omega) ?_);intro v' w1 ho1 hf1 hb1)
   go_ret
   refine ⟨v',rfl,by rw [HSP.out,List.map_append];exact ho1,((Fr.of_ext HE2.out).alloc _).trans hf1,?_⟩
   rcases hb1 with hb1 | hb1
   ·exact .inl hb1
   ·exact .inr ⟨_,hb1,by have:=(HE2.out).size;rw [World.size_alloc];omega⟩
set_option maxRecDepth 100000 in
set_option maxHeartbeats 1000000 in
theorem sizes1_any (before:List Int)(x:GN)(a:NA)(P:Nat→Prop)(base:Nat)(vb:Value)(w:World)(hx:NAt w P x a)(hown:w.ownsRow base 3 1 vb before.length (before.map (Value.int .i64)))
  (hbase:base≤w.heap.size)(hlen:before.length≤100000)(hb64:∀ z ∈ before,I64 z)(hkids:∀ z ∈ x.kids,0≤z∧z<before.length)(hk:x.kind=1) :
  Calls Tryz.prog 59 #[vb,nagg x a] w (RetApp base 3 1 vb (before.length+1) ((before ++ [sizeR before x]).map (Value.int .i64)) w):=by
 have HX:=Lib.hid hx
 have HO:=Lib.hid hown
 have HK:=Lib.hid hkids
 have HB64:=Lib.hid hb64
 have HBASE:=Lib.hid hbase
 obtain ⟨A,c,hvb,hnc,hcm,hsl⟩:=Sl.of_own hown
 unfold maxLen at hcm
 have HSL:=Lib.hid hsl
 obtain ⟨hl,hc⟩:=hx.kids.le
 have HSP:=Lib.hid (show sizeR before x=1 by unfold sizeR;rw [if_neg (by omega),if_pos hk])
 have t0:(x.kind == 0)=false:=beq_eq_false_iff_ne.2 (by omega)
 have t1:(x.kind == 1)=true:=beq_iff_eq.2 hk
 have t2:(x.kind == 2)=false:=beq_eq_false_iff_ne.2 (by omega)
 have t3:(x.kind == 3)=false:=beq_eq_false_iff_ne.2 (by omega)
 have t4:(x.kind == 4)=false:=beq_eq_false_iff_ne.2 (by omega)
 have HKK:=Lib.hid hk
 clear hk
 subst hvb
 clear hx hown hkids hb64 hbase hsl
 obtain ⟨i0,hi,hz0,hz1,hz2⟩:=info_parts Tryz.info3
 have HI:=Lib.hid hi
 clear hi
 go_enter Tryz.func59,Tryz.ntmps59
 go_wp2_with fail
 have HBX:=Lib.hid (show Blk (w.alloc (.cells (ncells x a).toArray 87)) w.heap.size 87 (ncells x a).toArray from Blk.new _ _ _)
 have HE:=Lib.hid (show Ext w (w.alloc (.cells (ncells x a).toArray 87)) from (Ext.refl _).alloc' _)
 have hb0:=HBX.out.cell' (u:=.int .i64 x.kind) 0 rfl
 have hb7:=HBX.out.cell' (u:=.slice a.kA x.kids.length a.kc) 7 rfl
 have HW:=Lib.hid (HX.out.kids.ext HE.out)
 have HO2:=Lib.hid (HO.out.alloc (.cells (ncells x a).toArray 87))
 have hsz:(w.alloc (.cells (ncells x a).toArray 87)).heap.size=w.heap.size+1:=by simp
 have HSZ:=Lib.hid hsz
 clear hsz
 generalize hWW:w.alloc (.cells (ncells x a).toArray 87)=W at *
 clear hWW
 go_loopw [5,6,7] (fun s m i wr=>LenInv before x false 1 W s m i wr) (fun _ _ i _=>x.kids.length - (intOf i).toNat)
 case atStart=>exact ⟨0,_,_,Nat.zero_le _,rfl,rfl,rfl,rfl,rfl,rfl⟩
 case round =>
  obtain ⟨k,s1,m1,hk,rfl,rfl,rfl,rfl,hs,hm⟩:=hrel
  have HS:=Lib.hid hs
  have HM:=Lib.hid hm
  clear hs hm
  by_cases hlt:k<x.kids.length
  ·obtain ⟨b1,o1,e1,-,-,g1⟩:=HW.out.get hlt
   have HD:=Lib.hid (drop_getD 0 hlt)
   obtain ⟨hz1',hz2'⟩:=HK.out _ (getD_mem (d:=0) hlt)
   rw [e1] at hb7
   clear e1
   generalize x.kids.getD k 0=z at *
   obtain ⟨j,rfl⟩:=Int.eq_ofNat_of_zero_le hz1'
   have hj:j<before.length:=by omega
   obtain ⟨b2,o2,rfl,-,hc2⟩:=((HSL.out (fun _=>True) (fun _ _=>trivial)).keep (Keeps.of_ext HE.out) (fun _ h=>h)).2 (by omega)
   have g2:=cell_of_ints hj hc2
   have HS2:=Lib.hid (show lsumW before 1 x.kids=lsumW before (wrap64 (s1+before.getD j 0)) (x.kids.drop (k+1)) by rw [HS.out,HD.out];rfl)
   clear hc2 hz1' hz2'
   by_cases hk0:0<k
   ·have tk:decide (0<(k:Int))=true:=decide_eq_true (by omega)
    have HM3:=Lib.hid (show lmostW before false 0 0 x.kids=lmostW before false (k+1) (if m1<before.getD j 0 then before.getD j 0 else m1) (x.kids.drop (k+1)) by
     rw [HM.out,HD.out];show lmostW before false (k+1) (if false=true∨0<k then _ else _) _=_;rw [if_pos (.inr hk0)];rfl)
    generalize before.getD j 0=nn at *
    go_wp2_with fail
    go_roundw
    case rel=>exact ⟨k+1,_,_,by omega,by go_num,rfl,rfl,rfl,HS2.out,HM3.out⟩
    case measure=>simp [intOf];omega
   ·have tk:decide (0<(k:Int))=false:=decide_eq_false (by omega)
    have HM3:=Lib.hid (show lmostW before false 0 0 x.kids=lmostW before false (k+1) m1 (x.kids.drop (k+1)) by
     rw [HM.out,HD.out];show lmostW before false (k+1) (if false=true∨0<k then _ else _) _=_;rw [if_neg (by simp;omega)])
    generalize before.getD j 0=nn at *
    go_wp2_with fail
    go_roundw
    case rel=>exact ⟨k+1,_,_,by omega,by go_num,rfl,rfl,rfl,HS2.out,HM3.out⟩
    case measure=>simp [intOf];omega
  ·have HS2:=Lib.hid (show lsumW before 1 x.kids=s1 by rw [HS.out,drop_nil (by omega)];rfl)
   have HM2:=Lib.hid (show lmostW before false 0 0 x.kids=m1 by rw [HM.out,drop_nil (by omega)];rfl)
   go_wp2_with (at_builtin;go_must (refine wpList_append_sl _ rfl _ _ 22 rfl base 3 i0 (.int .i64 0) 1 8 Tryz.underlying22 HI.out hz0 hz1 hz2 rfl (by decide) _ _ _ rfl (HO2.out.alloc _) (fun _=>True) _ 1 1 [.int .i64 1] rfl (Sl.new _ _ _ _ _ rfl) (by simp [oneCell_int]) (by omega) (by omega) (by rw [World.size_alloc,HSZ.out];have:=HBASE.out;omega) ?_);intro v' w1 ho1 hf1 hb1)
   go_ret
   refine ⟨v',rfl,by rw [HSP.out,List.map_append];exact ho1,((Fr.of_ext HE.out).alloc _).trans hf1,?_⟩
   rcases hb1 with hb1 | hb1
   ·exact .inl hb1
   ·exact .inr ⟨_,hb1,by have:=(HE.out).size;rw [World.size_alloc];omega⟩
set_option maxRecDepth 100000 in
set_option maxHeartbeats 1000000 in
theorem sizes3_any (before:List Int)(x:GN)(a:NA)(P:Nat→Prop)(base:Nat)(vb:Value)(w:World)(hx:NAt w P x a)(hown:w.ownsRow base 3 1 vb before.length (before.map (Value.int .i64)))
  (hbase:base≤w.heap.size)(hlen:before.length≤100000)(hb64:∀ z ∈ before,I64 z)(hkids:∀ z ∈ x.kids,0≤z∧z<before.length)(hk:x.kind=3) :
  Calls Tryz.prog 59 #[vb,nagg x a] w (RetApp base 3 1 vb (before.length+1) ((before ++ [sizeR before x]).map (Value.int .i64)) w):=by
 have HX:=Lib.hid hx
 have HO:=Lib.hid hown
 have HK:=Lib.hid hkids
 have HB64:=Lib.hid hb64
 have HBASE:=Lib.hid hbase
 obtain ⟨A,c,hvb,hnc,hcm,hsl⟩:=Sl.of_own hown
 unfold maxLen at hcm
 have HSL:=Lib.hid hsl
 obtain ⟨hl,hc⟩:=hx.kids.le
 have HSP:=Lib.hid (show sizeR before x=lsumW before 1 x.kids by unfold sizeR;rw [if_neg (by omega),if_neg (by omega),if_pos hk])
 have t0:(x.kind == 0)=false:=beq_eq_false_iff_ne.2 (by omega)
 have t1:(x.kind == 1)=false:=beq_eq_false_iff_ne.2 (by omega)
 have t2:(x.kind == 2)=false:=beq_eq_false_iff_ne.2 (by omega)
 have t3:(x.kind == 3)=true:=beq_iff_eq.2 hk
 have t4:(x.kind == 4)=false:=beq_eq_false_iff_ne.2 (by omega)
 have HKK:=Lib.hid hk
 clear hk
 subst hvb
 clear hx hown hkids hb64 hbase hsl
 obtain ⟨i0,hi,hz0,hz1,hz2⟩:=info_parts Tryz.info3
 have HI:=Lib.hid hi
 clear hi
 go_enter Tryz.func59,Tryz.ntmps59
 go_wp2_with fail
 have HBX:=Lib.hid (show Blk (w.alloc (.cells (ncells x a).toArray 87)) w.heap.size 87 (ncells x a).toArray from Blk.new _ _ _)
 have HE:=Lib.hid (show Ext w (w.alloc (.cells (ncells x a).toArray 87)) from (Ext.refl _).alloc' _)
 have hb0:=HBX.out.cell' (u:=.int .i64 x.kind) 0 rfl
 have hb7:=HBX.out.cell' (u:=.slice a.kA x.kids.length a.kc) 7 rfl
 have HW:=Lib.hid (HX.out.kids.ext HE.out)
 have HO2:=Lib.hid (HO.out.alloc (.cells (ncells x a).toArray 87))
 have hsz:(w.alloc (.cells (ncells x a).toArray 87)).heap.size=w.heap.size+1:=by simp
 have HSZ:=Lib.hid hsz
 clear hsz
 generalize hWW:w.alloc (.cells (ncells x a).toArray 87)=W at *
 clear hWW
 go_loopw [5,6,7] (fun s m i wr=>LenInv before x false 1 W s m i wr) (fun _ _ i _=>x.kids.length - (intOf i).toNat)
 case atStart=>exact ⟨0,_,_,Nat.zero_le _,rfl,rfl,rfl,rfl,rfl,rfl⟩
 case round =>
  obtain ⟨k,s1,m1,hk,rfl,rfl,rfl,rfl,hs,hm⟩:=hrel
  have HS:=Lib.hid hs
  have HM:=Lib.hid hm
  clear hs hm
  by_cases hlt:k<x.kids.length
  ·obtain ⟨b1,o1,e1,-,-,g1⟩:=HW.out.get hlt
   have HD:=Lib.hid (drop_getD 0 hlt)
   obtain ⟨hz1',hz2'⟩:=HK.out _ (getD_mem (d:=0) hlt)
   rw [e1] at hb7
   clear e1
   generalize x.kids.getD k 0=z at *
   obtain ⟨j,rfl⟩:=Int.eq_ofNat_of_zero_le hz1'
   have hj:j<before.length:=by omega
   obtain ⟨b2,o2,rfl,-,hc2⟩:=((HSL.out (fun _=>True) (fun _ _=>trivial)).keep (Keeps.of_ext HE.out) (fun _ h=>h)).2 (by omega)
   have g2:=cell_of_ints hj hc2
   have HS2:=Lib.hid (show lsumW before 1 x.kids=lsumW before (wrap64 (s1+before.getD j 0)) (x.kids.drop (k+1)) by rw [HS.out,HD.out];rfl)
   clear hc2 hz1' hz2'
   by_cases hk0:0<k
   ·have tk:decide (0<(k:Int))=true:=decide_eq_true (by omega)
    have HM3:=Lib.hid (show lmostW before false 0 0 x.kids=lmostW before false (k+1) (if m1<before.getD j 0 then before.getD j 0 else m1) (x.kids.drop (k+1)) by
     rw [HM.out,HD.out];show lmostW before false (k+1) (if false=true∨0<k then _ else _) _=_;rw [if_pos (.inr hk0)];rfl)
    generalize before.getD j 0=nn at *
    go_wp2_with fail
    go_roundw
    case rel=>exact ⟨k+1,_,_,by omega,by go_num,rfl,rfl,rfl,HS2.out,HM3.out⟩
    case measure=>simp [intOf];omega
   ·have tk:decide (0<(k:Int))=false:=decide_eq_false (by omega)
    have HM3:=Lib.hid (show lmostW before false 0 0 x.kids=lmostW before false (k+1) m1 (x.kids.drop (k+1)) by
     rw [HM.out,HD.out];show lmostW before false (k+1) (if false=true∨0<k then _ else _) _=_;rw [if_neg (by simp;omega)])
    generalize before.getD j 0=nn at *
    go_wp2_with fail
    go_roundw
    case rel=>exact ⟨k+1,_,_,by omega,by go_num,rfl,rfl,rfl,HS2.out,HM3.out⟩
    case measure=>simp [intOf];omega
  ·have HS2:=Lib.hid (show lsumW before 1 x.kids=s1 by rw [HS.out,drop_nil (by omega)];rfl)
   have HM2:=Lib.hid (show lmostW before false 0 0 x.kids=m1 by rw [HM.out,drop_nil (by omega)];rfl)
   go_wp2_with (at_builtin;go_must (refine wpList_append_sl _ rfl _ _ 22 rfl base 3 i0 (.int .i64 0) 1 8 Tryz.underlying22 HI.out hz0 hz1 hz2 rfl (by decide) _ _ _ rfl (HO2.out.alloc _) (fun _=>True) _ 1 1 [.int .i64 s1] rfl (Sl.new _ _ _ _ _ rfl) (by simp [oneCell_int]) (by omega) (by omega) (by rw [World.size_alloc,HSZ.out];have:=HBASE.out;omega) ?_);intro v' w1 ho1 hf1 hb1)
   go_ret
   refine ⟨v',rfl,by rw [HSP.out,List.map_append];exact (by rw [HS2.out];exact ho1),((Fr.of_ext HE.out).alloc _).trans hf1,?_⟩
   rcases hb1 with hb1 | hb1
   ·exact .inl hb1
   ·exact .inr ⟨_,hb1,by have:=(HE.out).size;rw [World.size_alloc];omega⟩
set_option maxRecDepth 100000 in
set_option maxHeartbeats 1000000 in
theorem sizes2_any (before:List Int)(x:GN)(a:NA)(P:Nat→Prop)(base:Nat)(vb:Value)(w:World)(hx:NAt w P x a)(hown:w.ownsRow base 3 1 vb before.length (before.map (Value.int .i64)))
  (hbase:base≤w.heap.size)(hlen:before.length≤100000)(hb64:∀ z ∈ before,I64 z)(hkids:∀ z ∈ x.kids,0≤z∧z<before.length)(hk:x.kind=2) :
  Calls Tryz.prog 59 #[vb,nagg x a] w (RetApp base 3 1 vb (before.length+1) ((before ++ [sizeR before x]).map (Value.int .i64)) w):=by
 have HX:=Lib.hid hx
 have HO:=Lib.hid hown
 have HK:=Lib.hid hkids
 have HB64:=Lib.hid hb64
 have HBASE:=Lib.hid hbase
 obtain ⟨A,c,hvb,hnc,hcm,hsl⟩:=Sl.of_own hown
 unfold maxLen at hcm
 have HSL:=Lib.hid hsl
 obtain ⟨hl,hc⟩:=hx.kids.le
 have HSP:=Lib.hid (show sizeR before x=lmostW before true 0 0 x.kids by unfold sizeR;rw [if_neg (by omega),if_neg (by omega),if_neg (by omega),decide_eq_true hk])
 have t0:(x.kind == 0)=false:=beq_eq_false_iff_ne.2 (by omega)
 have t1:(x.kind == 1)=false:=beq_eq_false_iff_ne.2 (by omega)
 have t2:(x.kind == 2)=true:=beq_iff_eq.2 hk
 have t3:(x.kind == 3)=false:=beq_eq_false_iff_ne.2 (by omega)
 have t4:(x.kind == 4)=false:=beq_eq_false_iff_ne.2 (by omega)
 have HKK:=Lib.hid hk
 clear hk
 subst hvb
 clear hx hown hkids hb64 hbase hsl
 obtain ⟨i0,hi,hz0,hz1,hz2⟩:=info_parts Tryz.info3
 have HI:=Lib.hid hi
 clear hi
 go_enter Tryz.func59,Tryz.ntmps59
 go_wp2_with fail
 have HBX:=Lib.hid (show Blk (w.alloc (.cells (ncells x a).toArray 87)) w.heap.size 87 (ncells x a).toArray from Blk.new _ _ _)
 have HE:=Lib.hid (show Ext w (w.alloc (.cells (ncells x a).toArray 87)) from (Ext.refl _).alloc' _)
 have hb0:=HBX.out.cell' (u:=.int .i64 x.kind) 0 rfl
 have hb7:=HBX.out.cell' (u:=.slice a.kA x.kids.length a.kc) 7 rfl
 have HW:=Lib.hid (HX.out.kids.ext HE.out)
 have HO2:=Lib.hid (HO.out.alloc (.cells (ncells x a).toArray 87))
 have hsz:(w.alloc (.cells (ncells x a).toArray 87)).heap.size=w.heap.size+1:=by simp
 have HSZ:=Lib.hid hsz
 clear hsz
 generalize hWW:w.alloc (.cells (ncells x a).toArray 87)=W at *
 clear hWW
 go_loopw [5,6,7] (fun s m i wr=>LenInv before x true 1 W s m i wr) (fun _ _ i _=>x.kids.length - (intOf i).toNat)
 case atStart=>exact ⟨0,_,_,Nat.zero_le _,rfl,rfl,rfl,rfl,rfl,rfl⟩
 case round =>
  obtain ⟨k,s1,m1,hk,rfl,rfl,rfl,rfl,hs,hm⟩:=hrel
  have HS:=Lib.hid hs
  have HM:=Lib.hid hm
  clear hs hm
  by_cases hlt:k<x.kids.length
  ·obtain ⟨b1,o1,e1,-,-,g1⟩:=HW.out.get hlt
   have HD:=Lib.hid (drop_getD 0 hlt)
   obtain ⟨hz1',hz2'⟩:=HK.out _ (getD_mem (d:=0) hlt)
   rw [e1] at hb7
   clear e1
   generalize x.kids.getD k 0=z at *
   obtain ⟨j,rfl⟩:=Int.eq_ofNat_of_zero_le hz1'
   have hj:j<before.length:=by omega
   obtain ⟨b2,o2,rfl,-,hc2⟩:=((HSL.out (fun _=>True) (fun _ _=>trivial)).keep (Keeps.of_ext HE.out) (fun _ h=>h)).2 (by omega)
   have g2:=cell_of_ints hj hc2
   have HS2:=Lib.hid (show lsumW before 1 x.kids=lsumW before (wrap64 (s1+before.getD j 0)) (x.kids.drop (k+1)) by rw [HS.out,HD.out];rfl)
   clear hc2 hz1' hz2'
   have HM3:=Lib.hid (show lmostW before true 0 0 x.kids=lmostW before true (k+1) (if m1<before.getD j 0 then before.getD j 0 else m1) (x.kids.drop (k+1)) by rw [HM.out,HD.out];rfl)
   generalize before.getD j 0=nn at *
   go_wp2_with fail
   go_roundw
   case rel=>exact ⟨k+1,_,_,by omega,by go_num,rfl,rfl,rfl,HS2.out,HM3.out⟩
   case measure=>simp [intOf];omega
  ·have HS2:=Lib.hid (show lsumW before 1 x.kids=s1 by rw [HS.out,drop_nil (by omega)];rfl)
   have HM2:=Lib.hid (show lmostW before true 0 0 x.kids=m1 by rw [HM.out,drop_nil (by omega)];rfl)
   go_wp2_with (at_builtin;go_must (refine wpList_append_sl _ rfl _ _ 22 rfl base 3 i0 (.int .i64 0) 1 8 Tryz.underlying22 HI.out hz0 hz1 hz2 rfl (by decide) _ _ _ rfl (HO2.out.alloc _) (fun _=>True) _ 1 1 [.int .i64 m1] rfl (Sl.new _ _ _ _ _ rfl) (by simp [oneCell_int]) (by omega) (by omega) (by rw [World.size_alloc,HSZ.out];have:=HBASE.out;omega) ?_);intro v' w1 ho1 hf1 hb1)
   go_ret
   refine ⟨v',rfl,by rw [HSP.out,List.map_append];exact (by rw [HM2.out];exact ho1),((Fr.of_ext HE.out).alloc _).trans hf1,?_⟩
   rcases hb1 with hb1 | hb1
   ·exact .inl hb1
   ·exact .inr ⟨_,hb1,by have:=(HE.out).size;rw [World.size_alloc];omega⟩
set_option maxRecDepth 100000 in
set_option maxHeartbeats 1000000 in
theorem sizes4_any (before:List Int)(x:GN)(a:NA)(P:Nat→Prop)(base:Nat)(vb:Value)(w:World)(hx:NAt w P x a)(hown:w.ownsRow base 3 1 vb before.length (before.map (Value.int .i64)))
  (hbase:base≤w.heap.size)(hlen:before.length≤100000)(hb64:∀ z ∈ before,I64 z)(hkids:∀ z ∈ x.kids,0≤z∧z<before.length)(hk:x.kind=4) :
  Calls Tryz.prog 59 #[vb,nagg x a] w (RetApp base 3 1 vb (before.length+1) ((before ++ [sizeR before x]).map (Value.int .i64)) w):=by
 have HX:=Lib.hid hx
 have HO:=Lib.hid hown
 have HK:=Lib.hid hkids
 have HB64:=Lib.hid hb64
 have HBASE:=Lib.hid hbase
 obtain ⟨A,c,hvb,hnc,hcm,hsl⟩:=Sl.of_own hown
 unfold maxLen at hcm
 have HSL:=Lib.hid hsl
 obtain ⟨hl,hc⟩:=hx.kids.le
 have HSP:=Lib.hid (show sizeR before x=lmostW before false 0 0 x.kids by unfold sizeR;rw [if_neg (by omega),if_neg (by omega),if_neg (by omega),decide_eq_false (by omega)])
 have t0:(x.kind == 0)=false:=beq_eq_false_iff_ne.2 (by omega)
 have t1:(x.kind == 1)=false:=beq_eq_false_iff_ne.2 (by omega)
 have t2:(x.kind == 2)=false:=beq_eq_false_iff_ne.2 (by omega)
 have t3:(x.kind == 3)=false:=beq_eq_false_iff_ne.2 (by omega)
 have t4:(x.kind == 4)=true:=beq_iff_eq.2 hk
 have HKK:=Lib.hid hk
 clear hk
 subst hvb
 clear hx hown hkids hb64 hbase hsl
 obtain ⟨i0,hi,hz0,hz1,hz2⟩:=info_parts Tryz.info3
 have HI:=Lib.hid hi
 clear hi
 go_enter Tryz.func59,Tryz.ntmps59
 go_wp2_with fail
 have HBX:=Lib.hid (show Blk (w.alloc (.cells (ncells x a).toArray 87)) w.heap.size 87 (ncells x a).toArray from Blk.new _ _ _)
 have HE:=Lib.hid (show Ext w (w.alloc (.cells (ncells x a).toArray 87)) from (Ext.refl _).alloc' _)
 have hb0:=HBX.out.cell' (u:=.int .i64 x.kind) 0 rfl
 have hb7:=HBX.out.cell' (u:=.slice a.kA x.kids.length a.kc) 7 rfl
 have HW:=Lib.hid (HX.out.kids.ext HE.out)
 have HO2:=Lib.hid (HO.out.alloc (.cells (ncells x a).toArray 87))
 have hsz:(w.alloc (.cells (ncells x a).toArray 87)).heap.size=w.heap.size+1:=by simp
 have HSZ:=Lib.hid hsz
 clear hsz
 generalize hWW:w.alloc (.cells (ncells x a).toArray 87)=W at *
 clear hWW
 go_loopw [5,6,7] (fun s m i wr=>LenInv before x false 1 W s m i wr) (fun _ _ i _=>x.kids.length - (intOf i).toNat)
 case atStart=>exact ⟨0,_,_,Nat.zero_le _,rfl,rfl,rfl,rfl,rfl,rfl⟩
 case round =>
  obtain ⟨k,s1,m1,hk,rfl,rfl,rfl,rfl,hs,hm⟩:=hrel
  have HS:=Lib.hid hs
  have HM:=Lib.hid hm
  clear hs hm
  by_cases hlt:k<x.kids.length
  ·obtain ⟨b1,o1,e1,-,-,g1⟩:=HW.out.get hlt
   have HD:=Lib.hid (drop_getD 0 hlt)
   obtain ⟨hz1',hz2'⟩:=HK.out _ (getD_mem (d:=0) hlt)
   rw [e1] at hb7
   clear e1
   generalize x.kids.getD k 0=z at *
   obtain ⟨j,rfl⟩:=Int.eq_ofNat_of_zero_le hz1'
   have hj:j<before.length:=by omega
   obtain ⟨b2,o2,rfl,-,hc2⟩:=((HSL.out (fun _=>True) (fun _ _=>trivial)).keep (Keeps.of_ext HE.out) (fun _ h=>h)).2 (by omega)
   have g2:=cell_of_ints hj hc2
   have HS2:=Lib.hid (show lsumW before 1 x.kids=lsumW before (wrap64 (s1+before.getD j 0)) (x.kids.drop (k+1)) by rw [HS.out,HD.out];rfl)
   clear hc2 hz1' hz2'
   by_cases hk0:0<k
   ·have tk:decide (0<(k:Int))=true:=decide_eq_true (by omega)
    have HM3:=Lib.hid (show lmostW before false 0 0 x.kids=lmostW before false (k+1) (if m1<before.getD j 0 then before.getD j 0 else m1) (x.kids.drop (k+1)) by
     rw [HM.out,HD.out];show lmostW before false (k+1) (if false=true∨0<k then _ else _) _=_;rw [if_pos (.inr hk0)];rfl)
    generalize before.getD j 0=nn at *
    go_wp2_with fail
    go_roundw
    case rel=>exact ⟨k+1,_,_,by omega,by go_num,rfl,rfl,rfl,HS2.out,HM3.out⟩
    case measure=>simp [intOf];omega
   ·have tk:decide (0<(k:Int))=false:=decide_eq_false (by omega)
    have HM3:=Lib.hid (show lmostW before false 0 0 x.kids=lmostW before false (k+1) m1 (x.kids.drop (k+1)) by
     rw [HM.out,HD.out];show lmostW before false (k+1) (if false=true∨0<k then _ else _) _=_;rw [if_neg (by simp;omega)])
    generalize before.getD j 0=nn at *
    go_wp2_with fail
    go_roundw
    case rel=>exact ⟨k+1,_,_,by omega,by go_num,rfl,rfl,rfl,HS2.out,HM3.out⟩
    case measure=>simp [intOf];omega
  ·have HS2:=Lib.hid (show lsumW before 1 x.kids=s1 by rw [HS.out,drop_nil (by omega)];rfl)
   have HM2:=Lib.hid (show lmostW before false 0 0 x.kids=m1 by rw [HM.out,drop_nil (by omega)];rfl)
   go_wp2_with (at_builtin;go_must (refine wpList_append_sl _ rfl _ _ 22 rfl base 3 i0 (.int .i64 0) 1 8 Tryz.underlying22 HI.out hz0 hz1 hz2 rfl (by decide) _ _ _ rfl (HO2.out.alloc _) (fun _=>True) _ 1 1 [.int .i64 m1] rfl (Sl.new _ _ _ _ _ rfl) (by simp [oneCell_int]) (by omega) (by omega) (by rw [World.size_alloc,HSZ.out];have:=HBASE.out;omega) ?_);intro v' w1 ho1 hf1 hb1)
   go_ret
   refine ⟨v',rfl,by rw [HSP.out,List.map_append];exact (by rw [HM2.out];exact ho1),((Fr.of_ext HE.out).alloc _).trans hf1,?_⟩
   rcases hb1 with hb1 | hb1
   ·exact .inl hb1
   ·exact .inr ⟨_,hb1,by have:=(HE.out).size;rw [World.size_alloc];omega⟩
end Go.Proofs.YtkoeecdjijfjnaaGreat
