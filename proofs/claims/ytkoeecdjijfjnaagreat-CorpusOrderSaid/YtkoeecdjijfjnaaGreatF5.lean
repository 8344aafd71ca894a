/- The contract of the program's small. Conditions: none. -/
import Derived.BigGuardPart
import Derived.Test.YtkoeecdjijfjnaaGreatPlH
namespace Go.Proofs.YtkoeecdjijfjnaaGreat
open Go.RowKit
def iblk (l:List Int):Array Value:=(l.map (Value.int .i64)).toArray
theorem iblk_get {l:List Int}{i:Nat}(h:i<l.length):(iblk l)[i]?=some (.int .i64 (l.getD i 0)):=by simp [iblk,h]
theorem iblk_set (l:List Int)(i:Nat)(v:Int):(iblk l).setIfInBounds i (.int .i64 v)=iblk (l.set i v):=by simp [iblk,List.map_set]
theorem Ints.of_blk {w:World}{g:Nat}{l:List Int}(h:Blk w g 3 (iblk l))(hI:∀ x ∈ l,I64 x)(hl:l.length≤17592186044416):Ints w (fun b=>b=g) (.slice (some ⟨g,0,none⟩) l.length l.length) l :=
 ⟨_,_,rfl,Nat.le_refl _,⟨hl,by omega⟩,hI,by simp,fun _=>⟨g,0,rfl,rfl,fun j u hu=>by rw [Nat.zero_add];exact h.cell' j (by simpa [iblk] using hu)⟩⟩
def RetSm (gl gz:Nat)(ls zs:List Int)(i:Nat)(l z:Int)(w:World)(e:Ending)(w':World):Prop :=
 e=.returned (.bool (decide (l≤256) && decide (z≤1024)))∧Blk w' gl 3 (iblk (ls.set i l))∧Blk w' gz 3 (iblk (zs.set i z))∧Fr (fun b=>b=gl∨b=gz) w w'
def SmSInv (zs:List Int)(x:GN)(W:World)(s k:Value)(wr:World):Prop:=∃ (j:Nat)(s1:Int),j≤x.kids.length∧k=.int .i64 j∧s=.int .i64 s1∧W=wr∧lsumW zs 1 x.kids=lsumW zs s1 (x.kids.drop j)
def SmMInv (zs:List Int)(x:GN)(ch:Bool)(W:World)(s k:Value)(wr:World):Prop:=∃ (j:Nat)(s1:Int),j≤x.kids.length∧k=.int .i64 j∧s=.int .i64 s1∧W=wr∧lmostW zs ch 0 1 x.kids=lmostW zs ch j s1 (x.kids.drop j)
theorem small_end {gl gz:Nat}{ls zs:List Int}{i:Nat}{l z:Int}{w W w2:World}(n3:gl ≠ gz)(hf:Fr (fun b=>b=gl∨b=gz) w W)(hb1:Blk W gl 3 (iblk (ls.set i l)))(hb2:Blk W gz 3 (iblk zs))(hx:Ext W w2){r:Bool}(hr:r=(decide (l≤256) && decide (z≤1024))) :
  RetSm gl gz ls zs i l z w (.returned (.bool r)) (w2.setCell ⟨gz,i,none⟩ (.int .i64 z)):=by
 subst hr
 refine ⟨rfl,(hb1.ext hx).far (p:=⟨gz,i,none⟩) n3 _,?_,(hf.trans (Fr.of_ext hx)).setCell (p:=⟨gz,i,none⟩) (.inl (.inr rfl)) _⟩
 have:=(hb2.ext hx).set_ i (.int .i64 z)
 rw [iblk_set] at this
 exact this
set_option maxRecDepth 100000 in
set_option maxHeartbeats 8000000 in
theorem small_any (t:List GN)(i:Nat)(P:Nat→Prop)(gc gl gz gs:Nat)(vn:Value)(ls zs:List Int)(w:World)(hP:∀ b,P b→b<w.heap.size∧b ≠ gl∧b ≠ gz)(ht:Nds w P vn t)(hi:i<t.length)
  (hc:Blk w gc 141 #[vn,.slice (some ⟨gl,0,none⟩) t.length t.length,.slice (some ⟨gz,0,none⟩) t.length t.length,.pointer (some ⟨gs,0,none⟩)])
  (hl:Blk w gl 3 (iblk ls))(hz:Blk w gz 3 (iblk zs))(hll:ls.length=t.length)(hzl:zs.length=t.length)(hI:∀ x ∈ ls,I64 x)(hZ:∀ x ∈ zs,I64 x)(n1:gc ≠ gl)(n2:gc ≠ gz)(n3:gl ≠ gz)
  (hok:NodeOK i (t.getD i default))(hlen:t.length≤100000) :
  Calls Tryz.prog 92 #[.pointer (some ⟨gc,0,none⟩),.int .i64 i] w (RetSm gl gz ls zs i (lenR ls (t.getD i default)) (sizeP zs (t.getD i default)) w):=by
 obtain ⟨An,cn,en,hn1,hn2⟩:=ht.form
 subst en
 obtain ⟨b,off,a,rfl,hPb,hx,hn⟩:=ht.get hi
 generalize hg:t.getD i default=x at *
 clear hg
 have HP:=Lib.hid hP
 have HX:=Lib.hid hx
 have HN:=Lib.hid hn
 have HC:=Lib.hid hc
 have HL:=Lib.hid hl
 have HZ:=Lib.hid hz
 have HLL:=Lib.hid hll
 have HZL:=Lib.hid hzl
 have HI:=Lib.hid hI
 have HZI:=Lib.hid hZ
 have HPB:=Lib.hid hPb
 have hkd:=hok.kind
 have HOK:=Lib.hid (show NodeOK ls.length x from ⟨hok.kind,hok.unused,fun z hz=>by have:=hok.kids z hz;omega,hok.choice,hok.seq,hok.bind,hok.inc,hok.valid,hok.numbers⟩)
 have HKI:=Lib.hid hok.kids
 have HSZ:=Lib.hid (show sizeP zs x=if x.kind=0 then rsz x.value else if x.kind=3 then lsumW zs 1 x.kids else if x.kind=2 then lmostW zs true 0 1 x.kids else if x.kind=4 then lmostW zs false 0 1 x.kids else 1 from rfl)
 have N1:=Lib.hid n1
 have N2:=Lib.hid n2
 have N3:=Lib.hid n3
 have HPL:=Lib.hid (show ∀ W,Blk W gl 3 (iblk ls)→NCells W b (off+i*12) x a→NAt W P x a→Calls Tryz.prog 96 #[.pointer (some ⟨b,off+i*12,none⟩),.slice (some ⟨gl,0,none⟩) t.length t.length] W fun e w'=>e=.returned (.int .i64 (lenR ls x))∧W=w' from fun W h1 h2 h3=>by
  have h4:=Ints.of_blk h1 hI (by omega)
  rw [hll] at h4
  exact progLength_any ls x a b (off+i*12) P _ _ W h2 h3 h4 HOK.out)
 obtain ⟨hkl,hkc⟩:=hx.kids.le
 have hlo:(i:Int)<(t.length:Int):=by omega
 have k0:=hc.cell' (u:=.slice (some ⟨b,off,none⟩) t.length cn) 0 rfl
 have k1:=hc.cell' (u:=.slice (some ⟨gl,0,none⟩) t.length t.length) 1 rfl
 have g1:=hl.cell' i (iblk_get (l:=ls) (by omega))
 have f1:=hl.frozen i
 have m1:¬ gc=gl:=n1
 clear hx hn ht hP hc hl hz hll hzl hI hZ n1 n2 n3 hok hPb
 generalize ls.getD i 0=z0 at *
 generalize lenR ls x=lr at *
 go_enter Tryz.func92,Tryz.ntmps92
 go_upto_region 2 with fail
 go_region_held3 (fun w'=>w'.cell? ⟨gc,1,none⟩=some (.slice (some ⟨gl,0,none⟩) t.length t.length))
  (first
   | exact cell_set1 (w:=w) m1 k1
   | exact k1
   | go_keep)
  (first
   | (go_at_call 96;refine (HPL.out _ (HL.out.ext (Ext.refl _).drew') (HN.out.ext (Ext.refl _).drew') (HX.out.ext (Ext.refl _).drew')).mono ?_;rintro e w' ⟨rfl,rfl⟩))
 go_upto_region 3 with fail
 have HWF:=Lib.hid (((Fr.refl (fun b=>b=gl∨b=gz) w).setCell (p:=⟨gl,i,none⟩) (.inl (.inl rfl)) (.int .i64 lr)).drew)
 have HWL:=Lib.hid (show Blk (w.setCell ⟨gl,i,none⟩ (.int .i64 lr)).drew gl 3 (iblk (ls.set i lr)) by
  have h:=(HL.out.set_ i (.int .i64 lr)).drew
  rw [iblk_set] at h
  exact h)
 have HWZ:=Lib.hid ((HZ.out.far (p:=⟨gl,i,none⟩) (fun e=>N3.out e.symm) (.int .i64 lr)).drew)
 have HWC:=Lib.hid ((HC.out.far (p:=⟨gl,i,none⟩) N1.out (.int .i64 lr)).drew)
 have hkeep:Keeps P w (w.setCell ⟨gl,i,none⟩ (.int .i64 lr)).drew:=Keeps.set (fun _ _ _=>rfl) _ (fun h=>(HP.out _ h).2.1 rfl)
 have HWX:=Lib.hid (HX.out.carry hkeep (fun _ _ h=>h))
 have HWN:=Lib.hid (HN.out.keep HPB.out hkeep)
 have HWP:=Lib.hid (show ∀ b,P b→b<(w.setCell ⟨gl,i,none⟩ (.int .i64 lr)).drew.heap.size from fun b hb=>Nat.lt_of_lt_of_le (HP.out b hb).1 HWF.out.size)
 clear hkeep k0 k1 g1 f1 m1 HPL
 generalize (w.setCell ⟨gl,i,none⟩ (.int .i64 lr)).drew=W at *
 have hzl:=HZL.out
 have hll:=HLL.out
 have HT:=Lib.hid (show ∀ w2,Ext W w2→w2.cell? ⟨gc,1,none⟩=some (.slice (some ⟨gl,0,none⟩) t.length t.length)∧w2.cell? ⟨gc,2,none⟩=some (.slice (some ⟨gz,0,none⟩) t.length t.length)∧w2.cell? ⟨gl,i,none⟩=some (.int .i64 lr) ∧
   w2.cell? ⟨gz,i,none⟩=some (.int .i64 (zs.getD i 0))∧w2.frozen? ⟨gz,i,none⟩=false from fun w2 h=>⟨(HWC.out.ext h).cell' 1 rfl,(HWC.out.ext h).cell' 2 rfl,(HWL.out.ext h).cell' i (by rw [iblk_get (by simp;omega)];simp [List.getD,hll,hi]),(HWZ.out.ext h).cell' i (iblk_get (by omega)),(HWZ.out.ext h).frozen i⟩)
 clear hzl hll
 generalize zs.getD i 0=z1 at *
 have c0:=HWN.out.c0
 have c7:=HWN.out.c7
 have c8:=HWN.out.c8
 have c9:=HWN.out.c9
 have c10:=HWN.out.c10
 have c11:=HWN.out.c11
 have q2:=(HT.out W (Ext.refl _)).2.1
 have m3:¬ gl=gz:=N3.out
 have m3':¬ gc=gz:=N2.out
 have HKV:=Lib.hid HWX.out.kids
 have HGZ:=Lib.hid (Ints.of_blk HWZ.out HZI.out (by have:=HZL.out;omega))
 by_cases k0:x.kind=0
 ·have t0:(x.kind == 0)=true:=beq_iff_eq.2 k0
  have HS2:=Lib.hid (show sizeP zs x=rsz x.value by rw [HSZ.out,if_pos k0])
  have HVS:=Lib.hid (valuesSize_any x.value a.xA a.xc P W HWP.out HWX.out.value)
  rw [size_eq] at HVS
  generalize rsz x.value=sz at *
  clear k0 c7 HSZ
  go_wp2_with fail
  refine HVS.out.mono ?_
  rintro e w2 ⟨rfl,hx2⟩
  have HX2:=Lib.hid hx2
  clear hx2 c0 c8 c9 c10 c11 q2
  obtain ⟨e1,e2,e3,e4,e5⟩:=HT.out _ HX2.out
  go_wp2_with fail
  all_goals
   go_ret
   rw [HS2.out]
   exact small_end N3.out HWF.out HWL.out HWZ.out HX2.out (by rw [Bool.eq_iff_iff] <;> simp_all <;> omega)
 have t0:(x.kind == 0)=false:=beq_eq_false_iff_ne.2 k0
 clear c8 c9 c10 c11
 by_cases k3:x.kind=3
 ·have t3:(x.kind == 3)=true:=beq_iff_eq.2 k3
  have HS2:=Lib.hid (show sizeP zs x=lsumW zs 1 x.kids by rw [HSZ.out,if_neg k0,if_pos k3])
  clear k0 k3 HSZ
  generalize a.kA=Ak at *
  generalize a.kc=kc at *
  go_wp2_with fail
  go_loopw [6,47] (fun s k wr=>SmSInv zs x W s k wr) (fun _ k _=>x.kids.length - (intOf k).toNat)
  case atStart=>exact ⟨0,1,Nat.zero_le _,rfl,rfl,rfl,rfl⟩
  case round =>
   obtain ⟨j,s1,hj,rfl,rfl,rfl,hT⟩:=hrel
   have HTT:=Lib.hid hT
   clear hT
   by_cases hlt:j<x.kids.length
   ·obtain ⟨b1,o1,rfl,-,-,g1⟩:=HKV.out.get hlt
    have hz:=HKI.out _ (getD_mem (d:=0) hlt)
    have HD:=Lib.hid (HTT.out.trans (by rw [drop_getD 0 hlt,lsumW]))
    generalize x.kids.getD j 0=z at *
    obtain ⟨b2,o2,eb,-,-,g2⟩:=HGZ.out.get (i:=z.toNat) (by have:=HZL.out;omega)
    injection eb with eb
    injection eb with eb1 eb2
    subst eb1 eb2
    rw [Nat.zero_add] at g2
    have hz2:z<(t.length:Int):=by omega
    generalize zs.getD z.toNat 0=y at *
    go_wp2_with fail
    go_roundw
    case rel=>exact ⟨j+1,_,by omega,by go_num,rfl,rfl,HD.out⟩
    case measure=>simp [intOf];omega
   ·have HD:=Lib.hid (show lsumW zs 1 x.kids=s1 by rw [HTT.out,drop_nil (by omega),lsumW])
    obtain ⟨e1,e2,e3,e4,e5⟩:=HT.out _ (Ext.refl _)
    go_wp2_with fail
    all_goals
     go_ret
     rw [HS2.out,HD.out]
     exact small_end N3.out HWF.out HWL.out HWZ.out (Ext.refl _) (by rw [Bool.eq_iff_iff] <;> simp_all <;> omega)
 have t3:(x.kind == 3)=false:=beq_eq_false_iff_ne.2 k3
 by_cases k2:x.kind=2
 ·have t2:(x.kind == 2)=true:=beq_iff_eq.2 k2
  have HS2:=Lib.hid (show sizeP zs x=lmostW zs true 0 1 x.kids by rw [HSZ.out,if_neg k0,if_neg k3,if_pos k2])
  clear k0 k3 k2 HSZ
  generalize a.kA=Ak at *
  generalize a.kc=kc at *
  go_wp2_with fail
  go_loopw [6,69] (fun s k wr=>SmMInv zs x true W s k wr) (fun _ k _=>x.kids.length - (intOf k).toNat)
  case atStart=>exact ⟨0,1,Nat.zero_le _,rfl,rfl,rfl,rfl⟩
  case round =>
   obtain ⟨j,s1,hj,rfl,rfl,rfl,hT⟩:=hrel
   have HTT:=Lib.hid hT
   clear hT
   by_cases hlt:j<x.kids.length
   ·obtain ⟨b1,o1,rfl,-,-,g1⟩:=HKV.out.get hlt
    have hz:=HKI.out _ (getD_mem (d:=0) hlt)
    have HD:=Lib.hid (show lmostW zs true 0 1 x.kids=lmostW zs true (j+1) (if true=true∨0<j then (if s1<zs.getD (x.kids.getD j 0).toNat 0 then zs.getD (x.kids.getD j 0).toNat 0 else s1) else s1) (x.kids.drop (j+1)) by rw [HTT.out,drop_getD 0 hlt,lmostW])
    generalize x.kids.getD j 0=z at *
    obtain ⟨b2,o2,eb,-,-,g2⟩:=HGZ.out.get (i:=z.toNat) (by have:=HZL.out;omega)
    injection eb with eb
    injection eb with eb1 eb2
    subst eb1 eb2
    rw [Nat.zero_add] at g2
    have hz2:z<(t.length:Int):=by omega
    generalize zs.getD z.toNat 0=y at *
    by_cases hk0:0<j
    ·have tk:decide (0<(j:Int))=true:=decide_eq_true (by omega)
     go_wp2_with fail
     all_goals
      go_roundw
      case rel=>exact ⟨j+1,_,by omega,by go_num,rfl,rfl,by rw [HD.out,if_pos (.inr hk0)];try (first | rw [if_pos (by assumption)] | rw [if_neg (by omega)])⟩
      case measure=>simp [intOf];omega
    ·have tk:decide (0<(j:Int))=false:=decide_eq_false (by omega)
     go_wp2_with fail
     all_goals
      go_roundw
      case rel=>exact ⟨j+1,_,by omega,by go_num,rfl,rfl,by rw [HD.out,if_pos (.inl rfl)];try (first | rw [if_pos (by assumption)] | rw [if_neg (by omega)])⟩
      case measure=>simp [intOf];omega
   ·have HD:=Lib.hid (show lmostW zs true 0 1 x.kids=s1 by rw [HTT.out,drop_nil (by omega),lmostW])
    obtain ⟨e1,e2,e3,e4,e5⟩:=HT.out _ (Ext.refl _)
    go_wp2_with fail
    all_goals
     go_ret
     rw [HS2.out,HD.out]
     exact small_end N3.out HWF.out HWL.out HWZ.out (Ext.refl _) (by rw [Bool.eq_iff_iff] <;> simp_all <;> omega)
 have t2:(x.kind == 2)=false:=beq_eq_false_iff_ne.2 k2
 by_cases k4:x.kind=4
 ·have t4:(x.kind == 4)=true:=beq_iff_eq.2 k4
  have HS2:=Lib.hid (show sizeP zs x=lmostW zs false 0 1 x.kids by rw [HSZ.out,if_neg k0,if_neg k3,if_neg k2,if_pos k4])
  clear k0 k3 k2 k4 HSZ
  generalize a.kA=Ak at *
  generalize a.kc=kc at *
  go_wp2_with fail
  go_loopw [6,69] (fun s k wr=>SmMInv zs x false W s k wr) (fun _ k _=>x.kids.length - (intOf k).toNat)
  case atStart=>exact ⟨0,1,Nat.zero_le _,rfl,rfl,rfl,rfl⟩
  case round =>
   obtain ⟨j,s1,hj,rfl,rfl,rfl,hT⟩:=hrel
   have HTT:=Lib.hid hT
   clear hT
   by_cases hlt:j<x.kids.length
   ·obtain ⟨b1,o1,rfl,-,-,g1⟩:=HKV.out.get hlt
    have hz:=HKI.out _ (getD_mem (d:=0) hlt)
    have HD:=Lib.hid (show lmostW zs false 0 1 x.kids=lmostW zs false (j+1) (if false=true∨0<j then (if s1<zs.getD (x.kids.getD j 0).toNat 0 then zs.getD (x.kids.getD j 0).toNat 0 else s1) else s1) (x.kids.drop (j+1)) by rw [HTT.out,drop_getD 0 hlt,lmostW])
    generalize x.kids.getD j 0=z at *
    obtain ⟨b2,o2,eb,-,-,g2⟩:=HGZ.out.get (i:=z.toNat) (by have:=HZL.out;omega)
    injection eb with eb
    injection eb with eb1 eb2
    subst eb1 eb2
    rw [Nat.zero_add] at g2
    have hz2:z<(t.length:Int):=by omega
    generalize zs.getD z.toNat 0=y at *
    by_cases hk0:0<j
    ·have tk:decide (0<(j:Int))=true:=decide_eq_true (by omega)
     go_wp2_with fail
     all_goals
      go_roundw
      case rel=>exact ⟨j+1,_,by omega,by go_num,rfl,rfl,by rw [HD.out,if_pos (.inr hk0)];try (first | rw [if_pos (by assumption)] | rw [if_neg (by omega)])⟩
      case measure=>simp [intOf];omega
    ·have tk:decide (0<(j:Int))=false:=decide_eq_false (by omega)
     go_wp2_with fail
     all_goals
      go_roundw
      case rel=>exact ⟨j+1,_,by omega,by go_num,rfl,rfl,by rw [HD.out,if_neg (by simp;omega)]⟩
      case measure=>simp [intOf];omega
   ·have HD:=Lib.hid (show lmostW zs false 0 1 x.kids=s1 by rw [HTT.out,drop_nil (by omega),lmostW])
    obtain ⟨e1,e2,e3,e4,e5⟩:=HT.out _ (Ext.refl _)
    go_wp2_with fail
    all_goals
     go_ret
     rw [HS2.out,HD.out]
     exact small_end N3.out HWF.out HWL.out HWZ.out (Ext.refl _) (by rw [Bool.eq_iff_iff] <;> simp_all <;> omega)
 have t4:(x.kind == 4)=false:=beq_eq_false_iff_ne.2 k4
 have HS2:=Lib.hid (show sizeP zs x=1 by rw [HSZ.out,if_neg k0,if_neg k3,if_neg k2,if_neg k4])
 clear k0 k3 k2 k4 HSZ
 obtain ⟨e1,e2,e3,e4,e5⟩:=HT.out _ (Ext.refl _)
 go_wp2_with fail
 all_goals
  go_ret
  rw [HS2.out]
  exact small_end N3.out HWF.out HWL.out HWZ.out (Ext.refl _) (by rw [Bool.eq_iff_iff] <;> simp_all <;> omega)
end Go.Proofs.YtkoeecdjijfjnaaGreat
