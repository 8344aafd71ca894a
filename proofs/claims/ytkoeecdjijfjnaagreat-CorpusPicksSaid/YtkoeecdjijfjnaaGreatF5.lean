/- Contracts of functions. Conditions: none. -/
import Derived.BigGuardPart
import Derived.Test.YtkoeecdjijfjnaaGreatPlH
set_option maxRecDepth 100000
set_option maxHeartbeats 8000000
namespace Go.Proofs.YtkoeecdjijfjnaaGreat
open Go.RowKit
def iH (l:List Int):Array Value:=(l.map (Value.int .i64)).toArray
theorem fS {l:List Int}{i:Nat}(h:i<l.length):(iH l)[i]?=some (.int .i64 (l.getD i 0)):=by simp [iH,h]
theorem lY (l:List Int)(i:Nat)(v:Int):(iH l).setIfInBounds i (↑v)=iH (l.set i v):=by simp [iH,List.map_set]
theorem aU.of_blk {w:World}{g:Nat}{l:List Int}(h:Blk w g 3 (iH l))(hI:∀ x ∈ l,I64 x)(hl:l.length<=17592186044416):aU w (fun b=>b=g) (.slice (some ⟨g,0,none⟩) l.length l.length) l :=
 ⟨_,_,rfl,Nat.le_refl _,⟨hl,U⟩,hI,Y,fun _=>⟨g,0,rfl,rfl,fun j u hu=>by rw [Nat.zero_add];exact h.cell' j (by simpa [iH] using hu)⟩⟩
def aQp (gl gz:Nat)(ls zs:List Int)(i:Nat)(l z:Int)(w:World)(e:Ending)(w':World):Prop :=
 e=.returned (.bool (decide (l<=256) && decide (z<=1024)))∧Blk w' gl 3 (iH (ls.set i l))∧Blk w' gz 3 (iH (zs.set i z))∧Fr (fun b=>b=gl∨b=gz) w w'
def aQh (zs:List Int)(x:GN)(W:World)(s k:Value)(wr:World):Prop:=∃ (j:Nat)(s1:Int),j<=x.kids.length∧k=↑j∧s=↑s1∧W=wr∧dG zs 1 x.kids=dG zs s1 (x.kids.drop j)
def aI6 (zs:List Int)(x:GN)(ch:Bool)(W:World)(s k:Value)(wr:World):Prop:=∃ (j:Nat)(s1:Int),j<=x.kids.length∧k=↑j∧s=↑s1∧W=wr∧aW zs ch 0 1 x.kids=aW zs ch j s1 (x.kids.drop j)
theorem jN {gl gz:Nat}{ls zs:List Int}{i:Nat}{l z:Int}{w W w2:World}(n3:gl ≠ gz)(hf:Fr (fun b=>b=gl∨b=gz) w W)(hb1:Blk W gl 3 (iH (ls.set i l)))(hb2:Blk W gz 3 (iH zs))(hx:Ext W w2){r:Bool}(hr:r=(decide (l<=256) && decide (z<=1024))) :
  aQp gl gz ls zs i l z w (.returned (.bool r)) (w2.setCell ⟨gz,i,none⟩ (↑z)):=by
 subst hr;refine ⟨rfl,(hb1.ext hx).far (p:=⟨gz,i,none⟩) n3 _,?_,(hf.trans (Fr.of_ext hx)).setCell (p:=⟨gz,i,none⟩) (.inl (.inr rfl)) _⟩;have:=(hb2.ext hx).set_ i (↑z);rw [lY] at this;exact this
theorem aDe (t:List GN)(i:Nat)(P:Nat->Prop)(gc gl gz gs:Nat)(vn:Value)(ls zs:List Int)(w:World)(hP:∀ b,P b->b<w.heap.size∧b ≠ gl∧b ≠ gz)(ht:Nds w P vn t)(hi:i<t.length)
  (hc:Blk w gc 141 #[vn,.slice (some ⟨gl,0,none⟩) t.length t.length,.slice (some ⟨gz,0,none⟩) t.length t.length,.pointer (some ⟨gs,0,none⟩)])
  (hl:Blk w gl 3 (iH ls))(hz:Blk w gz 3 (iH zs))(hll:ls.length=t.length)(hzl:zs.length=t.length)(hI:∀ x ∈ ls,I64 x)(hZ:∀ x ∈ zs,I64 x)(n1:gc ≠ gl)(n2:gc ≠ gz)(n3:gl ≠ gz)
  (hok:dJ i (t.getD i default))(hlen:t.length<=100000) :
  Calls Tryz.prog 92 #[.pointer (some ⟨gc,0,none⟩),↑i] w (aQp gl gz ls zs i (gO ls (t.getD i default)) (fO zs (t.getD i default)) w):=by
 obtain ⟨An,cn,en,hn1,hn2⟩:=ht.form;subst en;obtain ⟨b,off,a,rfl,hPb,hx,hn⟩:=ht.get hi;generalize hg:t.getD i default=x at *;clear hg;have HP:=aYl hP;have HX:=aYl hx;have HN:=aYl hn;have HC:=aYl hc;have HL:=aYl hl;have HZ:=aYl hz;have HLL:=aYl hll;have HZL:=aYl hzl;have HZI:=aYl hZ;have HPB:=aYl hPb;have HOK:=aYl (show dJ ls.length x from ⟨hok.kind,hok.unused,fun z hz=>by have:=hok.kids z hz;omega,hok.choice,hok.seq,hok.bind,hok.inc,hok.valid,hok.numbers⟩);have HKI:=aYl hok.kids;have HSZ:=aYl (show fO zs x=if x.kind=0 then rsz x.value else if x.kind=3 then dG zs 1 x.kids else if x.kind=2 then aW zs true 0 1 x.kids else if x.kind=4 then aW zs false 0 1 x.kids else 1 from rfl);have N1:=aYl n1;have N2:=aYl n2;have N3:=aYl n3
 have HPL:=aYl (show ∀ W,Blk W gl 3 (iH ls)->bU W b (off+i*12) x a->NAt W P x a->Calls Tryz.prog 96 #[.pointer (some ⟨b,off+i*12,none⟩),.slice (some ⟨gl,0,none⟩) t.length t.length] W fun e w'=>e=.returned (.int .i64 (gO ls x))∧W=w' from fun W h1 h2 h3=>by
  have h4:=aU.of_blk h1 hI U;rw [hll] at h4;exact kS ls x a b (off+i*12) P _ _ W h2 h3 h4 HOK.out)
 obtain ⟨hkl,hkc⟩:=hx.kids.le;have hlo:(i:Int)<(t.length:Int):=by omega
 have k0:=hc.cell' (u:=.slice (some ⟨b,off,none⟩) t.length cn) 0 rfl;have k1:=hc.cell' (u:=.slice (some ⟨gl,0,none⟩) t.length t.length) 1 rfl;have g1:=hl.cell' i (fS (l:=ls) U);have f1:=hl.frozen i;have m1:¬ gc=gl:=n1;clear hx hn ht hP hc hl hz hll hzl hI hZ n1 n2 n3 hok hPb;generalize ls.getD i 0=z0 at *;generalize gO ls x=lr at *;go_enter Tryz.func92,Tryz.ntmps92;go_upto_region 2 with fail
 go_region_held3 (fun w'=>w'.cell? ⟨gc,1,none⟩=some (.slice (some ⟨gl,0,none⟩) t.length t.length))
  (first
   | exact fM (w:=w) m1 k1
   | exact k1
   | go_keep)
  (first
   | (go_at_call 96;refine (HPL.out _ (HL.out.ext (Ext.refl _).drew') (HN.out.ext (Ext.refl _).drew') (HX.out.ext (Ext.refl _).drew')).mono ?_;rintro e w' ⟨rfl,rfl⟩))
 go_upto_region 3 with fail;have HWF:=aYl (((Fr.refl (fun b=>b=gl∨b=gz) w).setCell (p:=⟨gl,i,none⟩) (.inl (.inl rfl)) (↑lr)).drew)
 have HWL:=aYl (show Blk (w.setCell ⟨gl,i,none⟩ (↑lr)).drew gl 3 (iH (ls.set i lr)) by
  have h:=(HL.out.set_ i (↑lr)).drew;rw [lY] at h;exact h)
 have HWZ:=aYl ((HZ.out.far (p:=⟨gl,i,none⟩) (fun e=>N3.out e.symm) (↑lr)).drew);have HWC:=aYl ((HC.out.far (p:=⟨gl,i,none⟩) N1.out (↑lr)).drew);have hkeep:aB P w (w.setCell ⟨gl,i,none⟩ (↑lr)).drew:=aB.set (fun _ _ _=>rfl) _ (fun h=>(HP.out _ h).2.1 rfl);have HWX:=aYl (HX.out.carry hkeep (fun _ _ h=>h));have HWN:=aYl (HN.out.keep HPB.out hkeep);have HWP:=aYl (show ∀ b,P b->b<(w.setCell ⟨gl,i,none⟩ (↑lr)).drew.heap.size from fun b hb=>Nat.lt_of_lt_of_le (HP.out b hb).1 HWF.out.size);clear hkeep k0 k1 g1 f1 m1 HPL;generalize (w.setCell ⟨gl,i,none⟩ (↑lr)).drew=W at *;have hzl:=HZL.out;have hll:=HLL.out
 have HT:=aYl (show ∀ w2,Ext W w2->w2.cell? ⟨gc,1,none⟩=some (.slice (some ⟨gl,0,none⟩) t.length t.length)∧w2.cell? ⟨gc,2,none⟩=some (.slice (some ⟨gz,0,none⟩) t.length t.length)∧w2.cell? ⟨gl,i,none⟩=some (↑lr) ∧
   w2.cell? ⟨gz,i,none⟩=some (.int .i64 (zs.getD i 0))∧w2.frozen? ⟨gz,i,none⟩=false from fun w2 h=>⟨(HWC.out.ext h).cell' 1 rfl,(HWC.out.ext h).cell' 2 rfl,(HWL.out.ext h).cell' i (by rw [fS ab];simp [List.getD,hll,hi]),(HWZ.out.ext h).cell' i (fS U),(HWZ.out.ext h).frozen i⟩)
 clear hzl hll;generalize zs.getD i 0=z1 at *;have c0:=HWN.out.c0;have c7:=HWN.out.c7;have c8:=HWN.out.c8;have c9:=HWN.out.c9;have c10:=HWN.out.c10;have c11:=HWN.out.c11;have q2:=(HT.out W (Ext.refl _)).2.1;have m3:¬ gl=gz:=N3.out;have m3':¬ gc=gz:=N2.out;have HKV:=aYl HWX.out.kids;have HGZ:=aYl (aU.of_blk HWZ.out HZI.out fy)
 by_cases k0:x.kind=0
 ·have t0:(x.kind == 0)=true:=aYn k0
  have HS2:=aYl (show fO zs x=rsz x.value by rw [HSZ.out,if_pos k0]);have HVS:=aYl (qP x.value a.xA a.xc P W HWP.out HWX.out.value);rw [aJt] at HVS;generalize rsz x.value=sz at *;clear k0 c7 HSZ;go_wp2_with fail;refine HVS.out.mono ?_;rintro e w2 ⟨rfl,hx2⟩;have HX2:=aYl hx2;clear hx2 c0 c8 c9 c10 c11 q2;obtain ⟨e1,e2,e3,e4,e5⟩:=HT.out _ HX2.out;go_wp2_with fail
  all_goals
   go_ret;rw [HS2.out];exact jN N3.out HWF.out HWL.out HWZ.out HX2.out bh
 have t0:(x.kind == 0)=false:=aYm k0;clear c8 c9 c10 c11
 by_cases k3:x.kind=3
 ·have t3:(x.kind == 3)=true:=aYn k3
  have HS2:=aYl (show fO zs x=dG zs 1 x.kids by rw [HSZ.out,if_neg k0,if_pos k3]);clear k0 k3 HSZ;generalize a.kA=Ak at *;generalize a.kc=kc at *;go_wp2_with fail;go_loopw [6,47] (fun s k wr=>aQh zs x W s k wr) (fun _ k _=>x.kids.length - (intOf k).toNat)
  case atStart=>exact ⟨0,1,Nat.zero_le _,rfl,rfl,rfl,rfl⟩
  case round =>
   obtain ⟨j,s1,hj,rfl,rfl,rfl,hT⟩:=hrel;have HTT:=aYl hT;clear hT
   by_cases hlt:j<x.kids.length
   ·obtain ⟨b1,o1,rfl,-,-,g1⟩:=HKV.out.get hlt
    have hz:=HKI.out _ (aF (d:=0) hlt);have HD:=aYl (HTT.out.trans (by rw [aG 0 hlt,dG]));generalize x.kids.getD j 0=z at *;obtain ⟨b2,o2,eb,-,-,g2⟩:=HGZ.out.get (i:=z.toNat) fy;injection eb with eb;injection eb with eb1 eb2;subst eb1 eb2;rw [Nat.zero_add] at g2;have hz2:z<(t.length:Int):=by omega
    generalize zs.getD z.toNat 0=y at *;go_wp2_with fail;go_roundw
    case rel=>exact ⟨j+1,_,U,by go_num,rfl,rfl,HD.out⟩
    case measure=>simp [intOf];omega
   ·have HD:=aYl (show dG zs 1 x.kids=s1 by rw [HTT.out,drop_nil U,dG])
    obtain ⟨e1,e2,e3,e4,e5⟩:=HT.out _ (Ext.refl _);go_wp2_with fail
    all_goals
     go_ret;rw [HS2.out,HD.out];exact jN N3.out HWF.out HWL.out HWZ.out (Ext.refl _) bh
 have t3:(x.kind == 3)=false:=aYm k3
 by_cases k2:x.kind=2
 ·have t2:(x.kind == 2)=true:=aYn k2
  have HS2:=aYl (show fO zs x=aW zs true 0 1 x.kids by rw [HSZ.out,if_neg k0,if_neg k3,if_pos k2]);clear k0 k3 k2 HSZ;generalize a.kA=Ak at *;generalize a.kc=kc at *;go_wp2_with fail;go_loopw [6,69] (fun s k wr=>aI6 zs x true W s k wr) (fun _ k _=>x.kids.length - (intOf k).toNat)
  case atStart=>exact ⟨0,1,Nat.zero_le _,rfl,rfl,rfl,rfl⟩
  case round =>
   obtain ⟨j,s1,hj,rfl,rfl,rfl,hT⟩:=hrel;have HTT:=aYl hT;clear hT
   by_cases hlt:j<x.kids.length
   ·obtain ⟨b1,o1,rfl,-,-,g1⟩:=HKV.out.get hlt
    have hz:=HKI.out _ (aF (d:=0) hlt);have HD:=aYl (show aW zs true 0 1 x.kids=aW zs true (j+1) (if true=true∨0<j then (if s1<zs.getD (x.kids.getD j 0).toNat 0 then zs.getD (x.kids.getD j 0).toNat 0 else s1) else s1) (x.kids.drop (j+1)) by rw [HTT.out,aG 0 hlt,aW]);generalize x.kids.getD j 0=z at *;obtain ⟨b2,o2,eb,-,-,g2⟩:=HGZ.out.get (i:=z.toNat) fy;injection eb with eb;injection eb with eb1 eb2;subst eb1 eb2;rw [Nat.zero_add] at g2;have hz2:z<(t.length:Int):=by omega
    generalize zs.getD z.toNat 0=y at *
    by_cases hk0:0<j
    ·have tk:decide (0<(j:Int))=true:=aYo U
     go_wp2_with fail
     all_goals
      go_roundw
      case rel=>exact ⟨j+1,_,U,by go_num,rfl,rfl,co⟩
      case measure=>simp [intOf];omega
    ·have tk:decide (0<(j:Int))=false:=aYp U
     go_wp2_with fail
     all_goals
      go_roundw
      case rel=>exact ⟨j+1,_,U,by go_num,rfl,rfl,by rw [HD.out,if_pos (.inl rfl)];try (first | rw [if_pos ba] | rw [if_neg U])⟩
      case measure=>simp [intOf];omega
   ·have HD:=aYl (show aW zs true 0 1 x.kids=s1 by rw [HTT.out,drop_nil U,aW])
    obtain ⟨e1,e2,e3,e4,e5⟩:=HT.out _ (Ext.refl _);go_wp2_with fail
    all_goals
     go_ret;rw [HS2.out,HD.out];exact jN N3.out HWF.out HWL.out HWZ.out (Ext.refl _) bh
 have t2:(x.kind == 2)=false:=aYm k2
 by_cases k4:x.kind=4
 ·have t4:(x.kind == 4)=true:=aYn k4
  have HS2:=aYl (show fO zs x=aW zs false 0 1 x.kids by rw [HSZ.out,if_neg k0,if_neg k3,if_neg k2,if_pos k4]);clear k0 k3 k2 k4 HSZ;generalize a.kA=Ak at *;generalize a.kc=kc at *;go_wp2_with fail;go_loopw [6,69] (fun s k wr=>aI6 zs x false W s k wr) (fun _ k _=>x.kids.length - (intOf k).toNat)
  case atStart=>exact ⟨0,1,Nat.zero_le _,rfl,rfl,rfl,rfl⟩
  case round =>
   obtain ⟨j,s1,hj,rfl,rfl,rfl,hT⟩:=hrel;have HTT:=aYl hT;clear hT
   by_cases hlt:j<x.kids.length
   ·obtain ⟨b1,o1,rfl,-,-,g1⟩:=HKV.out.get hlt
    have hz:=HKI.out _ (aF (d:=0) hlt);have HD:=aYl (show aW zs false 0 1 x.kids=aW zs false (j+1) (if false=true∨0<j then (if s1<zs.getD (x.kids.getD j 0).toNat 0 then zs.getD (x.kids.getD j 0).toNat 0 else s1) else s1) (x.kids.drop (j+1)) by rw [HTT.out,aG 0 hlt,aW]);generalize x.kids.getD j 0=z at *;obtain ⟨b2,o2,eb,-,-,g2⟩:=HGZ.out.get (i:=z.toNat) fy;injection eb with eb;injection eb with eb1 eb2;subst eb1 eb2;rw [Nat.zero_add] at g2;have hz2:z<(t.length:Int):=by omega
    generalize zs.getD z.toNat 0=y at *
    by_cases hk0:0<j
    ·have tk:decide (0<(j:Int))=true:=aYo U
     go_wp2_with fail
     all_goals
      go_roundw
      case rel=>exact ⟨j+1,_,U,by go_num,rfl,rfl,co⟩
      case measure=>simp [intOf];omega
    ·have tk:decide (0<(j:Int))=false:=aYp U
     go_wp2_with fail
     all_goals
      go_roundw
      case rel=>exact ⟨j+1,_,U,by go_num,rfl,rfl,by rw [HD.out,if_neg ab]⟩
      case measure=>simp [intOf];omega
   ·have HD:=aYl (show aW zs false 0 1 x.kids=s1 by rw [HTT.out,drop_nil U,aW])
    obtain ⟨e1,e2,e3,e4,e5⟩:=HT.out _ (Ext.refl _);go_wp2_with fail
    all_goals
     go_ret;rw [HS2.out,HD.out];exact jN N3.out HWF.out HWL.out HWZ.out (Ext.refl _) bh
 have t4:(x.kind == 4)=false:=aYm k4;have HS2:=aYl (show fO zs x=1 by rw [HSZ.out,if_neg k0,if_neg k3,if_neg k2,if_neg k4]);clear k0 k3 k2 k4 HSZ;obtain ⟨e1,e2,e3,e4,e5⟩:=HT.out _ (Ext.refl _);go_wp2_with fail
 all_goals
  go_ret;rw [HS2.out];exact jN N3.out HWF.out HWL.out HWZ.out (Ext.refl _) bh
end Go.Proofs.YtkoeecdjijfjnaaGreat
