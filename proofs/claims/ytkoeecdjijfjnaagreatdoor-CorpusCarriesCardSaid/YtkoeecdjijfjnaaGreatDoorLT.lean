/- Contracts and laws. Conditions: none. -/
import Derived.Test.YtkoeecdjijfjnaaGreatDoorPlM
set_option linter.all false
set_option maxRecDepth 100000
set_option maxHeartbeats 8000000
namespace Go.Proofs.YtkoeecdjijfjnaaGreatDoor
open Go.RowKit
theorem vN (l:List Int)(i j:Nat)(P:Nat->Prop)(v:Value)(w:World)(hv:bL w P v l)(hi:1<=i)(hi2:i<=1000)(hj:j<=1000) :
  Calls Tryz.prog 21 #[v,↑i,↑j] w fun e w'=>∃ n:Int,e=.returned (↑n)∧(0<=n∧n<i)∧w=w':=by
 have HC:=aYf (kJ l (3*(i:Int)+(j:Int)+2) 1000000 P v w hv dg I I);have hb:=kI (l:=l) (i:=3*(i:Int)+(j:Int)+2) (m:=1000000) I;generalize vK l (3*(i:Int)+(j:Int)+2) 1000000=k at *;obtain ⟨A,c,e,h1,h2⟩:=hv.form;subst e;clear hv;by_cases h3:k % 3=0
 ·go_enter Tryz.func21,Tryz.ntmps21
  go_wp2_with (go_at_call 19;refine HC.out.mono ?_;rintro e w' ⟨rfl,rfl⟩);go_ret;exact ⟨_,rfl,⟨Int.emod_nonneg _ I,Int.emod_lt_of_pos _ I⟩,rfl⟩
 ·go_enter Tryz.func21,Tryz.ntmps21
  go_wp2_with (go_at_call 19;refine HC.out.mono ?_;rintro e w' ⟨rfl,rfl⟩)
  all_goals
   go_ret;exact ⟨_,rfl,I,rfl⟩
def EY (w:World)(e:Ending)(w':World):Prop:=∃ x A c,e=.returned (cN x A c)∧VAt w' (fun b=>w.heap.size<=b) x A c∧gsz x<=2∧Ext w w'
theorem VAt.noKids {w:World}{P:Nat->Prop}{k n:Int}{s:ByteArray}(hk:I64 k)(hn:I64 n)(hs:s.size<=100):VAt w P (.mk k n s []) none 0 :=
 ⟨hk,hn,by show s.size<=_;omega,ab _,dm,⟨none,0,[],rfl,dm,dm,⟨dm,fun h=>absurd h dm⟩,by simp [GV.kids,RVs]⟩⟩
theorem zm (k:Int)(w:World)(h0:0<=k)(h1:k<=1000000000):qg 20 #[↑k] w (EY w):=by
 by_cases h3:k % 4=0
 ·go_enter Tryz.func20,Tryz.ntmps20
  go_wp2_with fail;exact bodyPost_ret (v:=.agg #[qz,.int .i64 (k / 4 % 9 - 4),qe,qn]) (by simp [results,Tryz.results20,go_sem]) rfl ⟨.mk 0 (k / 4 % 9 - 4) ⟨#[]⟩ [],none,0,rfl,VAt.noKids dg dg dx,eq,(aq _).alloc' _⟩
 ·by_cases h4:k % 4=1
  ·go_enter Tryz.func20,Tryz.ntmps20
   go_wp2_with fail;exact bodyPost_ret (v:=.agg #[.int .i64 1,.int .i64 (k / 4 % 2),qe,qn]) (by simp [results,Tryz.results20,go_sem]) rfl ⟨.mk 1 (k / 4 % 2) ⟨#[]⟩ [],none,0,rfl,VAt.noKids dg dg dx,eq,(aq _).alloc' _⟩
  ·by_cases h5:k % 4=2
   ·have hm:k / 4 % 3=0∨k / 4 % 3=1∨k / 4 % 3=2:=by omega
    rcases hm with hm | hm | hm
    ·go_enter Tryz.func20,Tryz.ntmps20
     go_wp2_with fail;exact bodyPost_ret (v:=.agg #[.int .i64 3,qz,.string ⟨#[76,101,97,102]⟩,qn]) (by simp [results,Tryz.results20,go_sem]) rfl ⟨.mk 3 0 ⟨#[76,101,97,102]⟩ [],none,0,rfl,VAt.noKids dg dg dx,eq,((aq _).alloc' _).alloc' _⟩
    ·go_enter Tryz.func20,Tryz.ntmps20
     go_wp2_with fail;exact bodyPost_ret (v:=.agg #[.int .i64 3,qz,.string ⟨#[82,101,100]⟩,qn]) (by simp [results,Tryz.results20,go_sem]) rfl ⟨.mk 3 0 ⟨#[82,101,100]⟩ [],none,0,rfl,VAt.noKids dg dg dx,eq,((aq _).alloc' _).alloc' _⟩
    ·go_enter Tryz.func20,Tryz.ntmps20
     go_wp2_with fail;exact bodyPost_ret (v:=.agg #[.int .i64 3,qz,.string ⟨#[88]⟩,qn]) (by simp [results,Tryz.results20,go_sem]) rfl ⟨.mk 3 0 ⟨#[88]⟩ [],none,0,rfl,VAt.noKids dg dg dx,eq,((aq _).alloc' _).alloc' _⟩
   ·go_enter Tryz.func20,Tryz.ntmps20
    go_wp2_with fail;have hB:=az (w.alloc (qk #[.int .i64 2,qz,qe,.slice (qp (w+1)) 1 1] 58)) 58 #[qz,.int .i64 (k / 4 % 3),qe,qn] (g:=w.heap.size+1) U;have hq:I64 (k / 4 % 3):=by unfold I64;omega
    have hz:I64 0:=dg;have h2:I64 2:=dg;refine bodyPost_ret (v:=.agg #[.int .i64 2,qz,qe,.slice (qp (w+1)) 1 1]) (by simp [results,Tryz.results20,go_sem]) rfl ⟨.mk 2 0 ⟨#[]⟩ [.mk 0 (k / 4 % 3) ⟨#[]⟩ []],some ↑(qp (w+1)),1,rfl,⟨h2,hz,dl,by show 1<=1;omega,by show 1<=_∧1<=_;omega,⟨some ↑(qp (w+1)),1,[↑qz,.int .i64 (k / 4 % 3),↑qe,↑qn],rfl,by show 1<=1;omega,by show 1<=_∧1<=_;omega,⟨rfl,fun _=>⟨w.heap.size+1,0,rfl,cm,fun j u hu=>by rw [Nat.zero_add];exact hB.cell' j fy⟩⟩,RVs.one (VAt.noKids (w:=_) (P:=_) hz hq dx).rv⟩⟩,eq,((aq _).alloc' _).alloc' _⟩
section
variable {w w':World}{P Q:Nat->Prop}
theorem bL.nil:bL w P qn []:=⟨none,0,rfl,ab _,U,U,⟨rfl,fun h=>absurd h U⟩⟩
theorem nS.nil:nS w P qn []:=⟨none,0,[],rfl,ab _,U,⟨rfl,fun h=>absurd h U⟩,gh⟩
theorem bZ.nil:bZ w P qn []:=⟨none,0,[],rfl,ab _,U,⟨rfl,fun h=>absurd h U⟩,j6⟩
end
theorem fA {w:World}{base:Nat}{e:TypeId}{size:Nat}{v:Value}{n:Nat}{xs:List Value}(h:w.ownsRow base e size v n xs){p:Addr}(hp:some p.block ≠ v.ownBlock)(u:Value):(w.setCell p u).ownsRow base e size v n xs:=by
 refine ⟨h.1,?_⟩;rcases h.2 with h3 | ⟨G,cap,cur,h4,h5,h6,h7⟩
 ·exact .inl h3
 ·exact .inr ⟨G,cap,cur,h4,h5,(Below.heap_setCell _ _ _ _ (fun e=>hp (by rw [h4];simp [Value.ownBlock,e]))).trans h6,h7⟩
def IJ (P:Nat->Prop)(w:World)(e:Ending)(w':World):Prop:=∃ x a,e=.returned (fE x a)∧NAt w' (New P w) x a∧nz x∧x.kind ≠ 3∧Ext w w'
def AZ (n0:Nat)(Av:Option Addr)(cv:Nat)(gx B:Nat)(W:World)(jv:Value)(wr:World):Prop :=
 ∃ (j:Nat) (kids:List Int) (kv:Value),j<=n0∧jv=↑j∧kids=j+1∧(∀ z ∈ kids,I64 z)∧Blk wr gx 60 #[.int .i64 4,qe,qz,qz,qn,qn,.slice Av n0 cv,kv,qz,qz,qe,qn] ∧
  wr.ownsRow B 3 1 kv (j+1) (kids.map (Value.int .i64))∧some gx ≠ kv.ownBlock∧Ext W wr
theorem Gj (t:List GN)(l:List Int)(k:Int)(P Q:Nat->Prop)(vn vl:Value)(w:World)(hg:fG t)(hlen:1<=t.length)(hlen2:t.length<=100)(hk0:0<=k)(hk1:k<=1000000000)(hP:∀ b,P b->b<w)(ht:Nds w P vn t)(hl:bL w Q vl l) :
  qg 22 #[.agg #[vn],vl,t.length,↑k] w (IJ P w):=by
 have HT:=aYf ht;have HL:=aYf hl;have HG:=aYf hg;have HP:=aYf hP;obtain ⟨An,cn,en,hn1,hn2⟩:=ht.form;subst en;obtain ⟨Al,cl,el,hl1,hl2⟩:=hl.form;subst el;obtain ⟨i0,hi,hz0,hz1,hz2⟩:=info_parts Tryz.info3;have HI:=aYf hi;clear ht hl hg hP hi;go_enter Tryz.func22,Tryz.ntmps22;go_upto_region 1 with fail;have HE:=aYf (show Ext w ((w.alloc (qk #[.slice An t cn] 25)).alloc (qk #[qz,qe,qz,qz,qn,qn,qn,qn,qz,qz,qe,qn] 60)) from ((aq w).alloc' _).alloc' _);have HB:=aYf ((aw w 25 #[.slice An t cn]).alloc (qk #[qz,qe,qz,qz,qn,qn,qn,qn,qz,qz,qe,qn] 60));have HR:=aYf (az (w.alloc (qk #[.slice An t cn] 25)) 60 #[qz,qe,qz,qz,qn,qn,qn,qn,qz,qz,qe,qn] (g:=w.heap.size+1) U);have hsz:w.heap.size+2<=((w.alloc (qk #[.slice An t cn] 25)).alloc (qk #[qz,qe,qz,qz,qn,qn,qn,qn,qz,qz,qe,qn] 60)):=by simp
 generalize (w.alloc (qk #[.slice An t cn] 25)).alloc (qk #[qz,qe,qz,qz,qn,qn,qn,qn,qz,qz,qe,qn] 60)=W at *;have b0:=HB.out.cell' (u:=.slice An t cn) 0 rfl;go_upto_region 2 with (go_at_call 21;refine (vN l t 0 Q _ W (HL.out.ext HE.out) hlen I I).mono ?_;rintro e w1 ⟨nf,rfl,hnf,rfl⟩);obtain ⟨n,rfl⟩:∃ n:Nat,nf=(n:Int):=⟨nf.toNat,I⟩;have hnl:n<t.length:=by omega
 have HVS:=aYf (HG.out.vals hnl);have hgood:=dH.1 HG.out.good;have HV:=aYf (sU t n P _ W (HT.out.ext HE.out) (hgood.mono I));clear hgood;generalize (aE t).getD n default=gl at *;obtain ⟨vals,many⟩:=gl;go_upto_region 3 with (go_at_call 44;refine HV.out.mono ?_;rintro e w1 ⟨Av,cv,rfl,hv1,hx1⟩);have HV1:=aYf hv1;have HX1:=aYf (HE.out.trans' hx1);have HR1:=aYf (HR.out.ext hx1);have hs1:=hx1.size;obtain ⟨A9,c9,e9,hcap1,hcap2⟩:=hv1.form;injection e9 with e91 _ e92;subst e91 e92;clear hv1 hx1 b0 HV
 try dsimp only at HV1
 try dsimp only at HVS
 try dsimp only at hcap1
 try dsimp only at hcap2
 try dsimp only
 generalize hn0:vals.length=n0 at *;have HN0:=aYf hn0;clear hn0;have HLF:=aYf (fun (V:World)=>zm k V hk0 hk1);cases many with
 | true =>
  go_wp2_with (go_at_call 20;refine (HLF.out _).mono ?_;rintro e w2 ⟨y,Ay,cy,rfl,hy,hgy,hx2⟩;have R2:=HR1.out.ext hx2;have rc0:=R2.cell' (u:=qz) 0 rfl;have rc1:=R2.cell' (u:=qe) 1 rfl;have rc2:=R2.cell' (u:=qz) 2 rfl;have rc3:=R2.cell' (u:=qz) 3 rfl;have rc4:=R2.cell' (u:=qn) 4 rfl;have rc5:=R2.cell' (u:=qn) 5 rfl;have rc6:=R2.cell' (u:=qn) 6 rfl;have rc7:=R2.cell' (u:=qn) 7 rfl;have rc8:=R2.cell' (u:=qz) 8 rfl;have rc9:=R2.cell' (u:=qz) 9 rfl;have rc10:=R2.cell' (u:=qe) 10 rfl;have rc11:=R2.cell' (u:=qn) 11 rfl;have rf0:=R2.frozen 0;have rf1:=R2.frozen 1;have rf2:=R2.frozen 2;have rf3:=R2.frozen 3;have rf4:=R2.frozen 4;have rf5:=R2.frozen 5;have rf6:=R2.frozen 6;have rf7:=R2.frozen 7;have rf8:=R2.frozen 8;have rf9:=R2.frozen 9;have rf10:=R2.frozen 10;have rf11:=R2.frozen 11;have HR2:=aYf R2;have HX2:=aYf (HX1.out.trans' hx2);have HY:=aYf hy;clear R2 hx2 hy);have hfin:=aF [qz,qe,qz,qz,qn,qn,qn,qn,y.kind,y.n,y.s,.slice Ay y.kids cy] (w:=w2) (cs:=[qz,qe,qz,qz,qn,qn,qn,qn,qz,qz,qe,qn]) (g:=w.heap.size+1) (t:=60) 0 HR2.out U;simp only [List.take_zero,List.nil_append,ai,List.length_nil,Nat.zero_add,List.drop_succ_cons,List.drop_nil,List.append_nil] at hfin;have z0:=hfin.cell' (u:=qz) 0 rfl;have z1:=hfin.cell' (u:=qe) 1 rfl;have z2:=hfin.cell' (u:=qz) 2 rfl;have z3:=hfin.cell' (u:=qz) 3 rfl;have z4:=hfin.cell' (u:=qn) 4 rfl;have z5:=hfin.cell' (u:=qn) 5 rfl;have z6:=hfin.cell' (u:=qn) 6 rfl;have z7:=hfin.cell' (u:=qn) 7 rfl;have z8:=hfin.cell' (u:=↑y.kind) 8 rfl;have z9:=hfin.cell' (u:=↑y.n) 9 rfl;have z10:=hfin.cell' (u:=y.s) 10 rfl;have z11:=hfin.cell' (u:=.slice Ay y.kids cy) 11 rfl;have hE:Ext w (w2.setCells (w+1) 0 [qz,qe,qz,qz,qn,qn,qn,qn,y.kind,y.n,y.s,.slice Ay y.kids cy]):=((ar (M:=fun _=>False) HX2.out).setCells _ 0 (.inr I)).ext;have hV:VAt (w2.setCells (w+1) 0 [qz,qe,qz,qz,qn,qn,qn,qn,y.kind,y.n,y.s,.slice Ay y.kids cy]) (New P w) y Ay cy:=HY.out.carry (aB.setCells I _ 0 (fun _ _ _=>rfl)) (fun b _ h=>.inr I);have hgen:((((((((((((w2).setCell (qp (w+1)) qz).setCell (qt (w+1) 1) qe).setCell (qt (w+1) 2) qz).setCell (qt (w+1) 3) qz).setCell (qt (w+1) 4) qn).setCell (qt (w+1) 5) qn).setCell (qt (w+1) 6) qn).setCell (qt (w+1) 7) qn).setCell (qt (w+1) 8) (↑y.kind)).setCell (qt (w+1) 9) (↑y.n)).setCell (qt (w+1) 10) y.s).setCell (qt (w+1) 11) (.slice Ay y.kids cy)=w2.setCells (w+1) 0 [qz,qe,qz,qz,qn,qn,qn,qn,y.kind,y.n,y.s,.slice Ay y.kids cy]:=rfl;rw [hgen];clear hgen;generalize w2.setCells (w+1) 0 [qz,qe,qz,qz,qn,qn,qn,qn,y.kind,y.n,y.s,.slice Ay y.kids cy]=WF at *;exact bodyPost_ret (v:=fE ⟨0,⟨#[]⟩,0,0,[],[],[],[],y⟩ ⟨none,0,none,0,none,0,none,0,Ay,cy⟩) (by simp [results,Tryz.results22,go_sem,z0,z1,z2,z3,z4,z5,z6,z7,z8,z9,z10,z11]) rfl ⟨_,_,rfl,⟨cu,dl,cu,cu,bL.nil,nS.nil,bZ.nil,bL.nil,hV⟩,⟨⟨U,U,U,U,by show gsz y<=_;omega,U⟩,⟨U,U,U,U,dl⟩,U⟩,U,hE⟩
 | false =>
  by_cases hn6:n0<=6
  ·have hd:decide (6<(n0:Int))=false:=aYj I
   go_upto_region 6 with fail;have HE2:=aYf (show Ext w1 ((w1.alloc (qk #[↑n] 3)).alloc (qk #[.int .i64 4,qe,qz,qz,qn,qn,.slice Av n0 cv,.slice (qp w1) 1 1,qz,qz,qe,qn] 60)) from ((aq w1).alloc' _).alloc' _);have HKO:=aYf (show ((w1.alloc (qk #[↑n] 3)).alloc (qk #[.int .i64 4,qe,qz,qz,qn,qn,.slice Av n0 cv,.slice (qp w1) 1 1,qz,qz,qe,qn] 60)).ownsRow w1 3 1 (.slice (qp w1) 1 1) 1 [.int .i64 n] from ((World.ownsRow_lit w1 #[↑n] 1 (ab _) du rfl)).alloc _);have HBX:=aYf (az (w1.alloc (qk #[↑n] 3)) 60 #[.int .i64 4,qe,qz,qz,qn,qn,.slice Av n0 cv,.slice (qp w1) 1 1,qz,qz,qe,qn] (g:=w1.heap.size+1) U);generalize (w1.alloc (qk #[↑n] 3)).alloc (qk #[.int .i64 4,qe,qz,qz,qn,qn,.slice Av n0 cv,.slice (qp w1) 1 1,qz,qz,qe,qn] 60)=W2 at *
   generalize hgx:w1.heap.size+1=gx at *;have HKI:=aYf (show AZ n0 Av cv gx w1 w1 qz W2 from ⟨0,[(n:Int)],_,af _,rfl,rfl,fun z hz=>by simp only [List.mem_singleton] at hz;subst hz;unfold I64;omega,HBX.out,HKO.out,by simp [Value.ownBlock];omega,HE2.out⟩);have hgx1:w1<gx:=by omega
   clear hgx HBX HKO hd;go_wp2_with fail;go_loopw [13] (fun j wr=>AZ n0 Av cv gx w1 w1 j wr) (fun j _=>n0 - (intOf j).toNat)
   case atStart=>exact HKI.out
   case round =>
    obtain ⟨j,kids,kv,hj,rfl,hkl,hk64,hB,hown,hne,hF⟩:=hrel;obtain ⟨A7,c7,e7,-,-,-⟩:=Sl.of_own hown;subst e7;have HOWN:=aYf hown;have HKL:=aYf hkl;have HK64:=aYf hk64;have HBX:=aYf hB;have HF:=aYf hF;have hsw:=hF.size;have hne':¬ some gx=(Value.slice A7 (j+1) c7).ownBlock:=hne;have HEX:=aYf (HX1.out.trans' hF);clear hown hkl hk64 hB hF hne;by_cases hlt:j<n0
    ·have HKC:=aYf (fun (V:World) (hE:Ext wr V)=>show qg 21 #[.slice Al l cl,t.length,.int .i64 ((j:Int)+1)] V _ from (by have h:=vN l t (j+1) Q _ V (HL.out.ext (HEX.out.trans' hE)) hlen I I;rw [show ((j+1:Nat):Int)=(j:Int)+1 by omega] at h;exact h))
     have x7:=HBX.out.cell' (u:=.slice A7 (j+1) c7) 7 rfl;have lx:=HBX.out.lt;have hwr:IntKind.i64.wrap ((j:Int)+1)=(j:Int)+1:=IntWalk.i64_in _ I;go_upto_region 9 with fail
     go_region_law (first
      | (refine xP (by rfl) 21 #[.tmp 45,.tmp 46,.tmp 48] #[22,3,3] (by rfl) _ Tryz.func21 (by rfl) (by rfl) #[.slice Al l cl,t.length,.int .i64 ((j:Int)+1)] (by simp [Act.eval,Act.put]) ?_;refine (HKC.out _ (aq wr).drew').mono ?_;rintro e w' ⟨nk,rfl,hnk,rfl⟩;refine ⟨_,rfl,?_⟩)
      | (refine eJ _ (by rfl) (.tmp 44) (.tmp 50) 22 (by rfl) w1 3 i0 _ 1 8 Tryz.underlying22 HI.out hz0 hz1 hz2 rfl (by omega) (.slice A7 (j+1) c7) (j+1) (kids.map (Value.int .i64)) (by rfl) ((HOWN.out.ext_ (aq _).drew').alloc _) (fun _=>True) (qp wr) 1 1 [.int .i64 nk] (by rfl) (Sl.new wr.drew _ _ _ _ rfl) (by simp [Value.oneCell']) (by omega) (by omega) (by simp;omega) ?_;intro v5 w5 ho5 hf5 hb5;obtain ⟨A5,c5,e5,-,-,-⟩:=Sl.of_own ho5;subst e5;have R5:=(HBX.out.drew.alloc (qk #[.int .i64 nk] 3)).fr hf5 hne';have y7:=R5.cell' (u:=.slice A7 (j+1) c7) 7 rfl;have y7f:=R5.frozen 7;have HR5:=aYf R5;have HO5:=aYf ho5;have HF5:=aYf hf5;have HB5:=aYf hb5;clear R5 ho5 hf5 hb5))
     all_goals
      clear hwr;go_wp2_with fail;go_roundw
      case rel =>
       have hs5:=HF5.out.size;have hown5:w1<=gx:=by omega
       have hne5:some gx ≠ (Value.slice A5 (j+1+1) c5).ownBlock:=by
        rcases HB5.out with h | h
        ·rw [h];exact hne'
        ·rw [h];intro e;injection e with e;simp at e;omega
       have hfr:Fr (fun b=>w1.heap.size<=b) w1 (w5.setCell (qt gx 7) (.slice A5 (j+1+1) c5)):=by
        refine Fr.setCell ?_ (.inl hown5) _;exact ((ar ((HF.out.drew').alloc' _)).trans (HF5.out.mono (fun b hb=>HOWN.out.block_ge hb.symm)))
       refine ⟨j+1,kids ++ [nk],.slice A5 (j+1+1) c5,I,by go_num,by rw [aa,HKL.out];rfl,?_,HR5.out.set_ 7 _,?_,hne5,hfr.new_ext (fun _ h=>h)⟩
       ·intro z hz
        rcases ap.1 hz with hz | hz
        ·exact HK64.out z hz
        ·simp only [List.mem_singleton] at hz;subst hz;unfold I64;omega
       ·refine World.ownsRow.len_cast (fA HO5.out (p:=qt gx 7) (fun e=>hne5 e) _) rfl U
      case measure=>simp [intOf];omega
    ·obtain rfl:j=n0:=by omega
     have R2:=HR1.out.ext HF.out;have rc0:=R2.cell' (u:=qz) 0 rfl;have rc1:=R2.cell' (u:=qe) 1 rfl;have rc2:=R2.cell' (u:=qz) 2 rfl;have rc3:=R2.cell' (u:=qz) 3 rfl;have rc4:=R2.cell' (u:=qn) 4 rfl;have rc5:=R2.cell' (u:=qn) 5 rfl;have rc6:=R2.cell' (u:=qn) 6 rfl;have rc7:=R2.cell' (u:=qn) 7 rfl;have rc8:=R2.cell' (u:=qz) 8 rfl;have rc9:=R2.cell' (u:=qz) 9 rfl;have rc10:=R2.cell' (u:=qe) 10 rfl;have rc11:=R2.cell' (u:=qn) 11 rfl;have rf0:=R2.frozen 0;have rf1:=R2.frozen 1;have rf2:=R2.frozen 2;have rf3:=R2.frozen 3;have rf4:=R2.frozen 4;have rf5:=R2.frozen 5;have rf6:=R2.frozen 6;have rf7:=R2.frozen 7;have rf8:=R2.frozen 8;have rf9:=R2.frozen 9;have rf10:=R2.frozen 10;have rf11:=R2.frozen 11;have xc0:=HBX.out.cell' (u:=.int .i64 4) 0 rfl;have xc1:=HBX.out.cell' (u:=qe) 1 rfl;have xc2:=HBX.out.cell' (u:=qz) 2 rfl;have xc3:=HBX.out.cell' (u:=qz) 3 rfl;have xc4:=HBX.out.cell' (u:=qn) 4 rfl;have xc5:=HBX.out.cell' (u:=qn) 5 rfl;have xc6:=HBX.out.cell' (u:=.slice Av j cv) 6 rfl;have xc7:=HBX.out.cell' (u:=.slice A7 (j+1) c7) 7 rfl;have xc8:=HBX.out.cell' (u:=qz) 8 rfl;have xc9:=HBX.out.cell' (u:=qz) 9 rfl;have xc10:=HBX.out.cell' (u:=qe) 10 rfl;have xc11:=HBX.out.cell' (u:=qn) 11 rfl;have HR2:=aYf R2;clear R2;go_wp2_with fail;have hfin:=aF [.int .i64 4,qe,qz,qz,qn,qn,.slice Av j cv,.slice A7 (j+1) c7,qz,qz,qe,qn] (w:=wr) (cs:=[qz,qe,qz,qz,qn,qn,qn,qn,qz,qz,qe,qn]) (g:=w.heap.size+1) (t:=60) 0 HR2.out U;simp only [List.take_zero,List.nil_append,ai,List.length_nil,Nat.zero_add,List.drop_succ_cons,List.drop_nil,List.append_nil] at hfin;have z0:=hfin.cell' (u:=.int .i64 4) 0 rfl;have z1:=hfin.cell' (u:=qe) 1 rfl;have z2:=hfin.cell' (u:=qz) 2 rfl;have z3:=hfin.cell' (u:=qz) 3 rfl;have z4:=hfin.cell' (u:=qn) 4 rfl;have z5:=hfin.cell' (u:=qn) 5 rfl;have z6:=hfin.cell' (u:=.slice Av j cv) 6 rfl;have z7:=hfin.cell' (u:=.slice A7 (j+1) c7) 7 rfl;have z8:=hfin.cell' (u:=qz) 8 rfl;have z9:=hfin.cell' (u:=qz) 9 rfl;have z10:=hfin.cell' (u:=qe) 10 rfl;have z11:=hfin.cell' (u:=qn) 11 rfl;have hsx:=HX1.out.size
     have hnew:¬ New P W (w+1):=by
      rintro (h | h)
      ·have:=HP.out _ h;omega
      ·omega
     have hE:Ext w (wr.setCells (w+1) 0 [.int .i64 4,qe,qz,qz,qn,qn,.slice Av j cv,.slice A7 (j+1) c7,qz,qz,qe,qn]):=((ar (M:=fun _=>False) HEX.out).setCells _ 0 (.inr I)).ext;have hV:bZ (wr.setCells (w+1) 0 [.int .i64 4,qe,qz,qz,qn,qn,.slice Av j cv,.slice A7 (j+1) c7,qz,qz,qe,qn]) (New P w) (.slice Av vals cv) vals:=by rw [HN0.out];exact HV1.out.carry (aB.setCells hnew _ 0 (aB.of_ext HF.out)) (fun b _ h=>h.elim .inl (fun h=>.inr I))
     have hK:bL (wr.setCells (w+1) 0 [.int .i64 4,qe,qz,qz,qn,qn,.slice Av j cv,.slice A7 (j+1) c7,qz,qz,qe,qn]) (New P w) (.slice A7 kids c7) kids:=by
      have h1:bL wr (fun b=>w1.heap.size<=b) (.slice A7 (j+1) c7) kids:=bL.of_own (HOWN.out.len_cast HKL.out.symm rfl) HK64.out (by rw [HKL.out];omega) (fun b hb=>HOWN.out.block_ge hb);rw [HKL.out];exact h1.carry (aB.setCells I _ 0 (fun _ _ _=>rfl)) (fun b _ h=>.inr I)
     have hve:(Value.slice Av vals cv)=.slice Av j cv:=by rw [HN0.out]
     have hke:(Value.slice A7 kids c7)=.slice A7 (j+1) c7:=by rw [HKL.out]
     have hgen:((((((((((((wr).setCell (qp (w+1)) (.int .i64 4)).setCell (qt (w+1) 1) qe).setCell (qt (w+1) 2) qz).setCell (qt (w+1) 3) qz).setCell (qt (w+1) 4) qn).setCell (qt (w+1) 5) qn).setCell (qt (w+1) 6) (.slice Av j cv)).setCell (qt (w+1) 7) (.slice A7 (j+1) c7)).setCell (qt (w+1) 8) qz).setCell (qt (w+1) 9) qz).setCell (qt (w+1) 10) qe).setCell (qt (w+1) 11) qn=wr.setCells (w+1) 0 [.int .i64 4,qe,qz,qz,qn,qn,.slice Av j cv,.slice A7 (j+1) c7,qz,qz,qe,qn]:=rfl;rw [hgen];clear hgen;generalize wr.setCells (w+1) 0 [.int .i64 4,qe,qz,qz,qn,qn,.slice Av j cv,.slice A7 (j+1) c7,qz,qz,qe,qn]=WF at *;rw [<- hve] at z6;rw [<- hke] at z7;exact bodyPost_ret (v:=fE ⟨4,⟨#[]⟩,0,0,[],[],vals,kids,.mk 0 0 ⟨#[]⟩ []⟩ ⟨none,0,none,0,Av,cv,A7,c7,none,0⟩) (by simp [results,Tryz.results22,go_sem,GV.kind,GV.n,GV.s,GV.kids,z0,z1,z2,z3,z4,z5,z6,z7,z8,z9,z10,z11]) rfl ⟨_,_,rfl,⟨cu,dl,cu,cu,bL.nil,nS.nil,hV,hK,VAt.noKids cu cu dx⟩,⟨⟨U,U,by show vals.length<=_;rw [HN0.out];omega,by show kids.length<=_;rw [HKL.out];omega,eq,HVS.out⟩,⟨U,U,by show vals.length<=_;rw [HN0.out];omega,by show kids.length<=_;rw [HKL.out];omega,dl⟩,U⟩,U,hE⟩
  ·have hd:decide (6<(n0:Int))=true:=aYi I
   go_wp2_with (go_at_call 20;refine (HLF.out _).mono ?_;rintro e w2 ⟨y,Ay,cy,rfl,hy,hgy,hx2⟩;have R2:=HR1.out.ext hx2;have rc0:=R2.cell' (u:=qz) 0 rfl;have rc1:=R2.cell' (u:=qe) 1 rfl;have rc2:=R2.cell' (u:=qz) 2 rfl;have rc3:=R2.cell' (u:=qz) 3 rfl;have rc4:=R2.cell' (u:=qn) 4 rfl;have rc5:=R2.cell' (u:=qn) 5 rfl;have rc6:=R2.cell' (u:=qn) 6 rfl;have rc7:=R2.cell' (u:=qn) 7 rfl;have rc8:=R2.cell' (u:=qz) 8 rfl;have rc9:=R2.cell' (u:=qz) 9 rfl;have rc10:=R2.cell' (u:=qe) 10 rfl;have rc11:=R2.cell' (u:=qn) 11 rfl;have rf0:=R2.frozen 0;have rf1:=R2.frozen 1;have rf2:=R2.frozen 2;have rf3:=R2.frozen 3;have rf4:=R2.frozen 4;have rf5:=R2.frozen 5;have rf6:=R2.frozen 6;have rf7:=R2.frozen 7;have rf8:=R2.frozen 8;have rf9:=R2.frozen 9;have rf10:=R2.frozen 10;have rf11:=R2.frozen 11;have HR2:=aYf R2;have HX2:=aYf (HX1.out.trans' hx2);have HY:=aYf hy;clear R2 hx2 hy);have hfin:=aF [qz,qe,qz,qz,qn,qn,qn,qn,y.kind,y.n,y.s,.slice Ay y.kids cy] (w:=w2) (cs:=[qz,qe,qz,qz,qn,qn,qn,qn,qz,qz,qe,qn]) (g:=w.heap.size+1) (t:=60) 0 HR2.out U;simp only [List.take_zero,List.nil_append,ai,List.length_nil,Nat.zero_add,List.drop_succ_cons,List.drop_nil,List.append_nil] at hfin;have z0:=hfin.cell' (u:=qz) 0 rfl;have z1:=hfin.cell' (u:=qe) 1 rfl;have z2:=hfin.cell' (u:=qz) 2 rfl;have z3:=hfin.cell' (u:=qz) 3 rfl;have z4:=hfin.cell' (u:=qn) 4 rfl;have z5:=hfin.cell' (u:=qn) 5 rfl;have z6:=hfin.cell' (u:=qn) 6 rfl;have z7:=hfin.cell' (u:=qn) 7 rfl;have z8:=hfin.cell' (u:=↑y.kind) 8 rfl;have z9:=hfin.cell' (u:=↑y.n) 9 rfl;have z10:=hfin.cell' (u:=y.s) 10 rfl;have z11:=hfin.cell' (u:=.slice Ay y.kids cy) 11 rfl;have hE:Ext w (w2.setCells (w+1) 0 [qz,qe,qz,qz,qn,qn,qn,qn,y.kind,y.n,y.s,.slice Ay y.kids cy]):=((ar (M:=fun _=>False) HX2.out).setCells _ 0 (.inr I)).ext;have hV:VAt (w2.setCells (w+1) 0 [qz,qe,qz,qz,qn,qn,qn,qn,y.kind,y.n,y.s,.slice Ay y.kids cy]) (New P w) y Ay cy:=HY.out.carry (aB.setCells I _ 0 (fun _ _ _=>rfl)) (fun b _ h=>.inr I);have hgen:((((((((((((w2).setCell (qp (w+1)) qz).setCell (qt (w+1) 1) qe).setCell (qt (w+1) 2) qz).setCell (qt (w+1) 3) qz).setCell (qt (w+1) 4) qn).setCell (qt (w+1) 5) qn).setCell (qt (w+1) 6) qn).setCell (qt (w+1) 7) qn).setCell (qt (w+1) 8) (↑y.kind)).setCell (qt (w+1) 9) (↑y.n)).setCell (qt (w+1) 10) y.s).setCell (qt (w+1) 11) (.slice Ay y.kids cy)=w2.setCells (w+1) 0 [qz,qe,qz,qz,qn,qn,qn,qn,y.kind,y.n,y.s,.slice Ay y.kids cy]:=rfl;rw [hgen];clear hgen;generalize w2.setCells (w+1) 0 [qz,qe,qz,qz,qn,qn,qn,qn,y.kind,y.n,y.s,.slice Ay y.kids cy]=WF at *;exact bodyPost_ret (v:=fE ⟨0,⟨#[]⟩,0,0,[],[],[],[],y⟩ ⟨none,0,none,0,none,0,none,0,Ay,cy⟩) (by simp [results,Tryz.results22,go_sem,z0,z1,z2,z3,z4,z5,z6,z7,z8,z9,z10,z11]) rfl ⟨_,_,rfl,⟨cu,dl,cu,cu,bL.nil,nS.nil,bZ.nil,bL.nil,hV⟩,⟨⟨U,U,U,U,by show gsz y<=_;omega,U⟩,⟨U,U,U,U,dl⟩,U⟩,U,hE⟩
def zP (gx:Nat)(Pn:Nat->Prop)(w0 wx:World):Prop :=
 ∃ x a,Blk wx gx 60 (aN x a).toArray∧NAt wx (fun b=>Pn b∧b<wx∧b ≠ gx) x a∧nz x∧(x.kind=3->x.kids.length<=4)∧Ext w0 wx
structure oH (gx B:Nat)(kind:Int)(name:ByteArray)(wv lv kv:Value)(ws:List Int)(ls:List ByteArray)(ks:List Int)(w0 w:World):Prop where
 box:Blk w gx 60 #[↑kind,name,qz,qz,wv,lv,qn,kv,qz,qz,qe,qn]
 wo:w.ownsRow B 3 1 wv ws (ws.map (Value.int .i64))
 lo:w.ownsRow B 9 1 lv ls (ls.map Value.string)
 ko:w.ownsRow B 3 1 kv ks (ks.map (Value.int .i64))
 wl:wv.ownBlock=none∨wv.ownBlock ≠ lv.ownBlock
 wk:wv.ownBlock=none∨wv.ownBlock ≠ kv.ownBlock
 lk:lv.ownBlock=none∨lv.ownBlock ≠ kv.ownBlock
 gw:some gx ≠ wv.ownBlock
 gl:some gx ≠ lv.ownBlock
 gk:some gx ≠ kv.ownBlock
 w64:∀ z ∈ ws,I64 z
 k64:∀ z ∈ ks,I64 z
 l1:∀ s ∈ ls,s.size<=100
 ext:Ext w0 w
 B0:w0<=B
theorem iR {M:Nat->Prop}{w w':World}{base:Nat}{e:TypeId}{size:Nat}{v:Value}{n:Nat}{xs:List Value}(h:w.ownsRow base e size v n xs)(hf:Fr M w w')(hn:∀ b,v.ownBlock=some b->¬ M b):w'.ownsRow base e size v n xs:=by
 refine ⟨h.1,?_⟩;rcases h.2 with h3 | ⟨G,cap,cur,h4,h5,h6,h7⟩
 ·exact .inl h3
 ·exact .inr ⟨G,cap,cur,h4,h5,(hf.block G (Blk.lt (t:=e) h6) (hn G (by rw [h4];rfl))).trans h6,h7⟩
section
variable {gx B:Nat}{kind:Int}{name:ByteArray}{wv lv kv:Value}{ws:List Int}{ls:List ByteArray}{ks:List Int}{w0 w w1 w5:World}
theorem oH.ext_ (h:oH gx B kind name wv lv kv ws ls ks w0 w)(hx:Ext w w1):oH gx B kind name wv lv kv ws ls ks w0 w1 :=
 ⟨h.box.ext hx,h.wo.ext_ hx,h.lo.ext_ hx,h.ko.ext_ hx,h.wl,h.wk,h.lk,h.gw,h.gl,h.gk,h.w64,h.k64,h.l1,h.ext.trans' hx,h.B0⟩
theorem oH.gB (h:oH gx B kind name wv lv kv ws ls ks w0 w):∀ {b:Nat},wv.ownBlock=some b∨lv.ownBlock=some b∨kv.ownBlock=some b->B<=b∧b<w:=by
 intro b hb;rcases hb with hb | hb | hb
 ·exact ⟨h.wo.block_ge hb,h.wo.block_lt hb⟩
 ·exact ⟨h.lo.block_ge hb,h.lo.block_lt hb⟩
 ·exact ⟨h.ko.block_ge hb,h.ko.block_lt hb⟩
theorem oH.kid (h:oH gx B kind name wv lv kv ws ls ks w0 w){z:Int}(hz:I64 z){v5:Value}(hg:w0<=gx)(ho:w5.ownsRow B 3 1 v5 (ks+1) (ks.map (Value.int .i64) ++ [.int .i64 z]))(hf:Fr (fun k=>some k=kv.ownBlock) w w5)(hb:v5.ownBlock=kv.ownBlock∨∃ b,v5.ownBlock=some b∧w<=b) :
  oH gx B kind name wv lv v5 ws ls (ks ++ [z]) w0 (w5.setCell (qt gx 7) v5):=by
 have hgx:=h.box.lt
 have g5:some gx ≠ v5.ownBlock:=by
  rcases hb with e | ⟨b,e,hl⟩
  ·rw [e];exact h.gk
  ·rw [e];intro e';injection e' with e';omega
 have hne:∀ {v:Value},(v.ownBlock=none∨v.ownBlock ≠ kv.ownBlock)->(∀ b,v.ownBlock=some b->b<w)->(v.ownBlock=none∨v.ownBlock ≠ v5.ownBlock):=by
  intro v h1 h2;rcases h1 with h1 | h1
  ·exact .inl h1
  ·refine .inr (fun e=>?_)
   rcases hb with e5 | ⟨b,e5,hl⟩
   ·exact h1 (e.trans e5)
   ·have:=h2 b (e.trans e5);omega
 have hoth:∀ {v:Value},(v.ownBlock=none∨v.ownBlock ≠ kv.ownBlock)->∀ b,v.ownBlock=some b->¬ (some b=kv.ownBlock):=by
  intro v h1 b hb e;rcases h1 with h1 | h1
  ·rw [h1] at hb;cases hb
  ·exact h1 (hb.trans e)
 refine ⟨(h.box.fr hf (fun e=>h.gk e)).set_ 7 v5,fA (iR h.wo hf (hoth h.wk)) h.gw _,fA (iR h.lo hf (hoth h.lk)) h.gl _,fA (ho.len_cast U U) g5 _,h.wl,hne h.wk (fun b hb=>(h.gB (.inl hb)).2),hne h.lk (fun b hb=>(h.gB (.inr (.inl hb))).2),h.gw,h.gl,g5,h.w64,?_,h.l1,?_,h.B0⟩
 ·intro y hy
  rcases ap.1 hy with hy | hy
  ·exact h.k64 y hy
  ·simp only [List.mem_singleton] at hy;subst hy;exact hz
 ·have h1:Fr (fun k=>w0.heap.size<=k) w0 w5:=(ar h.ext).trans (hf.mono (fun b hb=>by have:=h.gB (.inr (.inr hb.symm));have:=h.B0;omega))
  exact (h1.setCell (p:=qt gx 7) (.inl hg) _).new_ext (fun _ h=>h)
theorem oH.weight (h:oH gx B kind name wv lv kv ws ls ks w0 w){z:Int}(hz:I64 z){v5:Value}(hg:w0<=gx)(ho:w5.ownsRow B 3 1 v5 (ws+1) (ws.map (Value.int .i64) ++ [.int .i64 z]))(hf:Fr (fun k=>some k=wv.ownBlock) w w5)(hb:v5.ownBlock=wv.ownBlock∨∃ b,v5.ownBlock=some b∧w<=b) :
  oH gx B kind name v5 lv kv (ws ++ [z]) ls ks w0 (w5.setCell (qt gx 4) v5):=by
 have hgx:=h.box.lt
 have g5:some gx ≠ v5.ownBlock:=by
  rcases hb with e | ⟨b,e,hl⟩
  ·rw [e];exact h.gw
  ·rw [e];intro e';injection e' with e';omega
 have hne:∀ {v:Value},(wv.ownBlock=none∨wv.ownBlock ≠ v.ownBlock)->(∀ b,v.ownBlock=some b->b<w)->(v5.ownBlock=none∨v5.ownBlock ≠ v.ownBlock):=by
  intro v h1 h2;rcases hb with e5 | ⟨b,e5,hl⟩
  ·rw [e5];exact h1
  ·refine .inr (fun e=>?_)
   have:=h2 b (e.symm.trans e5);omega
 have hoth:∀ {v:Value},(wv.ownBlock=none∨wv.ownBlock ≠ v.ownBlock)->∀ b,v.ownBlock=some b->¬ (some b=wv.ownBlock):=by
  intro v h1 b hb e;rcases h1 with h1 | h1
  ·rw [h1] at e;cases e
  ·exact h1 (e.symm.trans hb.symm)
 refine ⟨(h.box.fr hf (fun e=>h.gw e)).set_ 4 v5,fA (ho.len_cast U U) g5 _,fA (iR h.lo hf (hoth h.wl)) h.gl _,fA (iR h.ko hf (hoth h.wk)) h.gk _,hne h.wl (fun b hb=>(h.gB (.inr (.inl hb))).2),hne h.wk (fun b hb=>(h.gB (.inr (.inr hb))).2),h.lk,g5,h.gl,h.gk,?_,h.k64,h.l1,?_,h.B0⟩
 ·intro y hy
  rcases ap.1 hy with hy | hy
  ·exact h.w64 y hy
  ·simp only [List.mem_singleton] at hy;subst hy;exact hz
 ·have h1:Fr (fun k=>w0.heap.size<=k) w0 w5:=(ar h.ext).trans (hf.mono (fun b hb=>by have:=h.gB (.inl hb.symm);have:=h.B0;omega))
  exact (h1.setCell (p:=qt gx 4) (.inl hg) _).new_ext (fun _ h=>h)
theorem oH.label (h:oH gx B kind name wv lv kv ws ls ks w0 w){z:ByteArray}(hz:z.size<=100){v5:Value}(hg:w0<=gx)(ho:w5.ownsRow B 9 1 v5 (ls+1) (ls.map Value.string ++ [.string z]))(hf:Fr (fun k=>some k=lv.ownBlock) w w5)(hb:v5.ownBlock=lv.ownBlock∨∃ b,v5.ownBlock=some b∧w<=b) :
  oH gx B kind name wv v5 kv ws (ls ++ [z]) ks w0 (w5.setCell (qt gx 5) v5):=by
 have hgx:=h.box.lt
 have g5:some gx ≠ v5.ownBlock:=by
  rcases hb with e | ⟨b,e,hl⟩
  ·rw [e];exact h.gl
  ·rw [e];intro e';injection e' with e';omega
 have n1:wv.ownBlock=none∨wv.ownBlock ≠ v5.ownBlock:=by
  rcases hb with e5 | ⟨b,e5,hl⟩
  ·rw [e5];exact h.wl
  ·exact .inr (fun e=>by have:=(h.gB (.inl (e.trans e5))).2;omega)
 have n2:v5.ownBlock=none∨v5.ownBlock ≠ kv.ownBlock:=by
  rcases hb with e5 | ⟨b,e5,hl⟩
  ·rw [e5];exact h.lk
  ·exact .inr (fun e=>by have:=(h.gB (.inr (.inr (e.symm.trans e5)))).2;omega)
 have o1:∀ b,wv.ownBlock=some b->¬ (some b=lv.ownBlock):=fun b hb e=>by
  rcases h.wl with h1 | h1
  ·rw [h1] at hb;cases hb
  ·exact h1 (hb.trans e)
 have o2:∀ b,kv.ownBlock=some b->¬ (some b=lv.ownBlock):=fun b hb e=>by
  rcases h.lk with h1 | h1
  ·rw [h1] at e;cases e
  ·exact h1 (e.symm.trans hb.symm)
 refine ⟨(h.box.fr hf (fun e=>h.gl e)).set_ 5 v5,fA (iR h.wo hf o1) h.gw _,fA (ho.len_cast U U) g5 _,fA (iR h.ko hf o2) h.gk _,n1,h.wk,n2,h.gw,g5,h.gk,h.w64,h.k64,?_,?_,h.B0⟩
 ·intro y hy
  rcases ap.1 hy with hy | hy
  ·exact h.l1 y hy
  ·simp only [List.mem_singleton] at hy;subst hy;exact hz
 ·have h1:Fr (fun k=>w0.heap.size<=k) w0 w5:=(ar h.ext).trans (hf.mono (fun b hb=>by have:=h.gB (.inr (.inl hb.symm));have:=h.B0;omega))
  exact (h1.setCell (p:=qt gx 5) (.inl hg) _).new_ext (fun _ h=>h)
theorem oH.node (h:oH gx B kind name wv lv kv ws ls ks w0 w){Pn:Nat->Prop}(hP:∀ b,B<=b->Pn b)(hk:I64 kind)(hn:name.size<=100)(h1:ws.length<=100)(h2:ls.length<=100)(h3:ks.length<=100)(h4:kind=3->ks.length<=4):zP gx Pn w0 w:=by
 obtain ⟨Aw,cw,ew,-,-,-⟩:=Sl.of_own h.wo;obtain ⟨Al,cl,el,-,-,-⟩:=Sl.of_own h.lo;obtain ⟨Ak,ck,ek,-,-,-⟩:=Sl.of_own h.ko;have hw:bL w (fun b=>Pn b∧b<w∧b ≠ gx) wv ws:=bL.of_own h.wo h.w64 I (fun b hb=>⟨hP b (h.gB (.inl hb)).1,(h.gB (.inl hb)).2,fun e=>h.gw (by rw [hb,e])⟩);have hkk:bL w (fun b=>Pn b∧b<w∧b ≠ gx) kv ks:=bL.of_own h.ko h.k64 I (fun b hb=>⟨hP b (h.gB (.inr (.inr hb))).1,(h.gB (.inr (.inr hb))).2,fun e=>h.gk (by rw [hb,e])⟩)
 have hl:nS w (fun b=>Pn b∧b<w∧b ≠ gx) lv ls:=Lst.of_own h.lo (by
  have:∀ (m:List ByteArray),(∀ s ∈ m,s.size<=100)->RL lj m (m.map Value.string):=by
   intro m
   induction m with
   | nil=>intro _;simp [RL]
   | cons s m ih =>
    intro hm;exact ⟨[.string s],m.map Value.string,rfl,⟨by have:=hm s U;omega,rfl⟩,ih (fun y hy=>hm y dh)⟩
  exact this ls h.l1) I (fun b hb=>⟨hP b (h.gB (.inr (.inl hb))).1,(h.gB (.inr (.inl hb))).2,fun e=>h.gl (by rw [hb,e])⟩)
 have hbx:=h.box;subst ew el ek;refine ⟨⟨kind,name,0,0,ws,ls,[],ks,.mk 0 0 ⟨#[]⟩ []⟩,⟨Aw,cw,Al,cl,none,0,Ak,ck,none,0⟩,hbx,⟨hk,by show name.size<=_;omega,cu,cu,hw,hl,bZ.nil,hkk,VAt.noKids cu cu dx⟩,⟨⟨by show ws.length<=_;omega,by show ls.length<=_;omega,U,by show ks.length<=_;omega,eq,U⟩,⟨h1,h2,U,h3,hn⟩,h.l1⟩,h4,h.ext⟩
end
def kq (B:Nat)(w:World)(v:Value):Nat->Prop:=fun b=>B<=b∧b<w.heap.size∧some b ≠ v.ownBlock
def rU (w:World)(e:Ending)(w':World):Prop:=∃ A c t,e=.returned (.agg #[.slice A t.length c])∧Nds w' (fun b=>w.heap.size<=b∧b<w'.heap.size) (.slice A t.length c) t∧fG t∧t.length<=14∧Ext w w'
def lR (n:Nat)(g3:Nat)(W:World)(iv:Value)(wr:World):Prop :=
 ∃ (i:Nat) (t:List GN) (v:Value) (xs:List Value),i<=n∧iv=↑i∧t=i∧fG t∧Blk wr g3 25 #[v]∧wr.ownsRow W 60 12 v i xs∧RL (RN wr (kq W wr v)) t xs∧Fr (fun b=>b=g3) W wr
theorem Jc {gx B:Nat}{w0 wx:World}{y:GV}{Ay:Option Addr}{cy:Nat}(hb:Blk wx gx 60 #[qz,qe,qz,qz,qn,qn,qn,qn,y.kind,y.n,y.s,.slice Ay y.kids cy])(hE:Ext w0 wx)(hg:gsz y<=2)(_:B<=w0)(hy:VAt wx (fun b=>B<=b∧b<wx.heap.size∧b ≠ gx) y Ay cy):zP gx (fun b=>B<=b) w0 wx :=
 ⟨⟨0,⟨#[]⟩,0,0,[],[],[],[],y⟩,⟨none,0,none,0,none,0,none,0,Ay,cy⟩,hb,⟨cu,dl,cu,cu,bL.nil,nS.nil,bZ.nil,bL.nil,hy⟩,⟨⟨U,U,U,U,by show gsz y<=_;omega,U⟩,⟨U,U,U,U,dl⟩,U⟩,U,hE⟩
theorem RN.one {w:World}{P:Nat->Prop}:∀ {l:List GN}{xs:List Value},RL (RN w P) l xs->∀ u ∈ xs,u.oneCell'=true
 | [],xs,h,u,hu=>by simp only [RL] at h;subst h;simp at hu
 | x :: l,xs,h,u,hu=>by
  obtain ⟨c1,c2,rfl,⟨a,rfl,-⟩,h2⟩:=h;rcases ap.1 hu with hu | hu
  ·simp only [aN,ao,List.not_mem_nil,or_false] at hu
   rcases hu with rfl | rfl | rfl | rfl | rfl | rfl | rfl | rfl | rfl | rfl | rfl | rfl <;> rfl
  ·exact RN.one h2 u hu
section
variable {n g3 i m:Nat}{W wo w6 w9:World}{t:List GN}{x:GN}{a:NA}{v v2:Value}{xs:List Value}
theorem Jo (hi:i<n)(htl:t=i)(hg3:g3<W)(hF:Fr (fun b=>b=g3) W wo)(hE:Ext wo w6)(hB:Blk w6 g3 25 #[v])(ho:w6.ownsRow W 60 12 v2 (i+1) (xs ++ aN x a))(hv2:∀ b,v2.ownBlock=some b->m<=b)
  (hr:RL (RN wo (kq W wo v)) t xs)(hmo:wo<=m)(hm6:m<=w6)(hx:NAt w6 (fun b=>W.heap.size<=b∧b<m) x a)(hgen:fG (t ++ [x])):lR n g3 W (.int .i64 ((i:Int)+1)) (w6.setCell (qp g3) v2):=by
 have hne:some g3 ≠ v2.ownBlock:=fun e=>by have:=ho.block_ge e.symm;omega
 have hks:∀ (Q:Nat->Prop) (w1:World),(¬ Q g3)->aB Q w1 w6->aB Q w1 (w6.setCell (qp g3) v2):=fun Q w1 hq hk=>hk.set (p:=qp g3) _ hq
 have hsz:(w6.setCell (qp g3) v2).heap.size=w6:=ic;refine ⟨i+1,t ++ [x],v2,xs ++ aN x a,I,by go_num,by rw [aa,htl];rfl,hgen,hB.set_ 0 v2,fA ho hne _,?_,?_⟩
 ·refine (hr.move qY (hks _ _ (fun h=>by have:=h.1;omega) (aB.of_ext hE)) (fun b hb h=>⟨h.1,by rw [hsz];have:=hE.size;omega,fun e=>by have:=hv2 b e.symm;omega⟩)).append (RL.one ⟨a,rfl,hx.carry (hks _ _ (fun h=>by omega) (fun _ _ _=>rfl)) (fun b hb h=>⟨h.1,by rw [hsz];omega,fun e=>by have:=hv2 b e.symm;omega⟩)⟩)
 ·exact (hF.trans (ar hE)).setCell (p:=qp g3) (.inl rfl) _
theorem I5 {z:Int}(hz:0<=z∧z<5)(hi:i<n)(hn:n<=14)(htl:t=i)(hg3:g3<W)(hF:Fr (fun b=>b=g3) W wo)(hE:Ext wo w6)(hB:Blk w6 g3 25 #[v])(ho:wo.ownsRow W 60 12 v i xs)(ho9:w9.ownsRow W 60 12 v2 (i+1) (xs ++ aN (bN z) ⟨none,0,none,0,none,0,none,0,none,0⟩))(hf9:Fr (fun k=>some k=v.ownBlock) w6 w9)(hv2:v2.ownBlock=v.ownBlock∨∃ b,v2.ownBlock=some b∧w6<=b)
  (hr:RL (RN wo (kq W wo v)) t xs)(hgen:fG t):lR n g3 W (.int .i64 ((i:Int)+1)) (w9.setCell (qp g3) v2):=by
 have hne:some g3 ≠ v2.ownBlock:=fun e=>by have:=ho9.block_ge e.symm;omega
 have hne0:¬ some g3=v.ownBlock:=fun e=>by have:=ho.block_ge e.symm;omega
 have hsz:(w9.setCell (qp g3) v2).heap.size=w9:=ic;have hs6:=hE.size;have hs9:=hf9.size;have hgen2:=hgen.leaf I z
 have hoff:∀ b,b<wo.heap.size->some b ≠ v.ownBlock->some b ≠ v2.ownBlock:=fun b hb h=>by
  rcases hv2 with e | ⟨b',e,hl⟩
  ·rw [e];exact h
  ·rw [e];intro e';injection e' with e';omega
 refine ⟨i+1,t ++ [bN z],v2,_,I,by go_num,by rw [aa,htl];rfl,hgen2,(hB.fr hf9 hne0).set_ 0 v2,fA ho9 hne _,?_,?_⟩
 ·refine (hr.move qY (w':=w9.setCell (qp g3) v2) ?_ (fun b hb h=>⟨h.1,by rw [hsz];omega,hoff b hb h.2.2⟩)).append (RL.one ⟨_,rfl,⟨by simp [bN,I64],fe,by simp [bN,I64],by simp [bN,I64],bL.nil,nS.nil,bZ.nil,bL.nil,VAt.noKids cu dg dx⟩⟩)
  have hk:aB (kq W wo v) wo w9:=fun b hb h=>(hf9.block b I (fun e=>h.2.2 e)).trans (hE.block b hb)
  exact hk.set (p:=qp g3) _ (fun (h:kq W wo v g3)=>by have:=h.1;omega)
 ·have h1:Fr (fun b=>b=g3) W w9:=by
   refine Fr.trans_new (hF.trans (ar hE)) (hf9.mono (fun b hb=>.inr ?_));exact ho.block_ge hb.symm
  exact h1.setCell (p:=qp g3) (.inl rfl) _
end
theorem oH.start {gx B:Nat}{kind:Int}{name:ByteArray}{w0 w:World}(hb:Blk w gx 60 #[↑kind,name,qz,qz,qn,qn,qn,qn,qz,qz,qe,qn])(hE:Ext w0 w)(hB:w0<=B):oH gx B kind name qn qn qn [] [] [] w0 w :=
 ⟨hb,aT _ _ _ _,aT _ _ _ _,aT _ _ _ _,.inl rfl,.inl rfl,.inl rfl,dr,dr,dr,U,U,U,hE,hB⟩
