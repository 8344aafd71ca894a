/- Contracts of functions. Conditions: none. -/
import Derived.Test.YtkoeecdjijfjnaaGreatYB
set_option maxRecDepth 100000
set_option maxHeartbeats 8000000
namespace Go.Proofs.YtkoeecdjijfjnaaGreat
open Go.RowKit
theorem pE {w:World}{base:Nat}{v:Value}{n:Nat}{l:List Int}(h:w.ownsRow base 3 1 v n (l.map (Value.int .i64))){j:Nat}(hj:j<n) :
  ∃ b c,v=.slice (some ⟨b,0,none⟩) n c∧n<=c∧c<=9223372036854775807∧w.cell? ⟨b,j,none⟩=some (.int .i64 (l.getD j 0)):=by
 have hl:=h.1;rcases h.2 with ⟨rfl,h0⟩ | ⟨g,cap,cur,rfl,hg,hh,hn,hm,hs,ht⟩
 ·omega
 ·refine ⟨g,cap,rfl,hn,by unfold maxLen at hm;omega,?_⟩
  have hb:Blk w g 3 cur:=hh;rw [hb.cell];have hjl:j<l.length:=by simp at hl;omega
  have h1:(List.take (n*1) cur.toList)[j]?=some (.int .i64 (l.getD j 0)):=by rw [ht];simp [hjl]
  rw [List.getElem?_take] at h1
  split at h1
  ·simpa using h1
  ·cases h1
theorem uO {β:Type}{f:List β->GN->β}{Q:β->Prop}(hf:∀ acc x,(∀ z ∈ acc,Q z)->Q (f acc x)):∀ (l:List GN)(acc:List β),(∀ z ∈ acc,Q z)->∀ z ∈ jF f acc l,Q z
 | [],_,h=>h
 | x :: xs,acc,h=>by
  simp only [jF];refine uO hf xs _ ?_;intro z hz;rcases List.mem_append.1 hz with hz | hz
  ·exact h z hz
  ·rw [List.mem_singleton.1 hz];exact hf acc x h
theorem oM (n:Int):I64 (wrap64 n):=by
 unfold wrap64 I64;have:=Int.emod_nonneg (n+9223372036854775808) (show (18446744073709551616:Int) ≠ 0 by decide);have:=Int.emod_lt_of_pos (n+9223372036854775808) (show (0:Int)<18446744073709551616 by decide);omega
theorem mN:I64 0:=ak
theorem jU (before:List Int):∀ (zs:List Int)(s:Int),I64 s->I64 (dG before s zs)
 | [],_,h=>h
 | z :: zs,s,_=>by simp only [dG];exact jU before zs _ (oM _)
theorem kE (before:List Int)(hb:∀ z ∈ before,I64 z)(ch:Bool):∀ (zs:List Int)(i:Nat)(m:Int),I64 m->I64 (aW before ch i m zs)
 | [],_,_,h=>h
 | z :: zs,i,m,h=>by
  simp only [aW];refine kE before hb ch zs _ _ ?_
  split
  ·split
   ·exact aBm hb _
   ·exact h
  ·exact h
theorem aAd:∀ (l:List GV)(n:Int),I64 n->I64 (xQ n l)
 | [],_,h=>by rw [fD];exact h
 | x :: xs,n,_=>by rw [gD];exact aAd xs _ (oM _)
theorem sZ (x:GV):I64 (rsz x):=by rw [nJ];exact aAd _ _ ak
theorem aG6 (t:List GN):∀ z ∈ aM t,I64 z:=by
 refine uO (fun acc x h=>?_) t [] Y;unfold gO
 split
 ·exact mN
 ·split
  ·simp [I64]
  ·split
   ·exact jU _ _ _ mN
   ·split
    ·exact oM _
    ·exact oM _
theorem aDg (t:List GN):∀ z ∈ bK t,I64 z:=by
 refine uO (fun acc x h=>?_) t [] Y;unfold jH
 split
 ·exact sZ _
 ·split
  ·simp [I64]
  ·split
   ·exact jU _ _ _ ak
   ·exact kE _ h _ _ _ _ mN
theorem wC {w w':World}{M:Nat->Prop}{base:Nat}{e:TypeId}{size:Nat}{v:Value}{n:Nat}{xs:List Value}(h:w.ownsRow base e size v n xs)(hf:Fr M w w')(hm:∀ b,v.ownBlock=some b->¬ M b):w'.ownsRow base e size v n xs:=by
 refine ⟨h.1,?_⟩;rcases h.2 with h | ⟨g,cap,cur,rfl,h2,h3,h4⟩
 ·exact .inl h
 ·exact .inr ⟨g,cap,cur,rfl,h2,Blk.fr (t:=e) h3 hf (hm g rfl),h4⟩
def aQf (t:List GN)(W:World)(v3 v4 i:Value)(wr:World):Prop :=
 ∃ k:Nat,k<=t.length∧i=↑k∧wr.ownsRow W.heap.size 3 1 v3 k ((aM (t.take k)).map (Value.int .i64))∧wr.ownsRow W.heap.size 3 1 v4 k ((bK (t.take k)).map (Value.int .i64)) ∧
  (∀ b,v3.ownBlock=some b->v4.ownBlock ≠ some b)∧Ext W wr∧bD t k∧cC t=cZ t k (t.length - k)
theorem mI {β:Type}(f:List β->GN->β)(d:β)(t:List GN){k:Nat}(hk:k<t.length):(jF f [] (t.take (k+1))).getD k d=(jF f [] t).getD k d:=by
 rw [gJ _ _ _ U];simp [List.getD]
theorem jS (t:List GN)(P:Nat->Prop)(vn:Value)(w:World)(ht:Nds w P vn t)(hvl:∀ x ∈ t,x.values.length<=1000000) :
  Calls Tryz.prog 22 #[.agg #[vn]] w (dV (.int .i64 (cC t)) w):=by
 have HT:=aYl ht;have HVL:=aYl hvl;obtain ⟨An,cn,en,hn1,hn2⟩:=ht.form;subst en;clear ht hvl
 by_cases hbig:4096<t.length
 ·have HV:=aYl (show cC t=4 by unfold cC;rw [if_pos hbig])
  go_enter Tryz.func22,Tryz.ntmps22;go_wp2_with fail;go_ret;exact ⟨aH HV.out.symm,(Ext.refl w).alloc' _⟩
 have HV:=aYl (show cC t=cZ t 0 t.length by unfold cC;rw [if_neg hbig]);have hsm:t.length<=4096:=by omega
 go_enter Tryz.func22,Tryz.ntmps22;go_wp2_with fail;have HE:=aYl (show Ext w (w.alloc (.cells #[.slice An t.length cn] 25)) from (Ext.refl w).alloc' _);have HBX:=aYl (Blk.new w 25 #[.slice An t.length cn]);generalize hW:w.alloc (.cells #[.slice An t.length cn] 25)=W at *;clear hW;go_loopw [3,4,5] (fun v3 v4 i wr=>aQf t W v3 v4 i wr) (fun _ _ i _=>t.length - (intOf i).toNat)
 case atStart=>exact ⟨0,Nat.zero_le _,rfl,aN _ _ _ _,aN _ _ _ _,fun b h=>by simp [Value.ownBlock] at h,Ext.refl _,⟨Nat.zero_le _,hsm,fun j hj=>by omega⟩,HV.out⟩
 case round =>
  obtain ⟨k,hk,rfl,ho3,ho4,hne,hx,hgd,hvf⟩:=hrel;have HO3:=aYl ho3;have HO4:=aYl ho4;have HNE:=aYl hne;have HX:=aYl hx;have HGD:=aYl hgd;have HVF:=aYl hvf;have b0:=(HBX.out.ext hx).cell' (u:=.slice An t.length cn) 0 rfl;have hsz:=hx.size;have hsw:=HE.out.size;clear ho3 ho4 hne hx hgd hvf
  by_cases hlt:k<t.length
  ·obtain ⟨b1,o1,a1,rfl,-,ha1,hc1⟩:=(HT.out.carry (Q:=fun b=>b<w.heap.size) (aB.of_ext (HE.out.trans' HX.out)) (fun b hb _=>hb)).get hlt
   have HVX:=aYl (HVL.out _ (aF (d:=default) hlt))
   have HCK:=aYl (show cC t=if cS t k=0 then cZ t (k+1) (t.length - (k+1)) else cS t k by
    rw [HVF.out,show t.length - k=(t.length - (k+1))+1 by omega];rfl)
   have HCR:=aYl (show cS t k=_ from by rw [cS]);have HLS:=aYl (show aM (t.take (k+1))=aM (t.take k) ++ [gO (aM (t.take k)) (t.getD k default)] by unfold aM;rw [aX default hlt,iJ]);have HSS:=aYl (show bK (t.take (k+1))=bK (t.take k) ++ [jH (bK (t.take k)) (t.getD k default)] by unfold bK;rw [aX default hlt,iJ]);have HLG:=aYl (show (aM (t.take (k+1))).getD k 0=(aM t).getD k 0 from mI _ _ _ hlt);have HSG:=aYl (show (bK (t.take (k+1))).getD k 0=(bK t).getD k 0 from mI _ _ _ hlt);have HA1:=aYl ha1;have HC1:=aYl hc1;have c0:=hc1.c0;have c1:=hc1.c1;have c2:=hc1.c2;have c3:=hc1.c3;have c4:=hc1.c4;have c5:=hc1.c5;have c6:=hc1.c6;have c7:=hc1.c7;have c8:=hc1.c8;have c9:=hc1.c9;have c10:=hc1.c10;have c11:=hc1.c11;clear hc1 ha1;generalize hgx:t.getD k default=x at *;have HGX:=aYl hgx;clear hgx;have hll:(aM (t.take k)).length=k:=by unfold aM;rw [eH];simp;omega
   have hsl:(bK (t.take k)).length=k:=by unfold bK;rw [eH];simp;omega
   have HLL:=aYl hll;have HSL:=aYl hsl;clear hll hsl;go_wp2_with fail;refine (aG1 k x a1 _ _ (HA1.out.ext ((Ext.refl wr).alloc' _)) HVX.out).mono ?_;rintro e w1 ⟨rfl,hx1⟩;have HX1:=aYl (((Ext.refl wr).alloc' (.cells (aL x a1).toArray 87)).trans' hx1);have BX:=aYl ((Blk.new wr 87 (aL x a1).toArray).ext hx1);clear hx1 c0 c1 c2 c3 c4 c5 c6 c7 c8 c9 c10 c11;have x0:=BX.out.cell' (u:=↑x.kind) 0 rfl;have x1:=BX.out.cell' (u:=.string x.name) 1 rfl;have x2:=BX.out.cell' (u:=↑x.lo) 2 rfl;have x3:=BX.out.cell' (u:=↑x.hi) 3 rfl;have x4:=BX.out.cell' (u:=.slice a1.wA x.weights.length a1.wc) 4 rfl;have x5:=BX.out.cell' (u:=.slice a1.lA x.labels.length a1.lc) 5 rfl;have x6:=BX.out.cell' (u:=.slice a1.vA x.values.length a1.vc) 6 rfl;have x7:=BX.out.cell' (u:=.slice a1.kA x.kids.length a1.kc) 7 rfl;have x8:=BX.out.cell' (u:=↑x.value.kind) 8 rfl;have x9:=BX.out.cell' (u:=↑x.value.n) 9 rfl;have x10:=BX.out.cell' (u:=.string x.value.s) 10 rfl;have x11:=BX.out.cell' (u:=.slice a1.xA x.value.kids.length a1.xc) 11 rfl;have hs1:=HX1.out.size
   by_cases hz:gV k x=0
   ·have HZ:=aYl hz
    have tz:(gV k x != 0)=false:=ct
    have HOK:=aYl (kD.1 hz);clear hz;go_wp2_with fail;refine (yX (aM (t.take k)) x a1 _ W.heap.size u3 _ (HA1.out.ext HX1.out) ((HO3.out.ext_ HX1.out).len_cast HLL.out.symm rfl) U (by rw [HLL.out];omega) (aG6 _) (by rw [HLL.out];exact HOK.out)).mono ?_;rintro e w2 ⟨v3,rfl,hp3,hf2,hq3⟩;have hB:∀ b,b<W.heap.size->¬ some b=u3.ownBlock:=fun b hb e=>by have:=HO3.out.block_ge e.symm;omega
    have HF2:=aYl hf2;have BX2:=aYl (BX.out.fr hf2 (fun e=>by have:=HO3.out.block_lt e.symm;omega));have HP3:=aYl hp3;have hs2:=hf2.size;have HA2:=aYl ((HA1.out.ext HX1.out).carry (Q:=fun b=>b<w.heap.size) (fun b hb h=>hf2.block b hb (hB b U)) (fun _ _ h=>h));have HO42:=aYl (wC (HO4.out.ext_ HX1.out) hf2 (fun b h e=>HNE.out b e.symm h))
    have HQ3:=aYl (show ∀ b,v3.ownBlock=some b->¬ some b=u4.ownBlock from by
     intro b hb e;rcases hq3 with h | ⟨b',h,hb'⟩
     ·rw [h] at hb;exact HNE.out b hb e.symm
     ·rw [hb] at h;injection h with h;have:=HO4.out.block_lt e.symm;omega)
    have HB2:=aYl (show Ext W w2 from Fr.new_ext ((Fr.of_ext (HX.out.trans' HX1.out)).trans hf2) (fun b hb=>HO3.out.block_ge hb.symm));clear hp3 hf2 hq3 hB x0 x1 x2 x3 x4 x5 x6 x7 x8 x9 x10 x11;have x0:=BX2.out.cell' (u:=↑x.kind) 0 rfl;have x1:=BX2.out.cell' (u:=.string x.name) 1 rfl;have x2:=BX2.out.cell' (u:=↑x.lo) 2 rfl;have x3:=BX2.out.cell' (u:=↑x.hi) 3 rfl;have x4:=BX2.out.cell' (u:=.slice a1.wA x.weights.length a1.wc) 4 rfl;have x5:=BX2.out.cell' (u:=.slice a1.lA x.labels.length a1.lc) 5 rfl;have x6:=BX2.out.cell' (u:=.slice a1.vA x.values.length a1.vc) 6 rfl;have x7:=BX2.out.cell' (u:=.slice a1.kA x.kids.length a1.kc) 7 rfl;have x8:=BX2.out.cell' (u:=↑x.value.kind) 8 rfl;have x9:=BX2.out.cell' (u:=↑x.value.n) 9 rfl;have x10:=BX2.out.cell' (u:=.string x.value.s) 10 rfl;have x11:=BX2.out.cell' (u:=.slice a1.xA x.value.kids.length a1.xc) 11 rfl;go_wp2_with fail;refine (aDf (bK (t.take k)) x a1 _ W.heap.size u4 _ HA2.out (HO42.out.len_cast HSL.out.symm rfl) U (by rw [HSL.out];omega) (aDg _) (by rw [HSL.out];exact HOK.out)).mono ?_;rintro e w3 ⟨v4,rfl,hp4,hf3,hq4⟩;have BX3:=aYl (BX2.out.fr hf3 (fun e=>by have:=HO4.out.block_lt e.symm;omega))
    have hs3:=hf3.size;have hB:∀ b,b<W.heap.size->¬ some b=u4.ownBlock:=fun b hb e=>by have:=HO4.out.block_ge e.symm;omega
    have HA3:=aYl (HA2.out.carry (Q:=fun b=>b<w.heap.size) (fun b hb h=>hf3.block b hb (hB b U)) (fun _ _ h=>h));have HB3:=aYl (show Ext W w3 from Fr.new_ext ((Fr.of_ext HB2.out).trans hf3) (fun b hb=>HO4.out.block_ge hb.symm));have hP3:=wC HP3.out hf3 HQ3.out;rw [<- HLS.out,HLL.out] at hP3;rw [<- HSS.out,HSL.out] at hp4;have HP3':=aYl hP3;have HP4:=aYl hp4
    have HNE3:=aYl (show ∀ b,v3.ownBlock=some b->v4.ownBlock ≠ some b from by
     intro b hb e;rcases hq4 with h | ⟨b',h,hb'⟩
     ·rw [h] at e;exact HQ3.out b hb e.symm
     ·rw [e] at h;injection h with h;have:=HP3.out.block_lt hb;omega)
    obtain ⟨q3,d3,e3,hd31,hd32,g3⟩:=pE hP3 (j:=k) U;obtain ⟨q4,d4,e4,hd41,hd42,g4⟩:=pE hp4 (j:=k) U;rw [HLG.out] at g3;rw [HSG.out] at g4;subst e3 e4;clear hP3 hp4 hf3 hq4 hB x0 x1 x2 x3 x4 x5 x6 x7 x8 x9 x10 x11;have hk1:(0:Int)<=(k:Int):=by omega
    generalize hL:(aM t).getD k 0=L at *;generalize hS:(bK t).getD k 0=S at *;have HCK2:=aYl (show cS t k=if 256<L∨1024<S then 4 else if x.kind=4 then gS t x else 0 by rw [HCR.out,if_pos HZ.out]);have HLQ:=aYl hL;have HSQ:=aYl hS;clear hL hS;have x0:=BX3.out.cell' (u:=↑x.kind) 0 rfl
    by_cases hL1:256<L
    ·have HV4:=aYl (show cC t=4 from HCK.out.trans (by rw [HCK2.out.trans (if_pos (Or.inl hL1))];rfl))
     go_wp2_with fail;go_ret;exact ⟨aH HV4.out.symm,HE.out.trans' HB3.out⟩
    have tL:decide (256<L)=false:=aYp hL1
    by_cases hS1:1024<S
    ·have HV4:=aYl (show cC t=4 from HCK.out.trans (by rw [HCK2.out.trans (if_pos (Or.inr hS1))];rfl))
     go_wp2_with fail;go_ret;exact ⟨aH HV4.out.symm,HE.out.trans' HB3.out⟩
    have tS:decide (1024<S)=false:=aYp hS1
    by_cases hk4:x.kind=4
    ·have t4:(x.kind == 4)=true:=aYn hk4
     have HK4:=aYl hk4;have hkp:0<x.kids.length:=by have:=HOK.out.bind hk4;omega
     have hkz:=HOK.out.kids _ (aF (d:=0) hkp);have HKZ:=aYl hkz;have HCK3:=aYl (show cS t k=gS t x by rw [HCK2.out,if_neg U,if_pos hk4]);clear hk4 hkz;have x1:=BX3.out.cell' (u:=.string x.name) 1 rfl;have x2:=BX3.out.cell' (u:=↑x.lo) 2 rfl;have x3:=BX3.out.cell' (u:=↑x.hi) 3 rfl;have x4:=BX3.out.cell' (u:=.slice a1.wA x.weights.length a1.wc) 4 rfl;have x5:=BX3.out.cell' (u:=.slice a1.lA x.labels.length a1.lc) 5 rfl;have x6:=BX3.out.cell' (u:=.slice a1.vA x.values.length a1.vc) 6 rfl;have x7:=BX3.out.cell' (u:=.slice a1.kA x.kids.length a1.kc) 7 rfl;have x8:=BX3.out.cell' (u:=↑x.value.kind) 8 rfl;have x9:=BX3.out.cell' (u:=↑x.value.n) 9 rfl;have x10:=BX3.out.cell' (u:=.string x.value.s) 10 rfl;have x11:=BX3.out.cell' (u:=.slice a1.xA x.value.kids.length a1.xc) 11 rfl;have y0:=(HBX.out.ext HB3.out).cell' (u:=.slice (some ⟨b1,o1,none⟩) t.length cn) 0 rfl;go_wp2_with fail;refine (aFg t x a1 (x.kids.getD 0 0).toNat (fun b=>b<w.heap.size) _ _ (HT.out.carry (aB.of_ext (HE.out.trans' HB3.out)) (fun b hb _=>hb)) HA3.out hkp (Int.toNat_of_nonneg HKZ.out.1).symm (HGD.out.mono (by have:=HKZ.out;omega))).mono ?_;rintro e w4 ⟨rfl,hx4⟩;have HX4:=aYl hx4
     clear hx4 x0 x1 x2 x3 x4 x5 x6 x7 x8 x9 x10 x11 y0 g3 g4
     by_cases hbz:gS t x=0
     ·have tb:(gS t x != 0)=false:=by rw [bne_eq_false_iff_eq];exact hbz
      have HCZ:=aYl (HCK3.out.trans hbz);clear hbz;go_wp2_with fail;go_roundw
      case rel =>
       refine ⟨k+1,U,by go_num,HP3'.out.ext_ HX4.out,HP4.out.ext_ HX4.out,HNE3.out,HB3.out.trans' HX4.out,⟨U,hsm,fun j hj=>?_⟩,?_⟩
       ·rcases Nat.lt_succ_iff_lt_or_eq.1 hj with h | rfl
        ·exact HGD.out.2.2 j h
        ·exact HCZ.out
       ·rw [HCK.out,if_pos HCZ.out]
      case measure=>simp [intOf];omega
     ·have tb:(gS t x != 0)=true:=bne_iff_ne.2 hbz
      have HVB:=aYl (show cC t=gS t x by rw [HCK.out,HCK3.out,if_neg hbz]);clear hbz;go_wp2_with fail;go_ret;exact ⟨aH HVB.out.symm,HE.out.trans' (HB3.out.trans' HX4.out)⟩
    ·have t4:(x.kind == 4)=false:=aYm hk4
     have HCZ:=aYl (show cS t k=0 by rw [HCK2.out,if_neg U,if_neg hk4]);clear hk4;go_wp2_with fail;go_roundw
     case rel =>
      refine ⟨k+1,U,by go_num,HP3'.out,HP4.out,HNE3.out,HB3.out,⟨U,hsm,fun j hj=>?_⟩,?_⟩
      ·rcases Nat.lt_succ_iff_lt_or_eq.1 hj with h | rfl
       ·exact HGD.out.2.2 j h
       ·exact HCZ.out
      ·rw [HCK.out,if_pos HCZ.out]
     case measure=>simp [intOf];omega
   ·have tz:(gV k x != 0)=true:=bne_iff_ne.2 hz
    have HVN:=aYl (show cC t=gV k x by rw [HCK.out,HCR.out,if_neg hz,if_neg hz]);clear hz;go_wp2_with fail;go_ret;exact ⟨aH HVN.out.symm,HE.out.trans' (HX.out.trans' HX1.out)⟩
  ·have HVZ:=aYl (show cC t=0 by rw [HVF.out,show t.length - k=0 by omega];rfl)
   go_wp2_with fail;go_ret;exact ⟨aH HVZ.out.symm,HE.out.trans' HX.out⟩
theorem oS {before:List GL}{bind:Bool}:∀ (zs:List Int)(k:Nat)(out:List GV),(jC before bind k out true zs).many=true
 | [],_,_=>by simp [jC]
 | z :: zs,k,out=>by
  simp only [jC]
  split
  ·exact oS zs _ _
  ·simp only [Bool.true_or];exact oS zs _ _
theorem iP {before:List GL}{bind:Bool}:∀ (zs:List Int)(k:Nat)(out:List GV),(jC before bind k out false zs).many=false ->
  (∀ v ∈ out,v ∈ (jC before bind k out false zs).vals)∧∀ m,m<zs.length->¬ (bind=true∧k+m=0) ->
   (before.getD (zs.getD m 0).toNat default).many=false∧∀ v ∈ (before.getD (zs.getD m 0).toNat default).vals,v ∈ (jC before bind k out false zs).vals
 | [],k,out,_=>⟨fun v hv=>by simpa [jC] using hv,fun m hm=>by simp at hm⟩
 | z :: zs,k,out,h=>by
  simp only [jC] at h ⊢
  split
  ·next hb =>
   rw [if_pos hb] at h;obtain ⟨h1,h2⟩:=iP zs (k+1) out h;refine ⟨h1,fun m hm hc=>?_⟩
   cases m with
   | zero=>exact absurd ⟨hb.1,U⟩ hc
   | succ m=>exact h2 m (by simpa using hm) U
  ·next hb =>
   rw [if_neg hb] at h;simp only [Bool.false_or] at h ⊢
   cases e:((before.getD z.toNat default).many || decide (1024<(eN (out ++ (before.getD z.toNat default).vals)).length))
   ·rw [e] at h
    simp only [Bool.or_eq_false_iff] at e;obtain ⟨h1,h2⟩:=iP zs (k+1) _ h;refine ⟨fun v hv=>h1 v ((eQ _ v).2 (by simp [hv])),fun m hm hc=>?_⟩
    cases m with
    | zero=>exact ⟨e.1,fun v hv=>h1 v ((eQ _ v).2 (by simp only [List.getD_cons_zero] at hv;exact List.mem_append.2 (.inr hv)))⟩
    | succ m=>exact h2 m (by simpa using hm) U
   ·rw [e,oS] at h;cases h
def aMj (before:List GL):List GV->List Int->Prop
 | [],[]=>True
 | v :: vs,z :: zs=>v ∈ (before.getD z.toNat default).vals∧aMj before vs zs
 | _,_=>False
theorem jP {before:List GL}:∀ (zs:List Int)(rows out:List (List GV)),bO before rows zs=some out->∀ z ∈ zs,(before.getD z.toNat default).many=false
 | [],_,_,_,z,hz=>by simp at hz
 | y :: zs,rows,out,h,z,hz=>by
  simp only [bO] at h
  split at h
  ·cases h
  ·next hm =>
   rcases List.mem_cons.1 hz with rfl | hz
   ·cases e:(before.getD z.toNat default).many
    ·rfl
    ·exact absurd (.inl e) hm
   ·exact jP zs _ out h z hz
theorem kU {before:List GL}:∀ (zs:List Int)(rows out:List (List GV)),bO before rows zs=some out->∀ q ∈ rows,∀ vs,aMj before vs zs->q ++ vs ∈ out
 | [],rows,out,h,q,hq,vs,hf=>by
  simp only [bO,Option.some.injEq] at h;subst h
  cases vs with
  | nil=>simpa using hq
  | cons _ _=>exact hf.elim
 | z :: zs,rows,out,h,q,hq,vs,hf=>by
  simp only [bO] at h
  split at h
  ·cases h
  ·cases vs with
   | nil=>exact hf.elim
   | cons v vs =>
    have:=kU zs _ out h (q ++ [v]) (jR.2 ⟨q,hq,v,hf.1,rfl⟩) vs hf.2
    simpa using this
theorem aMj.cast {a b:List GL}:∀ {vs:List GV}{zs:List Int},aMj a vs zs->(∀ z ∈ zs,a.getD z.toNat default=b.getD z.toNat default)->aMj b vs zs
 | [],[],_,_=>trivial
 | v :: vs,z :: zs,h,e=>⟨by rw [<- e z Y];exact h.1,h.2.cast (fun y hy=>e y ao)⟩
 | [],_ :: _,h,_=>h.elim
 | _ :: _,[],h,_=>h.elim
structure mK (t:List GN)(path:List Int)(i:Nat)(at_:Int)(r:GR):Prop where
 used0:0<=r.used
 usedL:r.used<=(aM t).getD i 0
 usedP:at_+r.used<=path.length
 mem:r.stop=-1->((aD t).getD i default).many=false->r.val ∈ ((aD t).getD i default).vals
 stop:r.stop=-1∨r.stop=-2∨(0<=r.stop∧r.stop<=i∧((t.getD r.stop.toNat default).kind=1∨(t.getD r.stop.toNat default).kind=2)∧(path.length:Int) - at_<(aM t).getD i 0)
structure aMf (t:List GN)(path:List Int)(i:Nat)(name:ByteArray)(at_ used:Int)(acc:List GV)(zs:List Int)(r:GR):Prop where
 used0:0<=r.used
 usedL:r.used<=used+nT (aM t) zs
 usedP:at_+r.used<=path.length
 mem:r.stop=-1->(∀ z ∈ zs,((aD t).getD z.toNat default).many=false)->∃ vs,aMj (aD t) vs zs∧r.val=bW name (acc ++ vs)
 stop:r.stop=-1∨r.stop=-2∨(0<=r.stop∧r.stop<i∧((t.getD r.stop.toNat default).kind=1∨(t.getD r.stop.toNat default).kind=2)∧(path.length:Int) - at_<used+nT (aM t) zs)
theorem aAi {t:List GN}{path:List Int}{i:Nat}{name:ByteArray}{r:Int->Int->GR}{at_:Int}(h0:0<=at_)
  (hl:∀ z:Int,0<=z->z<i->0<=(aM t).getD z.toNat 0∧(aM t).getD z.toNat 0<=256)
  (hr:∀ (z:Int)(k:Int),0<=z->z<i->0<=k->k<=path.length->mK t path z.toNat k (r z k)) :
  ∀ (zs:List Int) (used:Int) (acc:List GV),(∀ z ∈ zs,0<=z∧z<(i:Int))->0<=used->at_+used<=path.length->aMf t path i name at_ used acc zs (bM r name at_ used acc zs)
 | [],used,acc,_,h1,h2=>by
  simp only [bM];exact ⟨h1,by simp [nT],h2,fun _ _=>⟨[],trivial,Y⟩,.inl rfl⟩
 | z :: zs,used,acc,hz,h1,h2=>by
  have hz0:=hz z Y;have hb:=hr z (at_+used) hz0.1 hz0.2 U h2;have hlz:=hl z hz0.1 hz0.2;have hls:=(yU (before:=aM t) (zs:=zs) (fun y hy=>hl y (hz y ao).1 (hz y ao).2)).1;have hu:=hb.used0;have huL:=hb.usedL;have huP:=hb.usedP;simp only [bM];generalize hg:r z (at_+used)=b at *
  split
  ·next hs =>
   have hp:=aAi h0 hl hr (name:=name) zs (used+b.used) (acc ++ [b.val]) (fun y hy=>hz y ao) U U;generalize bM r name at_ (used+b.used) (acc ++ [b.val]) zs=R at *;have q1:=hp.used0;have q2:=hp.usedL;have q3:=hp.usedP;refine ⟨q1,by simp only [nT];omega,q3,fun e hm=>?_,?_⟩
   ·obtain ⟨vs,h3,h4⟩:=hp.mem e (fun y hy=>hm y ao)
    exact ⟨b.val :: vs,⟨hb.mem hs (hm z Y),h3⟩,by rw [h4];simp⟩
   ·rcases hp.stop with h | h | ⟨a,b',c,d⟩
    ·exact .inl h
    ·exact .inr (.inl h)
    ·exact .inr (.inr ⟨a,b',c,by simp only [nT];omega⟩)
  ·next hs =>
   refine ⟨by show 0<=used+b.used;omega,by show used+b.used<=_;simp only [nT];omega,by show at_+(used+b.used)<=_;omega,fun e=>absurd e hs,?_⟩;rcases hb.stop with h | h | ⟨a,b',c,d⟩
   ·exact absurd h hs
   ·exact .inr (.inl h)
   ·exact .inr (.inr ⟨a,by show b.stop<i;omega,c,by simp only [nT];omega⟩)
theorem tM {t:List GN}{n:Nat}(h:bD t n)(path:List Int)(hpl:path.length<=1000000):∀ (f:Nat)(i:Nat)(at_:Int),i<f->i<n->0<=at_->at_<=path.length->mK t path i at_ (aR t path f i at_)
 | 0,i,at_,hf,_,_,_=>by omega
 | f+1,i,at_,hf,hi,ha0,ha1=>by
  have hit:i<t.length:=ie
  have hc:=h.at_ hi;have hL:=kY h i hi;have hfew:=fE h hi
  have hr:∀ (z:Int) (k:Int),0<=z->z<i->0<=k->k<=path.length->mK t path z.toNat k (aR t path f z k):=fun z k h1 h2 h3 h4=>by
   have:=tM h path hpl f z.toNat k U U h3 h4;rw [Int.toNat_of_nonneg h1] at this;exact this
  have hl:∀ z:Int,0<=z->z<i->0<=(aM t).getD z.toNat 0∧(aM t).getD z.toNat 0<=256:=fun z h1 h2=>(kY h z.toNat U).bd
  have hlg:=iG hit;simp only [aR,Int.toNat_natCast];have hn:=hc.node;have hcm:=hc.many;have hcv:=hc.vals;have L1:=hL.bd;have L2:=hL.range;have L3:=hL.leaf;have L4:=hL.seq;have L5:=hL.choice;have L6:=hL.bind;have hself:(t.getD i default).kind=1∨(t.getD i default).kind=2->((t.getD ((i:Int)).toNat default).kind=1∨(t.getD ((i:Int)).toNat default).kind=2):=fun h=>by simpa using h
  generalize hx:t.getD i default=x at *;have hkd:=hn.kind;have hkl:∀ z ∈ x.kids,(aD (t.take i)).getD z.toNat default=(aD t).getD z.toNat default:=fun z hz=>gH hit (hn.kids z hz)
  unfold cY
  by_cases k0:x.kind=0
  ·rw [if_pos k0]
   refine ⟨Int.le_refl _,ig,by show at_+0<=_;omega,fun _ _=>?_,.inl rfl⟩;rw [hlg];unfold cG;rw [if_pos k0];simp
  rw [if_neg k0]
  by_cases k3:x.kind=3
  ·rw [if_pos k3]
   have hp:=aAi (name:=x.name) ha0 hl hr x.kids 0 [] (fun z hz=>hn.kids z hz) (Int.le_refl _) U;generalize bM (aR t path f) x.name at_ 0 [] x.kids=R at *;have q1:=hp.used0;have q2:=hp.usedL;have q3:=hp.usedP;have e3:=L4 k3;refine ⟨q1,U,q3,fun e hm=>?_,?_⟩
   ·rw [hlg] at hm ⊢
    unfold cG at hm ⊢;rw [if_neg k0,if_neg U,if_pos k3] at hm ⊢;unfold vN at hm ⊢
    split at hm
    ·cases hm
    ·next rows hrows =>
     (try rw [hrows])
     have hmm:=jP x.kids _ rows hrows;obtain ⟨vs,h3,h4⟩:=hp.mem e (fun z hz=>by rw [<- hkl z hz];exact hmm z hz)
     show R.val ∈ eN _
     rw [eQ,h4];refine List.mem_map.2 ⟨vs,?_,Y⟩;have:=kU x.kids _ rows hrows [] Y vs (h3.cast (fun z hz=>(hkl z hz).symm))
     simpa using this
   ·rcases hp.stop with h | h | ⟨a,b',c,d⟩
    ·exact .inl h
    ·exact .inr (.inl h)
    ·exact .inr (.inr ⟨a,U,c,U⟩)
  rw [if_neg k3]
  by_cases k4:x.kind=4
  ·rw [if_pos k4]
   have hbk:=hn.bind k4;have hz0:x.kids.getD 0 0 ∈ x.kids:=aF U;have hz0':=hn.kids _ hz0;have ha:=hr (x.kids.getD 0 0) at_ hz0'.1 hz0'.2 ha0 ha1;have e4:=L6 k4;have hm0:=hcm k4;have hv0:=hcv k4;have hinc:=hn.inc;generalize hra:aR t path f (x.kids.getD 0 0) at_=a at *;have p1:=ha.used0;have p2:=ha.usedL;have p3:=ha.usedP
   split
   ·next hs =>
    have hmem:=ha.mem hs hm0;rw [hv0] at hmem;obtain ⟨f1,f2,f3⟩:=jV hinc hmem;generalize (cO x.values a.val).1=q at *;have hq:q+1<x.kids.length:=by omega
    have hzq:=hn.kids _ (aF (d:=0) hq);have hb:=hr (x.kids.getD (q+1) 0) (at_+a.used) hzq.1 hzq.2 U p3;have e5:=e4.2 (q+1) U hq;generalize hrb:aR t path f (x.kids.getD (q+1) 0) (at_+a.used)=b at *;have b1:=hb.used0;have b2:=hb.usedL;have b3:=hb.usedP;refine ⟨by show 0<=a.used+b.used;omega,by show a.used+b.used<=_;omega,by show at_+(a.used+b.used)<=_;omega,fun e hm=>?_,?_⟩
    ·show b.val ∈ _
     rw [hlg] at hm ⊢;unfold cG at hm ⊢;rw [if_neg k0,if_neg U,if_neg k3] at hm ⊢;obtain ⟨h3,h4⟩:=(iP x.kids 0 [] hm).2 (q+1) hq U;rw [hkl _ (aF hq)] at h3 h4;exact h4 _ (hb.mem e h3)
    ·rcases hb.stop with h | h | ⟨c1,c2,c3,c4⟩
     ·exact .inl h
     ·exact .inr (.inl h)
     ·exact .inr (.inr ⟨c1,by show b.stop<=i;omega,c3,U⟩)
   ·next hs =>
    refine ⟨p1,U,p3,fun e=>absurd e hs,?_⟩;rcases ha.stop with h | h | ⟨c1,c2,c3,c4⟩
    ·exact absurd h hs
    ·exact .inr (.inl h)
    ·exact .inr (.inr ⟨c1,U,c3,U⟩)
  rw [if_neg k4];have k12:x.kind=1∨x.kind=2:=by omega
  have hlen1:1<=(aM t).getD i 0:=by
   rcases k12 with k | k
   ·rw [L2 k];omega
   ·exact (L5 k).1
  split
  ·next hat =>
   refine ⟨Int.le_refl _,ig,by show at_+0<=_;omega,fun e=>?_,.inr (.inr ⟨?_,?_,?_,U⟩)⟩
   ·have:(i:Int)=-1:=e
    omega
   ·show (0:Int)<=(i:Int);omega
   ·show (i:Int)<=(i:Int);omega
   ·exact hself k12
  ·next hat =>
   split
   ·exact ⟨Int.le_refl _,ig,by show at_+0<=_;omega,fun e=>absurd e am,.inr (.inl rfl)⟩
   ·next hopt =>
    rw [fX hn] at hopt;generalize path.getD at_.toNat 0=c at *
    split
    ·next k1 =>
     rw [if_pos k1] at hopt;have hnum:=cW hn.numbers;refine ⟨by show (0:Int)<=1;omega,by show 1<=_;omega,by show at_+1<=_;omega,fun _ hm=>?_,.inl rfl⟩
     show GV.mk 0 (x.lo+c) ByteArray.empty [] ∈ _
     rw [hlg] at hm ⊢;unfold cG at hm ⊢;rw [if_neg k0,if_pos k1] at hm ⊢
     split at hm
     ·cases hm
     ·next hr=>rw [if_neg hr];exact iB.2 ⟨x.lo+c,U,U,rfl⟩
    ·next k1 =>
     rw [if_neg k1] at hopt;have k2:x.kind=2:=by omega
     have hq:c.toNat<x.kids.length:=U
     have hzq:=hn.kids _ (aF (d:=0) hq);have hb:=hr (x.kids.getD c.toNat 0) (at_+1) hzq.1 hzq.2 U U;have e5:=(L5 k2).2 _ (aF (d:=0) hq);generalize aR t path f (x.kids.getD c.toNat 0) (at_+1)=b at *;have b1:=hb.used0;have b2:=hb.usedL;have b3:=hb.usedP;refine ⟨by show 0<=b.used+1;omega,by show b.used+1<=_;omega,by show at_+(b.used+1)<=_;omega,fun e hm=>?_,?_⟩
     ·show b.val ∈ _
      rw [hlg] at hm ⊢;unfold cG at hm ⊢;rw [if_neg k0,if_neg k1,if_neg k3] at hm ⊢;obtain ⟨h3,h4⟩:=(iP x.kids 0 [] hm).2 c.toNat hq (by simp [k4]);rw [hkl _ (aF hq)] at h3 h4;exact h4 _ (hb.mem e h3)
     ·rcases hb.stop with h | h | ⟨c1,c2,c3,c4⟩
      ·exact .inl h
      ·exact .inr (.inl h)
      ·exact .inr (.inr ⟨c1,by show b.stop<=i;omega,c3,U⟩)
theorem Tryz.info254:(Tryz.prog.info? 254).map (fun i=>(i.zero,i.size,i.bytes))=some (some (.agg #[.int .i64 0,.int .i64 0,.int .i64 0]),3,24):=aa
abbrev cR (r:GR)(A:Option Addr)(c:Nat)(sv:Value):Array Value:=#[↑r.val.kind,↑r.val.n,.string r.val.s,.slice A r.val.kids.length c,↑r.used,↑r.stop,sv]
abbrev dP:Array Value:=#[.int .i64 0,.int .i64 0,.string ⟨#[]⟩,.slice none 0 0,.int .i64 0,.int .i64 0,.slice none 0 0]
def qH (m N:Nat)(xs:List Value):Prop:=m+1<=N∧∀ u ∈ xs,u.oneCell'=true
theorem qH.nil (f:Nat):qH 0 (6 ^ (f+1)) []:=⟨Nat.pos_of_ne_zero Y,Y⟩
theorem qH.succ {m f:Nat}{xs:List Value}(h:qH m (6 ^ f) xs):qH m (6 ^ (f+1)) xs:=⟨by have:=h.1;rw [Nat.pow_succ];omega,h.2⟩
theorem qH.le {m f:Nat}{xs:List Value}(h:qH m (6 ^ f) xs)(hf:f<14):m<=30517578125:=by
 have h1:6 ^ f<=6 ^ 13:=Nat.pow_le_pow_right U U;exact Nat.le_trans (Nat.le_of_succ_le h.1) (Nat.le_trans h1 am)
theorem qH.add {m n f:Nat}{xs ys:List Value}(h:qH m (6 ^ f) xs)(k:qH n (6 ^ f) ys):qH (m+n) (6 ^ (f+1)) (xs ++ ys) :=
 ⟨by have:=h.1;have:=k.1;rw [Nat.pow_succ];omega,fun u hu=>(List.mem_append.1 hu).elim (h.2 u) (k.2 u)⟩
def aI9 (P:Nat->Prop)(r:GR)(N:Nat)(w:World)(e:Ending)(w':World):Prop :=
 ∃ A c sv m xs,e=.returned (.agg (cR r A c sv))∧VAt w' (New P w.heap.size) r.val A c∧w'.ownsRow w.heap.size 254 3 sv m xs∧qH m N xs∧Ext w w'
structure RdT (t:List GN)(path:List Int):Prop where
 good:bD t t.length
 small:t.length<=14
 few:∀ x ∈ t,x.kind=3->x.kids.length<=5
 path:path.length<=1000000
def mJ (t:List GN)(path:List Int)(f:Nat):Prop:=∀ (i:Nat)(at_:Int)(P:Nat->Prop)(vn vp:Value)(w:World),i<f->i<t.length->0<=at_->at_<=path.length->(∀ b,P b->b<w.heap.size)->Nds w P vn t->aU w P vp path ->
  Calls Tryz.prog 144 #[.agg #[vn],↑i,vp,↑at_] w (aI9 P (aR t path f i at_) (6 ^ f) w)
structure zM (vn:Value)(x:GN)(a:NA)(w W:World):Prop where
 ext:Ext w W
 size:W.heap.size=w.heap.size+3
 tree:Blk W w.heap.size 25 #[vn]
 res:Blk W (w.heap.size+1) 154 dP
 box:Blk W (w.heap.size+2) 87 (aL x a).toArray
theorem zM.mk' (vn:Value)(x:GN)(a:NA)(w:World):zM vn x a w (((w.alloc (.cells #[vn] 25)).alloc (.cells dP 154)).alloc (.cells (aL x a).toArray 87)) :=
 ⟨(((Ext.refl w).alloc' _).alloc' _).alloc' _,Y,((Blk.new w 25 #[vn]).alloc _).alloc _,(Blk.new' _ _ _ Y).alloc _,Blk.new' _ _ _ Y⟩
def gZ (w:World)(g:Nat)(a b c d e f h:Value):World :=
 ((((((w.setCell ⟨g,0,none⟩ a).setCell ⟨g,1,none⟩ b).setCell ⟨g,2,none⟩ c).setCell ⟨g,3,none⟩ d).setCell ⟨g,4,none⟩ e).setCell ⟨g,5,none⟩ f).setCell ⟨g,6,none⟩ h
theorem cK {w:World}{g:Nat}{t:TypeId}{c0 c1 c2 c3 c4 c5 c6:Value}(h:Blk w g t #[c0,c1,c2,c3,c4,c5,c6])(u0 u1 u2 u3 u4 u5 u6:Value):Blk (gZ w g u0 u1 u2 u3 u4 u5 u6) g t #[u0,u1,u2,u3,u4,u5,u6]:=by
 have h1:=((((((h.set_ 0 u0).set_ 1 u1).set_ 2 u2).set_ 3 u3).set_ 4 u4).set_ 5 u5).set_ 6 u6;simp only [List.setIfInBounds_toArray,List.set_cons_zero,List.set_cons_succ] at h1;exact h1
theorem cX {w0 w:World}{g:Nat}(h:Ext w0 w)(hg:w0.heap.size<=g)(u0 u1 u2 u3 u4 u5 u6:Value):Ext w0 (gZ w g u0 u1 u2 u3 u4 u5 u6) :=
 ((((((h.setCell' (p:=⟨g,0,none⟩) hg _).setCell' (p:=⟨g,1,none⟩) hg _).setCell' (p:=⟨g,2,none⟩) hg _).setCell' (p:=⟨g,3,none⟩) hg _).setCell' (p:=⟨g,4,none⟩) hg _).setCell' (p:=⟨g,5,none⟩) hg _).setCell' (p:=⟨g,6,none⟩) hg _
theorem dK {w:World}{g:Nat}{Q:Nat->Prop}(hg:¬ Q g)(u0 u1 u2 u3 u4 u5 u6:Value):aB Q w (gZ w g u0 u1 u2 u3 u4 u5 u6):=by
 have h0:aB Q w w:=fun _ _ _=>rfl
 exact ((((((h0.set (p:=⟨g,0,none⟩) _ hg).set (p:=⟨g,1,none⟩) _ hg).set (p:=⟨g,2,none⟩) _ hg).set (p:=⟨g,3,none⟩) _ hg).set (p:=⟨g,4,none⟩) _ hg).set (p:=⟨g,5,none⟩) _ hg).set (p:=⟨g,6,none⟩) _ hg
theorem fR {w:World}{g:Nat}{base:Nat}{e:TypeId}{size:Nat}{v:Value}{n:Nat}{xs:List Value}(h:w.ownsRow base e size v n xs)(hg:g<base)(u0 u1 u2 u3 u4 u5 u6:Value):(gZ w g u0 u1 u2 u3 u4 u5 u6).ownsRow base e size v n xs :=
 ownsRow_setCell_below (ownsRow_setCell_below (ownsRow_setCell_below (ownsRow_setCell_below (ownsRow_setCell_below (ownsRow_setCell_below (ownsRow_setCell_below h (a:=⟨g,0,none⟩) hg _) (a:=⟨g,1,none⟩) hg _) (a:=⟨g,2,none⟩) hg _) (a:=⟨g,3,none⟩) hg _) (a:=⟨g,4,none⟩) hg _) (a:=⟨g,5,none⟩) hg _) (a:=⟨g,6,none⟩) hg _
theorem bC {w:World}{b off:Nat}{u:Value}(h:w.cell? ⟨b,off,none⟩=some u)(o:Obj):(w.alloc o).cell? ⟨b,off,none⟩=some u:=iV h o (aQ h)
theorem aDj {w:World}{g b off:Nat}{u:Value}{u0 u1 u2 u3 u4 u5 u6:Value}(hne:b ≠ g)(h:w.cell? ⟨b,off,none⟩=some u):(gZ w g u0 u1 u2 u3 u4 u5 u6).cell? ⟨b,off,none⟩=some u:=by
 rw [<- h];exact World.cell?_of_block (w:=w) (dK (Q:=fun k=>k=b) (fun e=>hne e.symm) _ _ _ _ _ _ _ b (aQ h) rfl)
theorem bH {w:World}{g b off:Nat}{u:Value}{u0 u1 u2 u3 u4 u5 u6:Value}(hne:¬ b=g)(h:w.cell? ⟨b,off,none⟩=some u) :
  (((((((w.setCell ⟨g,0,none⟩ u0).setCell ⟨g,1,none⟩ u1).setCell ⟨g,2,none⟩ u2).setCell ⟨g,3,none⟩ u3).setCell ⟨g,4,none⟩ u4).setCell ⟨g,5,none⟩ u5).setCell ⟨g,6,none⟩ u6).cell? ⟨b,off,none⟩=some u:=aDj hne h
theorem bP {w:World}{b off:Nat}{u:Value}{o o':Obj}(hb:b<w.heap.size)(h:(w.alloc o).cell? ⟨b,off,none⟩=some u):(w.alloc o').cell? ⟨b,off,none⟩=some u :=
 ((World.cell?_alloc_lt w o' ⟨b,off,none⟩ hb).trans (World.cell?_alloc_lt w o ⟨b,off,none⟩ hb).symm).trans h
theorem VAt.zero (w:World)(P:Nat->Prop):VAt w P bJ none 0 :=
 ⟨by simp [I64,bJ,GV.kind],by simp [I64,bJ,GV.n],by simp [bJ,GV.s],Nat.le_refl _,⟨by simp [bJ,GV.kids],U⟩,
  ⟨none,0,[],rfl,Nat.le_refl _,⟨by simp [bJ,GV.kids],U⟩,⟨rfl,fun h=>absurd h (by simp [bJ,GV.kids])⟩,rfl⟩⟩
def kQ (P:Nat->Prop)(r:GR)(N:Nat)(W:World)(s:Value)(wx:World):Prop :=
 ∃ wy g A c sv m xs,wy=wx∧s=.pointer (some ⟨g,0,none⟩)∧Blk wx g 154 (cR r A c sv)∧W.heap.size<=g∧VAt wx (fun b=>(P b∨W.heap.size<=b)∧b ≠ g) r.val A c∧wx.ownsRow W.heap.size 254 3 sv m xs∧qH m N xs∧sv.ownBlock ≠ some g∧Ext W wx
theorem kQ.late {P:Nat->Prop}{r:GR}{N:Nat}{W w2:World}{A:Option Addr}{c:Nat}{sv:Value}{m:Nat}{xs:List Value}(_:∀ b,P b->b<W.heap.size)(hv:VAt w2 (New P W.heap.size) r.val A c)(ho:w2.ownsRow W.heap.size 254 3 sv m xs)(hm:qH m N xs)(hx:Ext W w2) :
  kQ P r N W (.pointer (some ⟨w2.heap.size,0,none⟩)) (w2.alloc (.cells (cR r A c sv) 154)):=by
 have hs:=hx.size;refine ⟨_,w2.heap.size,A,c,sv,m,xs,rfl,rfl,Blk.new _ _ _,hs,hv.carry (aB.of_ext ((Ext.refl w2).alloc' _)) (fun b hb h=>⟨h,U⟩),ho.alloc _,hm,fun e=>?_,hx.alloc' _⟩;have:=ho.block_lt e;omega
theorem kQ.early {P:Nat->Prop}{r:GR}{N B:Nat}{W w2:World}{A:Option Addr}{c:Nat}{sv:Value}{m:Nat}{xs:List Value}(hP:∀ b,P b->b<W.heap.size)(hv:VAt w2 (New P B) r.val A c)(ho:w2.ownsRow B 254 3 sv m xs)(hm:qH m N xs)(hB:B=W.heap.size+1)
  (hx:Ext (W.alloc (.cells dP 154)) w2):kQ P r N W (.pointer (some ⟨W.heap.size,0,none⟩)) (gZ w2 W.heap.size (↑r.val.kind) (↑r.val.n) (.string r.val.s) (.slice A r.val.kids.length c) (↑r.used) (↑r.stop) sv):=by
 subst hB;have hx':Ext W w2:=((Ext.refl W).alloc' _).trans' hx;have hs:=hx.size;simp at hs;refine ⟨_,W.heap.size,A,c,sv,m,xs,rfl,rfl,cK ((Blk.new W 154 dP).ext hx) _ _ _ _ _ _ _,Nat.le_refl _,?_,(fR ho U _ _ _ _ _ _ _).base_le U,hm,fun e=>?_,cX hx' (Nat.le_refl _) _ _ _ _ _ _ _⟩
 ·refine hv.carry (Q:=fun b=>(P b∨W.heap.size<=b)∧b ≠ W.heap.size) (dK ?_ _ _ _ _ _ _ _) (fun b hb h=>?_)
  ·rintro (h | h)
   ·have:=hP _ h;omega
   ·omega
  ·rcases h with h | h
   ·have:=hP b h
    exact ⟨.inl h,U⟩
   ·exact ⟨.inr U,U⟩
 ·have:=ho.block_ge e
  omega
theorem aDs (t:List GN)(path:List Int)(f i:Nat)(at_:Int)(P:Nat->Prop)(vn vp:Value)(w:World)(hi:i<t.length)(_:∀ b,P b->b<w.heap.size)(ht:Nds w P vn t)(hk:(t.getD i default).kind=0) :
  Calls Tryz.prog 144 #[.agg #[vn],↑i,vp,↑at_] w (aI9 P (aR t path (f+1) i at_) (6 ^ (f+1)) w):=by
 have HT:=aYl ht;have HQ:=aYl (show aR t path (f+1) i at_=⟨(t.getD i default).value,0,-1⟩ by simp only [aR,Int.toNat_natCast];unfold cY;rw [if_pos hk]);obtain ⟨An,cn,en,hn1,hn2⟩:=ht.form;subst en;obtain ⟨b1,o1,a1,rfl,-,ha1,hc1⟩:=ht.get hi;have HA:=aYl ha1;have lb1:=hc1.lt;have c0:=hc1.c0;have c1:=hc1.c1;have c2:=hc1.c2;have c3:=hc1.c3;have c4:=hc1.c4;have c5:=hc1.c5;have c6:=hc1.c6;have c7:=hc1.c7;have c8:=hc1.c8;have c9:=hc1.c9;have c10:=hc1.c10;have c11:=hc1.c11;have t0:((t.getD i default).kind == 0)=true:=aYn hk;clear ht hc1 ha1 hk;generalize t.getD i default=x at *;go_enter Tryz.func144,Tryz.ntmps144;go_upto_region 2 with fail;have HW:=aYl (zM.mk' (.slice (some ⟨b1,o1,none⟩) t.length cn) x a1 w);generalize hW:(((w.alloc (.cells #[.slice (some ⟨b1,o1,none⟩) t.length cn] 25)).alloc (.cells dP 154)).alloc (.cells (aL x a1).toArray 87))=W at *;clear hW;have x0:=HW.out.box.cell' (u:=↑x.kind) 0 rfl;have x8:=HW.out.box.cell' (u:=↑x.value.kind) 8 rfl;have x9:=HW.out.box.cell' (u:=↑x.value.n) 9 rfl;have x10:=HW.out.box.cell' (u:=.string x.value.s) 10 rfl;have x11:=HW.out.box.cell' (u:=.slice a1.xA x.value.kids.length a1.xc) 11 rfl;have r0:=HW.out.res.cell' (u:=.int .i64 0) 0 rfl
 have r1:=HW.out.res.cell' (u:=.int .i64 0) 1 rfl;have r2:=HW.out.res.cell' (u:=.string ⟨#[]⟩) 2 rfl;have r3:=HW.out.res.cell' (u:=.slice none 0 0) 3 rfl;have r4:=HW.out.res.cell' (u:=.int .i64 0) 4 rfl;have r5:=HW.out.res.cell' (u:=.int .i64 0) 5 rfl;have r6:=HW.out.res.cell' (u:=.slice none 0 0) 6 rfl;have f0:=HW.out.res.frozen 0;have f1:=HW.out.res.frozen 1;have f2:=HW.out.res.frozen 2;have f3:=HW.out.res.frozen 3;have f4:=HW.out.res.frozen 4;have f5:=HW.out.res.frozen 5;have f6:=HW.out.res.frozen 6;clear c0 c1 c2 c3 c4 c5 c6 c7 c8 c9 c10 c11;go_wp2_with fail;have q:=cK HW.out.res (↑x.value.kind) (↑x.value.n) (.string x.value.s) (.slice a1.xA x.value.kids.length a1.xc) (.int .i64 0) (.int .i64 (-1)) (.slice none 0 0);have HX2:=aYl (cX HW.out.ext (show w.heap.size<=w.heap.size+1 by omega) (↑x.value.kind) (↑x.value.n) (.string x.value.s) (.slice a1.xA x.value.kids.length a1.xc) (.int .i64 0) (.int .i64 (-1)) (.slice none 0 0))
 change bodyPost Tryz.prog Tryz.f144 _ Exit.ret _ (gZ W (w.heap.size+1) (↑x.value.kind) (↑x.value.n) (.string x.value.s) (.slice a1.xA x.value.kids.length a1.xc) (.int .i64 0) (.int .i64 (-1)) (.slice none 0 0))
 have HV:=aYl ((HA.out.value.ext HX2.out).keep (Q:=New P w.heap.size) (fun _ _ _=>rfl) (fun _ h=>.inl h));generalize gZ W (w.heap.size+1) (↑x.value.kind) (↑x.value.n) (.string x.value.s) (.slice a1.xA x.value.kids.length a1.xc) (.int .i64 0) (.int .i64 (-1)) (.slice none 0 0)=W' at *;have q0:=q.cell' (u:=↑x.value.kind) 0 rfl;have q1:=q.cell' (u:=↑x.value.n) 1 rfl;have q2:=q.cell' (u:=.string x.value.s) 2 rfl;have q3:=q.cell' (u:=.slice a1.xA x.value.kids.length a1.xc) 3 rfl;have q4:=q.cell' (u:=.int .i64 0) 4 rfl;have q5:=q.cell' (u:=.int .i64 (-1)) 5 rfl;have q6:=q.cell' (u:=.slice none 0 0) 6 rfl;rw [HQ.out];refine bodyPost_ret (v:=.agg (cR ⟨x.value,0,-1⟩ a1.xA a1.xc (.slice none 0 0))) (by simp [results,Tryz.results144,go_sem,q0,q1,q2,q3,q4,q5,q6]) rfl ⟨a1.xA,a1.xc,.slice none 0 0,0,[],rfl,HV.out,aN _ _ _ _,?_,HX2.out⟩;exact qH.nil f
theorem aL1 {n:Int}(h:I64 n)(w:World)(P:Nat->Prop):VAt w P (.mk 0 n ByteArray.empty []) none 0 :=
 ⟨by simp [I64,GV.kind],h,by simp [GV.s],Nat.le_refl _,⟨av,U⟩,
  ⟨none,0,[],rfl,Nat.le_refl _,⟨av,U⟩,⟨rfl,fun h=>absurd h av⟩,rfl⟩⟩
theorem aDr (t:List GN)(path:List Int)(f i:Nat)(at_:Int)(P:Nat->Prop)(vn vp:Value)(w:World)(hi:i<t.length)(hn:dJ i (t.getD i default))(h0:0<=at_)(h1:at_<=path.length)(hpl:path.length<=1000000)(_:∀ b,P b->b<w.heap.size)(ht:Nds w P vn t)(hvp:aU w P vp path)(hk:(t.getD i default).kind=1) :
  Calls Tryz.prog 144 #[.agg #[vn],↑i,vp,↑at_] w (aI9 P (aR t path (f+1) i at_) (6 ^ (f+1)) w):=by
 have HT:=aYl ht;have HN:=aYl hn;have HVP:=aYl hvp;have HQ:=aYl (show aR t path (f+1) i at_=cY (aR t path f) path i (t.getD i default) at_ by simp only [aR,Int.toNat_natCast]);obtain ⟨An,cn,en,hn1,hn2⟩:=ht.form;subst en;obtain ⟨Ap,cp,ep,hp1,hp2⟩:=hvp.form;subst ep;obtain ⟨b1,o1,a1,rfl,-,ha1,hc1⟩:=ht.get hi;have lb1:=hc1.lt;have c0:=hc1.c0;have c1:=hc1.c1;have c2:=hc1.c2;have c3:=hc1.c3;have c4:=hc1.c4;have c5:=hc1.c5;have c6:=hc1.c6;have c7:=hc1.c7;have c8:=hc1.c8;have c9:=hc1.c9;have c10:=hc1.c10;have c11:=hc1.c11;have HK:=aYl hk;have t0:((t.getD i default).kind == 0)=false:=aYm U;have t1:((t.getD i default).kind == 1)=true:=aYn hk;have t3:((t.getD i default).kind == 3)=false:=aYm U;have t4:((t.getD i default).kind == 4)=false:=aYm U;clear ht hc1 ha1 hk hn hvp;generalize t.getD i default=x at *;have HOPT:=aYl (fX HN.out);go_enter Tryz.func144,Tryz.ntmps144;go_upto_region 2 with fail;have HW:=aYl (zM.mk' (.slice (some ⟨b1,o1,none⟩) t.length cn) x a1 w);generalize hW:(((w.alloc (.cells #[.slice (some ⟨b1,o1,none⟩) t.length cn] 25)).alloc (.cells dP 154)).alloc (.cells (aL x a1).toArray 87))=W at *;clear hW;clear c0 c1 c2 c3 c4 c5 c6 c7 c8 c9 c10 c11
 by_cases hat:(path.length:Int)<=at_
 ·have ta:decide ((path.length:Int)<=at_)=true:=aYo hat
  have HR:=aYl (show aR t path (f+1) i at_=⟨bJ,0,i⟩ by rw [HQ.out];unfold cY;rw [(if_neg (show ¬ x.kind=0 by have:=HK.out;omega)),(if_neg (show ¬ x.kind=3 by have:=HK.out;omega)),(if_neg (show ¬ x.kind=4 by have:=HK.out;omega)),if_pos hat]);have hat':¬ at_<(path.length:Int):=by omega
  have x0:=HW.out.box.cell' (u:=↑x.kind) 0 rfl;have r0:=HW.out.res.cell' (u:=.int .i64 0) 0 rfl;have f0:=HW.out.res.frozen 0;have r1:=HW.out.res.cell' (u:=.int .i64 0) 1 rfl;have f1:=HW.out.res.frozen 1;have r2:=HW.out.res.cell' (u:=.string ⟨#[]⟩) 2 rfl;have f2:=HW.out.res.frozen 2;have r3:=HW.out.res.cell' (u:=.slice none 0 0) 3 rfl;have f3:=HW.out.res.frozen 3;have r4:=HW.out.res.cell' (u:=.int .i64 0) 4 rfl;have f4:=HW.out.res.frozen 4;have r5:=HW.out.res.cell' (u:=.int .i64 0) 5 rfl;have f5:=HW.out.res.frozen 5;have r6:=HW.out.res.cell' (u:=.slice none 0 0) 6 rfl;have f6:=HW.out.res.frozen 6;go_wp2_with fail;have q:=cK HW.out.res (.int .i64 0) (.int .i64 0) (.string ⟨#[]⟩) (.slice none 0 0) (.int .i64 0) (↑i) (.slice none 0 0);have HX2:=aYl (cX HW.out.ext (show w.heap.size<=w.heap.size+1 by omega) (.int .i64 0) (.int .i64 0) (.string ⟨#[]⟩) (.slice none 0 0) (.int .i64 0) (↑i) (.slice none 0 0))
  change bodyPost Tryz.prog Tryz.f144 _ Exit.ret _ (gZ W (w.heap.size+1) (.int .i64 0) (.int .i64 0) (.string ⟨#[]⟩) (.slice none 0 0) (.int .i64 0) (↑i) (.slice none 0 0))
  generalize gZ W (w.heap.size+1) (.int .i64 0) (.int .i64 0) (.string ⟨#[]⟩) (.slice none 0 0) (.int .i64 0) (↑i) (.slice none 0 0)=W' at *;have q0:=q.cell' (u:=.int .i64 0) 0 rfl;have q1:=q.cell' (u:=.int .i64 0) 1 rfl;have q2:=q.cell' (u:=.string ⟨#[]⟩) 2 rfl;have q3:=q.cell' (u:=.slice none 0 0) 3 rfl;have q4:=q.cell' (u:=.int .i64 0) 4 rfl;have q5:=q.cell' (u:=↑i) 5 rfl;have q6:=q.cell' (u:=.slice none 0 0) 6 rfl;rw [HR.out];refine bodyPost_ret (v:=.agg (cR ⟨bJ,0,i⟩ none 0 (.slice none 0 0))) (by simp [results,Tryz.results144,go_sem,q0,q1,q2,q3,q4,q5,q6];try (first | rfl | exact ⟨rfl,rfl,rfl,rfl⟩)) rfl ⟨none,0,.slice none 0 0,0,[],rfl,VAt.zero _ _,aN _ _ _ _,?_,HX2.out⟩;exact qH.nil f
 ·have ta:decide ((path.length:Int)<=at_)=false:=aYp hat
  have hat':at_<(path.length:Int):=U
  have hatn:at_.toNat<path.length:=U
  obtain ⟨bp,op,rfl,-,-,gp⟩:=(HVP.out.ext HW.out.ext).get hatn;have HR:=aYl (show aR t path (f+1) i at_=(if path.getD at_.toNat 0<0∨aP x<=path.getD at_.toNat 0 then ⟨bJ,0,-2⟩ else if x.kind=1 then ⟨.mk 0 (x.lo+path.getD at_.toNat 0) ByteArray.empty [],1,-1⟩ else ⟨(aR t path f (x.kids.getD (path.getD at_.toNat 0).toNat 0) (at_+1)).val,(aR t path f (x.kids.getD (path.getD at_.toNat 0).toNat 0) (at_+1)).used+1,(aR t path f (x.kids.getD (path.getD at_.toNat 0).toNat 0) (at_+1)).stop⟩) by rw [HQ.out];unfold cY;rw [(if_neg (show ¬ x.kind=0 by have:=HK.out;omega)),(if_neg (show ¬ x.kind=3 by have:=HK.out;omega)),(if_neg (show ¬ x.kind=4 by have:=HK.out;omega)),if_neg hat]);generalize path.getD at_.toNat 0=c at *;have x0:=HW.out.box.cell' (u:=↑x.kind) 0 rfl;have x1:=HW.out.box.cell' (u:=.string x.name) 1 rfl;have x2:=HW.out.box.cell' (u:=↑x.lo) 2 rfl;have x3:=HW.out.box.cell' (u:=↑x.hi) 3 rfl;have x4:=HW.out.box.cell' (u:=.slice a1.wA x.weights.length a1.wc) 4 rfl;have x5:=HW.out.box.cell' (u:=.slice a1.lA x.labels.length a1.lc) 5 rfl;have x6:=HW.out.box.cell' (u:=.slice a1.vA x.values.length a1.vc) 6 rfl;have x7:=HW.out.box.cell' (u:=.slice a1.kA x.kids.length a1.kc) 7 rfl
  have x8:=HW.out.box.cell' (u:=↑x.value.kind) 8 rfl;have x9:=HW.out.box.cell' (u:=↑x.value.n) 9 rfl;have x10:=HW.out.box.cell' (u:=.string x.value.s) 10 rfl;have x11:=HW.out.box.cell' (u:=.slice a1.xA x.value.kids.length a1.xc) 11 rfl;have r0:=HW.out.res.cell' (u:=.int .i64 0) 0 rfl;have f0:=HW.out.res.frozen 0;have r1:=HW.out.res.cell' (u:=.int .i64 0) 1 rfl;have f1:=HW.out.res.frozen 1;have r2:=HW.out.res.cell' (u:=.string ⟨#[]⟩) 2 rfl;have f2:=HW.out.res.frozen 2;have r3:=HW.out.res.cell' (u:=.slice none 0 0) 3 rfl;have f3:=HW.out.res.frozen 3;have r4:=HW.out.res.cell' (u:=.int .i64 0) 4 rfl;have f4:=HW.out.res.frozen 4;have r5:=HW.out.res.cell' (u:=.int .i64 0) 5 rfl;have f5:=HW.out.res.frozen 5;have r6:=HW.out.res.cell' (u:=.slice none 0 0) 6 rfl;have f6:=HW.out.res.frozen 6
  by_cases hc0:c<0
  ·have HR2:=aYl (show aR t path (f+1) i at_=⟨bJ,0,-2⟩ by rw [HR.out,if_pos (.inl hc0)])
   go_wp2_with fail;have q:=cK HW.out.res (.int .i64 0) (.int .i64 0) (.string ⟨#[]⟩) (.slice none 0 0) (.int .i64 0) (.int .i64 (-2)) (.slice none 0 0);have HX2:=aYl (cX HW.out.ext (show w.heap.size<=w.heap.size+1 by omega) (.int .i64 0) (.int .i64 0) (.string ⟨#[]⟩) (.slice none 0 0) (.int .i64 0) (.int .i64 (-2)) (.slice none 0 0))
   change bodyPost Tryz.prog Tryz.f144 _ Exit.ret _ (gZ W (w.heap.size+1) (.int .i64 0) (.int .i64 0) (.string ⟨#[]⟩) (.slice none 0 0) (.int .i64 0) (.int .i64 (-2)) (.slice none 0 0))
   generalize gZ W (w.heap.size+1) (.int .i64 0) (.int .i64 0) (.string ⟨#[]⟩) (.slice none 0 0) (.int .i64 0) (.int .i64 (-2)) (.slice none 0 0)=W' at *;have q0:=q.cell' (u:=.int .i64 0) 0 rfl;have q1:=q.cell' (u:=.int .i64 0) 1 rfl;have q2:=q.cell' (u:=.string ⟨#[]⟩) 2 rfl;have q3:=q.cell' (u:=.slice none 0 0) 3 rfl;have q4:=q.cell' (u:=.int .i64 0) 4 rfl;have q5:=q.cell' (u:=.int .i64 (-2)) 5 rfl;have q6:=q.cell' (u:=.slice none 0 0) 6 rfl;rw [HR2.out];refine bodyPost_ret (v:=.agg (cR ⟨bJ,0,-2⟩ none 0 (.slice none 0 0))) (by simp [results,Tryz.results144,go_sem,q0,q1,q2,q3,q4,q5,q6];try (first | rfl | exact ⟨rfl,rfl,rfl,rfl⟩)) rfl ⟨none,0,.slice none 0 0,0,[],rfl,VAt.zero _ _,aN _ _ _ _,?_,HX2.out⟩;exact qH.nil f
  go_wp2_with fail;refine (gU x a1 _).mono ?_;rintro e w1 ⟨rfl,hx1⟩;have HX1:=aYl hx1;have RES:=aYl (HW.out.res.ext hx1);have BOX:=aYl (HW.out.box.ext hx1);clear hx1 gp x0 x1 x2 x3 x4 x5 x6 x7 x8 x9 x10 x11 r0 r1 r2 r3 r4 r5 r6 f0 f1 f2 f3 f4 f5 f6;have x0:=BOX.out.cell' (u:=↑x.kind) 0 rfl;have x1:=BOX.out.cell' (u:=.string x.name) 1 rfl;have x2:=BOX.out.cell' (u:=↑x.lo) 2 rfl;have x3:=BOX.out.cell' (u:=↑x.hi) 3 rfl;have x4:=BOX.out.cell' (u:=.slice a1.wA x.weights.length a1.wc) 4 rfl;have x5:=BOX.out.cell' (u:=.slice a1.lA x.labels.length a1.lc) 5 rfl;have x6:=BOX.out.cell' (u:=.slice a1.vA x.values.length a1.vc) 6 rfl;have x7:=BOX.out.cell' (u:=.slice a1.kA x.kids.length a1.kc) 7 rfl;have x8:=BOX.out.cell' (u:=↑x.value.kind) 8 rfl;have x9:=BOX.out.cell' (u:=↑x.value.n) 9 rfl;have x10:=BOX.out.cell' (u:=.string x.value.s) 10 rfl;have x11:=BOX.out.cell' (u:=.slice a1.xA x.value.kids.length a1.xc) 11 rfl;have r0:=RES.out.cell' (u:=.int .i64 0) 0 rfl;have f0:=RES.out.frozen 0;have r1:=RES.out.cell' (u:=.int .i64 0) 1 rfl;have f1:=RES.out.frozen 1;have r2:=RES.out.cell' (u:=.string ⟨#[]⟩) 2 rfl;have f2:=RES.out.frozen 2;have r3:=RES.out.cell' (u:=.slice none 0 0) 3 rfl
  have f3:=RES.out.frozen 3;have r4:=RES.out.cell' (u:=.int .i64 0) 4 rfl;have f4:=RES.out.frozen 4;have r5:=RES.out.cell' (u:=.int .i64 0) 5 rfl;have f5:=RES.out.frozen 5;have r6:=RES.out.cell' (u:=.slice none 0 0) 6 rfl;have f6:=RES.out.frozen 6
  by_cases hco:aP x<=c
  ·have HR2:=aYl (show aR t path (f+1) i at_=⟨bJ,0,-2⟩ by rw [HR.out,if_pos (.inr hco)])
   have to':decide (aP x<=c)=true:=aYo hco;go_wp2_with fail;have q:=cK RES.out (.int .i64 0) (.int .i64 0) (.string ⟨#[]⟩) (.slice none 0 0) (.int .i64 0) (.int .i64 (-2)) (.slice none 0 0);have HX2:=aYl (cX (HW.out.ext.trans' HX1.out) (show w.heap.size<=w.heap.size+1 by omega) (.int .i64 0) (.int .i64 0) (.string ⟨#[]⟩) (.slice none 0 0) (.int .i64 0) (.int .i64 (-2)) (.slice none 0 0))
   change bodyPost Tryz.prog Tryz.f144 _ Exit.ret _ (gZ w1 (w.heap.size+1) (.int .i64 0) (.int .i64 0) (.string ⟨#[]⟩) (.slice none 0 0) (.int .i64 0) (.int .i64 (-2)) (.slice none 0 0))
   generalize gZ w1 (w.heap.size+1) (.int .i64 0) (.int .i64 0) (.string ⟨#[]⟩) (.slice none 0 0) (.int .i64 0) (.int .i64 (-2)) (.slice none 0 0)=W' at *;have q0:=q.cell' (u:=.int .i64 0) 0 rfl;have q1:=q.cell' (u:=.int .i64 0) 1 rfl;have q2:=q.cell' (u:=.string ⟨#[]⟩) 2 rfl;have q3:=q.cell' (u:=.slice none 0 0) 3 rfl;have q4:=q.cell' (u:=.int .i64 0) 4 rfl;have q5:=q.cell' (u:=.int .i64 (-2)) 5 rfl;have q6:=q.cell' (u:=.slice none 0 0) 6 rfl;rw [HR2.out];refine bodyPost_ret (v:=.agg (cR ⟨bJ,0,-2⟩ none 0 (.slice none 0 0))) (by simp [results,Tryz.results144,go_sem,q0,q1,q2,q3,q4,q5,q6];try (first | rfl | exact ⟨rfl,rfl,rfl,rfl⟩)) rfl ⟨none,0,.slice none 0 0,0,[],rfl,VAt.zero _ _,aN _ _ _ _,?_,HX2.out⟩;exact qH.nil f
  have to':decide (aP x<=c)=false:=aYp hco;have HR3:=aYl (HR.out.trans (if_neg (fun h:c<0∨aP x<=c=>by omega)));have HR4:=aYl (show aR t path (f+1) i at_=⟨.mk 0 (x.lo+c) ByteArray.empty [],1,-1⟩ by rw [HR3.out,if_pos HK.out]);have hnum:=cW HN.out.numbers;have hop:=HOPT.out;rw [if_pos HK.out] at hop;have hc2:c<x.hi - x.lo+1:=by omega
  clear hop;have HI:=aYl (show I64 (x.lo+c) by unfold I64;omega);go_wp2_with fail;have q:=cK RES.out (.int .i64 0) (.int .i64 (x.lo+c)) (.string ⟨#[]⟩) (.slice none 0 0) (.int .i64 1) (.int .i64 (-1)) (.slice none 0 0);have HX2:=aYl (cX (HW.out.ext.trans' HX1.out) (show w.heap.size<=w.heap.size+1 by omega) (.int .i64 0) (.int .i64 (x.lo+c)) (.string ⟨#[]⟩) (.slice none 0 0) (.int .i64 1) (.int .i64 (-1)) (.slice none 0 0));have HV:=aYl (aL1 (n:=x.lo+c) HI.out)
  change bodyPost Tryz.prog Tryz.f144 _ Exit.ret _ (gZ w1 (w.heap.size+1) (.int .i64 0) (.int .i64 (x.lo+c)) (.string ⟨#[]⟩) (.slice none 0 0) (.int .i64 1) (.int .i64 (-1)) (.slice none 0 0))
  generalize gZ w1 (w.heap.size+1) (.int .i64 0) (.int .i64 (x.lo+c)) (.string ⟨#[]⟩) (.slice none 0 0) (.int .i64 1) (.int .i64 (-1)) (.slice none 0 0)=W' at *;have q0:=q.cell' (u:=.int .i64 0) 0 rfl;have q1:=q.cell' (u:=.int .i64 (x.lo+c)) 1 rfl;have q2:=q.cell' (u:=.string ⟨#[]⟩) 2 rfl;have q3:=q.cell' (u:=.slice none 0 0) 3 rfl;have q4:=q.cell' (u:=.int .i64 1) 4 rfl;have q5:=q.cell' (u:=.int .i64 (-1)) 5 rfl;have q6:=q.cell' (u:=.slice none 0 0) 6 rfl;rw [HR4.out];refine bodyPost_ret (v:=.agg (cR ⟨.mk 0 (x.lo+c) ByteArray.empty [],1,-1⟩ none 0 (.slice none 0 0))) (by simp [results,Tryz.results144,go_sem,q0,q1,q2,q3,q4,q5,q6];try (first | rfl | exact ⟨rfl,rfl,rfl,rfl⟩)) rfl ⟨none,0,.slice none 0 0,0,[],rfl,HV.out W' _,aN _ _ _ _,?_,HX2.out⟩;exact qH.nil f
theorem aDq (t:List GN)(path:List Int)(f i:Nat)(at_:Int)(P:Nat->Prop)(vn vp:Value)(w:World)(hS:mJ t path f)(hif:i<f+1)(hR:∀ (z:Nat)(k:Int),z<f->z<t.length->0<=k->k<=path.length->mK t path z k (aR t path f z k))(hi:i<t.length)(hn:dJ i (t.getD i default))(h0:0<=at_)(h1:at_<=path.length)(hpl:path.length<=1000000)(hP:∀ b,P b->b<w.heap.size)(ht:Nds w P vn t)(hvp:aU w P vp path)(hk:(t.getD i default).kind=2) :
  Calls Tryz.prog 144 #[.agg #[vn],↑i,vp,↑at_] w (aI9 P (aR t path (f+1) i at_) (6 ^ (f+1)) w):=by
 have HT:=aYl ht;have HPP:=aYl hP;have HN:=aYl hn;have HVP:=aYl hvp;have HQ:=aYl (show aR t path (f+1) i at_=cY (aR t path f) path i (t.getD i default) at_ by simp only [aR,Int.toNat_natCast]);obtain ⟨An,cn,en,hn1,hn2⟩:=ht.form;subst en;obtain ⟨Ap,cp,ep,hp1,hp2⟩:=hvp.form;subst ep;obtain ⟨b1,o1,a1,rfl,-,ha1,hc1⟩:=ht.get hi;have HA:=aYl ha1;have lb1:=hc1.lt;have c0:=hc1.c0;have c1:=hc1.c1;have c2:=hc1.c2;have c3:=hc1.c3;have c4:=hc1.c4;have c5:=hc1.c5;have c6:=hc1.c6;have c7:=hc1.c7;have c8:=hc1.c8;have c9:=hc1.c9;have c10:=hc1.c10;have c11:=hc1.c11;have HK:=aYl hk;have t0:((t.getD i default).kind == 0)=false:=aYm U;have t1:((t.getD i default).kind == 1)=false:=aYm U;have t3:((t.getD i default).kind == 3)=false:=aYm U;have t4:((t.getD i default).kind == 4)=false:=aYm U;clear ht hP hc1 ha1 hk hn hvp;generalize t.getD i default=x at *;have HOPT:=aYl (fX HN.out);go_enter Tryz.func144,Tryz.ntmps144;go_upto_region 2 with fail;have HW:=aYl (zM.mk' (.slice (some ⟨b1,o1,none⟩) t.length cn) x a1 w);generalize hW:(((w.alloc (.cells #[.slice (some ⟨b1,o1,none⟩) t.length cn] 25)).alloc (.cells dP 154)).alloc (.cells (aL x a1).toArray 87))=W at *;clear hW;clear c0 c1 c2 c3 c4 c5 c6 c7 c8 c9 c10 c11
 by_cases hat:(path.length:Int)<=at_
 ·have ta:decide ((path.length:Int)<=at_)=true:=aYo hat
  have HR:=aYl (show aR t path (f+1) i at_=⟨bJ,0,i⟩ by rw [HQ.out];unfold cY;rw [(if_neg (show ¬ x.kind=0 by have:=HK.out;omega)),(if_neg (show ¬ x.kind=3 by have:=HK.out;omega)),(if_neg (show ¬ x.kind=4 by have:=HK.out;omega)),if_pos hat]);have hat':¬ at_<(path.length:Int):=by omega
  have x0:=HW.out.box.cell' (u:=↑x.kind) 0 rfl;have r0:=HW.out.res.cell' (u:=.int .i64 0) 0 rfl;have f0:=HW.out.res.frozen 0;have r1:=HW.out.res.cell' (u:=.int .i64 0) 1 rfl;have f1:=HW.out.res.frozen 1;have r2:=HW.out.res.cell' (u:=.string ⟨#[]⟩) 2 rfl;have f2:=HW.out.res.frozen 2;have r3:=HW.out.res.cell' (u:=.slice none 0 0) 3 rfl;have f3:=HW.out.res.frozen 3;have r4:=HW.out.res.cell' (u:=.int .i64 0) 4 rfl;have f4:=HW.out.res.frozen 4;have r5:=HW.out.res.cell' (u:=.int .i64 0) 5 rfl;have f5:=HW.out.res.frozen 5;have r6:=HW.out.res.cell' (u:=.slice none 0 0) 6 rfl;have f6:=HW.out.res.frozen 6;go_wp2_with fail;have q:=cK HW.out.res (.int .i64 0) (.int .i64 0) (.string ⟨#[]⟩) (.slice none 0 0) (.int .i64 0) (↑i) (.slice none 0 0);have HX2:=aYl (cX HW.out.ext (show w.heap.size<=w.heap.size+1 by omega) (.int .i64 0) (.int .i64 0) (.string ⟨#[]⟩) (.slice none 0 0) (.int .i64 0) (↑i) (.slice none 0 0))
  change bodyPost Tryz.prog Tryz.f144 _ Exit.ret _ (gZ W (w.heap.size+1) (.int .i64 0) (.int .i64 0) (.string ⟨#[]⟩) (.slice none 0 0) (.int .i64 0) (↑i) (.slice none 0 0))
  generalize gZ W (w.heap.size+1) (.int .i64 0) (.int .i64 0) (.string ⟨#[]⟩) (.slice none 0 0) (.int .i64 0) (↑i) (.slice none 0 0)=W' at *;have q0:=q.cell' (u:=.int .i64 0) 0 rfl;have q1:=q.cell' (u:=.int .i64 0) 1 rfl;have q2:=q.cell' (u:=.string ⟨#[]⟩) 2 rfl;have q3:=q.cell' (u:=.slice none 0 0) 3 rfl;have q4:=q.cell' (u:=.int .i64 0) 4 rfl;have q5:=q.cell' (u:=↑i) 5 rfl;have q6:=q.cell' (u:=.slice none 0 0) 6 rfl;rw [HR.out];refine bodyPost_ret (v:=.agg (cR ⟨bJ,0,i⟩ none 0 (.slice none 0 0))) (by simp [results,Tryz.results144,go_sem,q0,q1,q2,q3,q4,q5,q6];try (first | rfl | exact ⟨rfl,rfl,rfl,rfl⟩)) rfl ⟨none,0,.slice none 0 0,0,[],rfl,VAt.zero _ _,aN _ _ _ _,?_,HX2.out⟩;exact qH.nil f
 ·have ta:decide ((path.length:Int)<=at_)=false:=aYp hat
  have hat':at_<(path.length:Int):=U
  have hatn:at_.toNat<path.length:=U
  obtain ⟨bp,op,rfl,-,-,gp⟩:=(HVP.out.ext HW.out.ext).get hatn;have HR:=aYl (show aR t path (f+1) i at_=(if path.getD at_.toNat 0<0∨aP x<=path.getD at_.toNat 0 then ⟨bJ,0,-2⟩ else if x.kind=1 then ⟨.mk 0 (x.lo+path.getD at_.toNat 0) ByteArray.empty [],1,-1⟩ else ⟨(aR t path f (x.kids.getD (path.getD at_.toNat 0).toNat 0) (at_+1)).val,(aR t path f (x.kids.getD (path.getD at_.toNat 0).toNat 0) (at_+1)).used+1,(aR t path f (x.kids.getD (path.getD at_.toNat 0).toNat 0) (at_+1)).stop⟩) by rw [HQ.out];unfold cY;rw [(if_neg (show ¬ x.kind=0 by have:=HK.out;omega)),(if_neg (show ¬ x.kind=3 by have:=HK.out;omega)),(if_neg (show ¬ x.kind=4 by have:=HK.out;omega)),if_neg hat]);generalize path.getD at_.toNat 0=c at *;have x0:=HW.out.box.cell' (u:=↑x.kind) 0 rfl;have x1:=HW.out.box.cell' (u:=.string x.name) 1 rfl;have x2:=HW.out.box.cell' (u:=↑x.lo) 2 rfl;have x3:=HW.out.box.cell' (u:=↑x.hi) 3 rfl;have x4:=HW.out.box.cell' (u:=.slice a1.wA x.weights.length a1.wc) 4 rfl;have x5:=HW.out.box.cell' (u:=.slice a1.lA x.labels.length a1.lc) 5 rfl;have x6:=HW.out.box.cell' (u:=.slice a1.vA x.values.length a1.vc) 6 rfl;have x7:=HW.out.box.cell' (u:=.slice a1.kA x.kids.length a1.kc) 7 rfl
  have x8:=HW.out.box.cell' (u:=↑x.value.kind) 8 rfl;have x9:=HW.out.box.cell' (u:=↑x.value.n) 9 rfl;have x10:=HW.out.box.cell' (u:=.string x.value.s) 10 rfl;have x11:=HW.out.box.cell' (u:=.slice a1.xA x.value.kids.length a1.xc) 11 rfl;have r0:=HW.out.res.cell' (u:=.int .i64 0) 0 rfl;have f0:=HW.out.res.frozen 0;have r1:=HW.out.res.cell' (u:=.int .i64 0) 1 rfl;have f1:=HW.out.res.frozen 1;have r2:=HW.out.res.cell' (u:=.string ⟨#[]⟩) 2 rfl;have f2:=HW.out.res.frozen 2;have r3:=HW.out.res.cell' (u:=.slice none 0 0) 3 rfl;have f3:=HW.out.res.frozen 3;have r4:=HW.out.res.cell' (u:=.int .i64 0) 4 rfl;have f4:=HW.out.res.frozen 4;have r5:=HW.out.res.cell' (u:=.int .i64 0) 5 rfl;have f5:=HW.out.res.frozen 5;have r6:=HW.out.res.cell' (u:=.slice none 0 0) 6 rfl;have f6:=HW.out.res.frozen 6
  by_cases hc0:c<0
  ·have HR2:=aYl (show aR t path (f+1) i at_=⟨bJ,0,-2⟩ by rw [HR.out,if_pos (.inl hc0)])
   go_wp2_with fail;have q:=cK HW.out.res (.int .i64 0) (.int .i64 0) (.string ⟨#[]⟩) (.slice none 0 0) (.int .i64 0) (.int .i64 (-2)) (.slice none 0 0);have HX2:=aYl (cX HW.out.ext (show w.heap.size<=w.heap.size+1 by omega) (.int .i64 0) (.int .i64 0) (.string ⟨#[]⟩) (.slice none 0 0) (.int .i64 0) (.int .i64 (-2)) (.slice none 0 0))
   change bodyPost Tryz.prog Tryz.f144 _ Exit.ret _ (gZ W (w.heap.size+1) (.int .i64 0) (.int .i64 0) (.string ⟨#[]⟩) (.slice none 0 0) (.int .i64 0) (.int .i64 (-2)) (.slice none 0 0))
   generalize gZ W (w.heap.size+1) (.int .i64 0) (.int .i64 0) (.string ⟨#[]⟩) (.slice none 0 0) (.int .i64 0) (.int .i64 (-2)) (.slice none 0 0)=W' at *;have q0:=q.cell' (u:=.int .i64 0) 0 rfl;have q1:=q.cell' (u:=.int .i64 0) 1 rfl;have q2:=q.cell' (u:=.string ⟨#[]⟩) 2 rfl;have q3:=q.cell' (u:=.slice none 0 0) 3 rfl;have q4:=q.cell' (u:=.int .i64 0) 4 rfl;have q5:=q.cell' (u:=.int .i64 (-2)) 5 rfl;have q6:=q.cell' (u:=.slice none 0 0) 6 rfl;rw [HR2.out];refine bodyPost_ret (v:=.agg (cR ⟨bJ,0,-2⟩ none 0 (.slice none 0 0))) (by simp [results,Tryz.results144,go_sem,q0,q1,q2,q3,q4,q5,q6];try (first | rfl | exact ⟨rfl,rfl,rfl,rfl⟩)) rfl ⟨none,0,.slice none 0 0,0,[],rfl,VAt.zero _ _,aN _ _ _ _,?_,HX2.out⟩;exact qH.nil f
  go_wp2_with fail;refine (gU x a1 _).mono ?_;rintro e w1 ⟨rfl,hx1⟩;have HX1:=aYl hx1;have RES:=aYl (HW.out.res.ext hx1);have BOX:=aYl (HW.out.box.ext hx1);have TREE:=aYl (HW.out.tree.ext hx1);clear hx1 gp x0 x1 x2 x3 x4 x5 x6 x7 x8 x9 x10 x11 r0 r1 r2 r3 r4 r5 r6 f0 f1 f2 f3 f4 f5 f6;have x0:=BOX.out.cell' (u:=↑x.kind) 0 rfl;have x1:=BOX.out.cell' (u:=.string x.name) 1 rfl;have x2:=BOX.out.cell' (u:=↑x.lo) 2 rfl;have x3:=BOX.out.cell' (u:=↑x.hi) 3 rfl;have x4:=BOX.out.cell' (u:=.slice a1.wA x.weights.length a1.wc) 4 rfl;have x5:=BOX.out.cell' (u:=.slice a1.lA x.labels.length a1.lc) 5 rfl;have x6:=BOX.out.cell' (u:=.slice a1.vA x.values.length a1.vc) 6 rfl;have x7:=BOX.out.cell' (u:=.slice a1.kA x.kids.length a1.kc) 7 rfl;have x8:=BOX.out.cell' (u:=↑x.value.kind) 8 rfl;have x9:=BOX.out.cell' (u:=↑x.value.n) 9 rfl;have x10:=BOX.out.cell' (u:=.string x.value.s) 10 rfl;have x11:=BOX.out.cell' (u:=.slice a1.xA x.value.kids.length a1.xc) 11 rfl;have r0:=RES.out.cell' (u:=.int .i64 0) 0 rfl;have f0:=RES.out.frozen 0;have r1:=RES.out.cell' (u:=.int .i64 0) 1 rfl;have f1:=RES.out.frozen 1;have r2:=RES.out.cell' (u:=.string ⟨#[]⟩) 2 rfl;have f2:=RES.out.frozen 2
  have r3:=RES.out.cell' (u:=.slice none 0 0) 3 rfl;have f3:=RES.out.frozen 3;have r4:=RES.out.cell' (u:=.int .i64 0) 4 rfl;have f4:=RES.out.frozen 4;have r5:=RES.out.cell' (u:=.int .i64 0) 5 rfl;have f5:=RES.out.frozen 5;have r6:=RES.out.cell' (u:=.slice none 0 0) 6 rfl;have f6:=RES.out.frozen 6
  by_cases hco:aP x<=c
  ·have HR2:=aYl (show aR t path (f+1) i at_=⟨bJ,0,-2⟩ by rw [HR.out,if_pos (.inr hco)])
   have to':decide (aP x<=c)=true:=aYo hco;go_wp2_with fail;have q:=cK RES.out (.int .i64 0) (.int .i64 0) (.string ⟨#[]⟩) (.slice none 0 0) (.int .i64 0) (.int .i64 (-2)) (.slice none 0 0);have HX2:=aYl (cX (HW.out.ext.trans' HX1.out) (show w.heap.size<=w.heap.size+1 by omega) (.int .i64 0) (.int .i64 0) (.string ⟨#[]⟩) (.slice none 0 0) (.int .i64 0) (.int .i64 (-2)) (.slice none 0 0))
   change bodyPost Tryz.prog Tryz.f144 _ Exit.ret _ (gZ w1 (w.heap.size+1) (.int .i64 0) (.int .i64 0) (.string ⟨#[]⟩) (.slice none 0 0) (.int .i64 0) (.int .i64 (-2)) (.slice none 0 0))
   generalize gZ w1 (w.heap.size+1) (.int .i64 0) (.int .i64 0) (.string ⟨#[]⟩) (.slice none 0 0) (.int .i64 0) (.int .i64 (-2)) (.slice none 0 0)=W' at *;have q0:=q.cell' (u:=.int .i64 0) 0 rfl;have q1:=q.cell' (u:=.int .i64 0) 1 rfl;have q2:=q.cell' (u:=.string ⟨#[]⟩) 2 rfl;have q3:=q.cell' (u:=.slice none 0 0) 3 rfl;have q4:=q.cell' (u:=.int .i64 0) 4 rfl;have q5:=q.cell' (u:=.int .i64 (-2)) 5 rfl;have q6:=q.cell' (u:=.slice none 0 0) 6 rfl;rw [HR2.out];refine bodyPost_ret (v:=.agg (cR ⟨bJ,0,-2⟩ none 0 (.slice none 0 0))) (by simp [results,Tryz.results144,go_sem,q0,q1,q2,q3,q4,q5,q6];try (first | rfl | exact ⟨rfl,rfl,rfl,rfl⟩)) rfl ⟨none,0,.slice none 0 0,0,[],rfl,VAt.zero _ _,aN _ _ _ _,?_,HX2.out⟩;exact qH.nil f
  have to':decide (aP x<=c)=false:=aYp hco;have HR3:=aYl (HR.out.trans (if_neg (fun h:c<0∨aP x<=c=>by omega)));have HR4:=aYl (HR3.out.trans (if_neg (show ¬ x.kind=1 by have:=HK.out;omega)));have hop:=HOPT.out;rw [if_neg (show ¬ x.kind=1 by have:=HK.out;omega)] at hop;have hcn:c.toNat<x.kids.length:=by omega
  have hc2:c<(x.kids.length:Int):=U
  clear hop;obtain ⟨bk,ok,ek,-,-,gk⟩:=((HA.out.kids.ext HW.out.ext).ext HX1.out).get hcn;have hz:=HN.out.kids _ (aF (d:=0) hcn);rw [ek] at x7;clear ek;have y0:=TREE.out.cell' (u:=.slice (some ⟨b1,o1,none⟩) t.length cn) 0 rfl;generalize x.kids.getD c.toNat 0=z at *;obtain ⟨zn,rfl⟩:∃ zn:Nat,z=zn:=⟨z.toNat,U⟩;have ha1:IntKind.i64.wrap (at_+1)=at_+1:=IntWalk.i64_in _ U;have hsz:=HX1.out.size;have hsw:=HW.out.size;go_upto_region 21 with fail;have HT1:=aYl (HT.out.ext (HW.out.ext.trans' HX1.out));have HVP1:=aYl (HVP.out.ext (HW.out.ext.trans' HX1.out));have HSA:=aYl (hS zn (at_+1) P _ _ ((w1.alloc (.cells dP 154)).drew) U U U U (fun b hb=>by have:=HPP.out b hb;simp;omega) (HT1.out.ext ((Ext.refl _).alloc' _).drew') (HVP1.out.ext ((Ext.refl _).alloc' _).drew'));have HSB:=aYl (hS zn (at_+1) P _ _ w1.drew U U U U (fun b hb=>by have:=HPP.out b hb;show b<w1.heap.size;omega) (HT1.out.ext (Ext.refl _).drew') (HVP1.out.ext (Ext.refl _).drew'));have hro:=hR zn (at_+1) U U U U;generalize hgr:aR t path f (zn:Int) (at_+1)=r at *;clear hgr;have hu0:=hro.used0;have hu1:=hro.usedP;clear hro
  have lbk:=aQ gk;have hn1:¬ w.heap.size=w1.heap.size:=by omega
  have hn2:¬ w.heap.size+1+1=w1.heap.size:=U
  have hn3:¬ bk=w1.heap.size:=U
  go_cut [15] (fun s wx=>kQ P r (6 ^ f) w1 s wx)
  case first =>
   go_region_held3 (fun w'=>w'.cell? ⟨w.heap.size,0,none⟩=some (.slice (some ⟨b1,o1,none⟩) t.length cn)∧w'.cell? ⟨w.heap.size+1+1,7,none⟩=some (.slice (some ⟨bk,ok,none⟩) x.kids.length a1.kc)∧w'.cell? ⟨bk,ok+c.toNat,none⟩=some (.int .i64 zn))
    (first
     | (go_split_ands
        with_reducible exact ⟨bH hn1 ‹_›,bH hn2 ‹_›,bH hn3 ‹_›⟩)
     | (go_split_ands
        with_reducible exact ⟨aA hx2 ‹_›,aA hx2 ‹_›,aA hx2 ‹_›⟩)
     | (go_split_ands
        with_reducible exact ⟨bP hq1 ‹_›,bP hq2 ‹_›,bP hq3 ‹_›⟩)
     | (go_split_ands
        with_reducible exact ⟨bC ‹_› _,bC ‹_› _,bC ‹_› _⟩)
     | go_keep)
    (first
     | (go_at_call 144;(with_reducible refine HSB.out.mono ?_);rintro e w2 ⟨A2,d2,sv,m,xs,rfl,hv2,hown2,hm2,hx2⟩;obtain ⟨A3,c3,e3,-,-,-⟩:=Sl.of_own hown2;subst e3;have hs2:=hx2.size;simp at hs2;have hq1:w.heap.size<w2.heap.size:=(by omega);have hq2:w.heap.size+1+1<w2.heap.size:=(by omega);have hq3:bk<w2.heap.size:=(by omega))
     | (go_at_call 144;(with_reducible refine HSA.out.mono ?_);rintro e w2 ⟨A2,d2,sv,m,xs,rfl,hv2,hown2,hm2,hx2⟩;obtain ⟨A3,c3,e3,-,-,-⟩:=Sl.of_own hown2;subst e3;have BZ:=((Blk.new' w1 154 dP (g:=w1.heap.size) rfl).drew).ext hx2;have z0:=BZ.cell' (u:=.int .i64 0) 0 rfl;have z1:=BZ.cell' (u:=.int .i64 0) 1 rfl;have z2:=BZ.cell' (u:=.string ⟨#[]⟩) 2 rfl;have z3:=BZ.cell' (u:=.slice none 0 0) 3 rfl;have z4:=BZ.cell' (u:=.int .i64 0) 4 rfl;have z5:=BZ.cell' (u:=.int .i64 0) 5 rfl;have z6:=BZ.cell' (u:=.slice none 0 0) 6 rfl;have y0:=BZ.frozen 0;have y1:=BZ.frozen 1;have y2:=BZ.frozen 2;have y3:=BZ.frozen 3;have y4:=BZ.frozen 4;have y5:=BZ.frozen 5;have y6:=BZ.frozen 6;have hs2:=hx2.size;simp at hs2;clear BZ))
   ·go_wp2_with fail
    go_meet;exact kQ.late (fun b hb=>by have:=HPP.out b hb;omega) hv2 hown2 hm2 ((Ext.refl w1).drew'.trans' hx2)
   ·go_wp2_with fail
    go_meet;exact kQ.early (fun b hb=>by have:=HPP.out b hb;omega) hv2 hown2 hm2 (by simp) ((Ext.refl _).drew'.trans' hx2)
  case rest =>
   obtain ⟨wy,g,A2,d2,sv,m,xs,rfl,rfl,hB,hg,hv,hown,hm,hsg,hx2⟩:=hcut;obtain ⟨A3,c3,e3,-,-,-⟩:=Sl.of_own hown;subst e3;have HV':=aYl hv;have HO':=aYl hown;have HM:=aYl hm;have HSG:=aYl hsg;have HX3:=aYl hx2;have k0:=hB.cell' (u:=↑r.val.kind) 0 rfl;have k1:=hB.cell' (u:=↑r.val.n) 1 rfl;have k2:=hB.cell' (u:=.string r.val.s) 2 rfl;have k3:=hB.cell' (u:=.slice A2 r.val.kids.length d2) 3 rfl;have k4:=hB.cell' (u:=↑r.used) 4 rfl;have k5:=hB.cell' (u:=↑r.stop) 5 rfl;have k6:=hB.cell' (u:=.slice A3 m c3) 6 rfl;have kf4:=hB.frozen 4;have RES2:=aYl (RES.out.ext hx2);have hgn:¬ g=w.heap.size+1:=by omega
   clear hB hv hown hm hsg r0 r1 r2 r3 r4 r5 r6 f0 f1 f2 f3 f4 f5 f6 x0 x1 x2 x3 x4 x5 x6 x7 x8 x9 x10 x11 gk y0 hn1 hn2 hn3;have r0:=RES2.out.cell' (u:=.int .i64 0) 0 rfl;have f0:=RES2.out.frozen 0;have r1:=RES2.out.cell' (u:=.int .i64 0) 1 rfl;have f1:=RES2.out.frozen 1;have r2:=RES2.out.cell' (u:=.string ⟨#[]⟩) 2 rfl;have f2:=RES2.out.frozen 2;have r3:=RES2.out.cell' (u:=.slice none 0 0) 3 rfl;have f3:=RES2.out.frozen 3;have r4:=RES2.out.cell' (u:=.int .i64 0) 4 rfl;have f4:=RES2.out.frozen 4;have r5:=RES2.out.cell' (u:=.int .i64 0) 5 rfl;have f5:=RES2.out.frozen 5;have r6:=RES2.out.cell' (u:=.slice none 0 0) 6 rfl;have f6:=RES2.out.frozen 6;clear hx2;go_wp2_with fail
   have hQ:∀ b,((P b∨w1.heap.size<=b)∧b ≠ g)->b ≠ w.heap.size+1:=by
    rintro b ⟨h | h,_⟩
    ·have:=HPP.out b h;omega
    ·omega
   have RES3:=aYl (RES2.out.far (p:=⟨g,4,none⟩) (fun e=>hgn e.symm) (.int .i64 (r.used+1)));have q:=cK RES3.out (↑r.val.kind) (↑r.val.n) (.string r.val.s) (.slice A2 r.val.kids.length d2) (.int .i64 (r.used+1)) (↑r.stop) (.slice A3 m c3);have HX2:=aYl (cX ((((HW.out.ext.trans' HX1.out).trans' HX3.out)).setCell' (p:=⟨g,4,none⟩) (by show w.heap.size<=g;omega) (.int .i64 (r.used+1))) (show w.heap.size<=w.heap.size+1 by omega) (↑r.val.kind) (↑r.val.n) (.string r.val.s) (.slice A2 r.val.kids.length d2) (.int .i64 (r.used+1)) (↑r.stop) (.slice A3 m c3))
   have HV:=aYl (show VAt (gZ (wy.setCell ⟨g,4,none⟩ (.int .i64 (r.used+1))) (w.heap.size+1) (↑r.val.kind) (↑r.val.n) (.string r.val.s) (.slice A2 r.val.kids.length d2) (.int .i64 (r.used+1)) (↑r.stop) (.slice A3 m c3)) (New P w.heap.size) r.val A2 d2 from by
    have hk0:aB (fun b=>(P b∨w1.heap.size<=b)∧b ≠ g) wy (wy.setCell ⟨g,4,none⟩ (.int .i64 (r.used+1))):=aB.set (fun _ _ _=>rfl) (p:=⟨g,4,none⟩) _ (fun h=>h.2 rfl);have h1:=HV'.out.carry (Q:=fun b=>(P b∨w1.heap.size<=b)∧b ≠ g) hk0 (fun _ _ h=>h);exact h1.carry (dK (fun h=>hQ _ h rfl) _ _ _ _ _ _ _) (fun b hb h=>h.1.elim .inl (fun h=>.inr U)))
   have HO:=aYl (fR (ownsRow_setCell_other (HO'.out) (a:=⟨g,4,none⟩) HSG.out (.int .i64 (r.used+1))) (show w.heap.size+1<w1.heap.size by omega) (↑r.val.kind) (↑r.val.n) (.string r.val.s) (.slice A2 r.val.kids.length d2) (.int .i64 (r.used+1)) (↑r.stop) (.slice A3 m c3) |>.base_le (show w.heap.size<=w1.heap.size by omega))
   change bodyPost Tryz.prog Tryz.f144 _ Exit.ret _ (gZ (wy.setCell ⟨g,4,none⟩ (.int .i64 (r.used+1))) (w.heap.size+1) (↑r.val.kind) (↑r.val.n) (.string r.val.s) (.slice A2 r.val.kids.length d2) (.int .i64 (r.used+1)) (↑r.stop) (.slice A3 m c3))
   generalize gZ (wy.setCell ⟨g,4,none⟩ (.int .i64 (r.used+1))) (w.heap.size+1) (↑r.val.kind) (↑r.val.n) (.string r.val.s) (.slice A2 r.val.kids.length d2) (.int .i64 (r.used+1)) (↑r.stop) (.slice A3 m c3)=W' at *;have q0:=q.cell' (u:=↑r.val.kind) 0 rfl;have q1:=q.cell' (u:=↑r.val.n) 1 rfl;have q2:=q.cell' (u:=.string r.val.s) 2 rfl;have q3:=q.cell' (u:=.slice A2 r.val.kids.length d2) 3 rfl;have q4:=q.cell' (u:=.int .i64 (r.used+1)) 4 rfl;have q5:=q.cell' (u:=↑r.stop) 5 rfl;have q6:=q.cell' (u:=.slice A3 m c3) 6 rfl;rw [HR4.out];refine bodyPost_ret (v:=.agg (cR ⟨r.val,r.used+1,r.stop⟩ A2 d2 (.slice A3 m c3))) (by simp [results,Tryz.results144,go_sem,q0,q1,q2,q3,q4,q5,q6];try (first | rfl | exact ⟨rfl,rfl,rfl,rfl⟩)) rfl ⟨A2,d2,.slice A3 m c3,m,xs,rfl,HV.out,HO.out,?_,HX2.out⟩;exact HM.out.succ
end Go.Proofs.YtkoeecdjijfjnaaGreat
