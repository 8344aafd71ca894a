/- Contracts of functions, plain laws. Conditions: none. -/
import Derived.Test.YtkoeecdjijfjnaaGreatD7
set_option maxRecDepth 100000
set_option maxHeartbeats 8000000
namespace Go.Proofs.YtkoeecdjijfjnaaGreat
open Go.RowKit
theorem jZ (x:GN)(a:NA)(b o:Nat)(kids:List GV)(A:Option Addr)(c:Nat)(w:World)(hn:cC w b o x a) :
  Calls Tryz.prog 97 #[.pointer (some ⟨b,o,none⟩),.slice A kids.length c] w fun e w'=>e=.returned (eI (cE x.name kids) A c)∧Ext w w':=by
 have c1:=hn.c1;have lb:=hn.lt;clear hn
 by_cases he:x.name.toList=[]
 ·have he1:x.name.toList.isEmpty=true:=by simp [he]
  have HM:=aV4 (show cE x.name kids=.mk 2 0 ByteArray.empty kids by unfold cE bC;rw [he1];rfl);go_enter Tryz.func97,Tryz.ntmps97;go_wp2_with fail;rw [HM.out];exact bodyPost_ret (v:=.agg #[.int .i64 2,.int .i64 0,.string ByteArray.empty,.slice A kids.length c]) (by simp [results,Tryz.results97,go_sem];rfl) rfl ⟨rfl,(Ext.refl _).alloc' _⟩
 ·have he1:x.name.toList.isEmpty=false:=by simpa using he
  have HM:=aV4 (show cE x.name kids=.mk 3 0 x.name kids by unfold cE bC;rw [he1];rfl);go_enter Tryz.func97,Tryz.ntmps97;go_wp2_with fail;rw [HM.out];exact bodyPost_ret (v:=.agg #[.int .i64 3,.int .i64 0,.string x.name,.slice A kids.length c]) (by simp [results,Tryz.results97,go_sem]) rfl ⟨rfl,(Ext.refl _).alloc' _⟩
theorem pL (x:GN)(a:NA)(b o:Nat)(w:World)(hn:cC w b o x a) :
  Calls Tryz.prog 147 #[.pointer (some ⟨b,o,none⟩)] w (aS1 (.int .i64 (bE x)) w):=by
 have HO:=aV4 (show bE x=if x.kind=1 then wrap64 (wrap64 (x.hi - x.lo)+1) else x.kids.length from rfl);have c0:=hn.c0;have c2:=hn.c2;have c3:=hn.c3;have c7:=hn.c7;clear hn
 by_cases hk:x.kind=1
 ·have t1:(x.kind == 1)=true:=aV6 hk
  have HK:=aV4 hk;clear hk;go_enter Tryz.func147,Tryz.ntmps147;go_wp2_with fail;go_quiet (fail);go_wp2_with fail;go_ret;refine ⟨aM ?_,_,rfl⟩;rw [HO.out,if_pos HK.out]
 ·have t1:(x.kind == 1)=false:=aV5 hk
  have HK:=aV4 hk;clear hk;go_enter Tryz.func147,Tryz.ntmps147;go_wp2_with fail;go_ret;exact ⟨aM (by rw [HO.out,if_neg HK.out]),0,rfl⟩
def aOe (ls:List Int)(x:GN)(ch:Bool)(W:World)(s m i:Value)(wr:World):Prop :=
 ∃ (k:Nat) (s1 m1:Int),k<=x.kids.length∧i=.int .i64 k∧s=.int .i64 s1∧m=.int .i64 m1∧W=wr ∧
  bZ ls 0 x.kids=bZ ls s1 (x.kids.drop k)∧aL ls ch 0 0 x.kids=aL ls ch k m1 (x.kids.drop k)
theorem lB (ls:List Int)(x:GN)(a:NA)(b o:Nat)(P Q:Nat->Prop)(vl:Value)(w:World)(hn:cC w b o x a)(hx:NAt w P x a)(hl:bT w Q vl ls)(hok:dP ls.length x) :
  Calls Tryz.prog 96 #[.pointer (some ⟨b,o,none⟩),vl] w fun e w'=>e=.returned (.int .i64 (fQ ls x))∧w=w':=by
 have HL:=aV4 hl;have hki:=hx.kids;have HK:=aV4 hok.kids;have hkd:=hok.kind;have HBD:=aV4 (show x.kind=4->0<x.kids.length from fun h=>by have:=hok.bind h;omega);obtain ⟨Al,cl,el,hl1,hl2⟩:=hl.form;subst el;obtain ⟨hkl1,hkl2⟩:=hx.kids.le;have c0:=hn.c0;have c7:=hn.c7;have HLR:=aV4 (show fQ ls x=if x.kind=0 then 0 else if x.kind=1 then 1 else if x.kind=3 then bZ ls 0 x.kids else if x.kind=2 then wrap64 (1+aL ls true 0 0 x.kids) else wrap64 (ls.getD (x.kids.getD 0 0).toNat 0+aL ls false 0 0 x.kids) from rfl);clear hx hl hok hn;generalize a.kA=Ak at *;generalize a.kc=kc at *;have HX:=aV4 hki;clear hki;obtain ⟨ch,hch⟩:∃ ch:Bool,ch=decide (x.kind=2):=⟨_,rfl⟩;have HCH:=aV4 hch;have t2:(x.kind == 2)=ch:=by rw [hch];exact rfl
 clear hch;go_enter Tryz.func96,Tryz.ntmps96;go_wp2_with fail;go_loopw [5,6,14] (fun s m i wr=>aOe ls x ch w s m i wr) (fun _ _ i _=>x.kids.length - (intOf i).toNat)
 case atStart=>exact ⟨0,0,0,Nat.zero_le _,rfl,rfl,rfl,rfl,rfl,rfl⟩
 case round =>
  obtain ⟨k,s1,m1,hk,rfl,rfl,rfl,rfl,hs,hm⟩:=hrel;have HS:=aV4 hs;have HM:=aV4 hm;clear hs hm
  by_cases hlt:k<x.kids.length
  ·obtain ⟨b1,o1,rfl,-,-,g1⟩:=HX.out.get hlt
   have hz:=HK.out _ (aG (d:=0) hlt);have HD1:=aV4 (HS.out.trans (by rw [aH 0 hlt,bZ]));have HD2:=aV4 (show aL ls ch 0 0 x.kids=aL ls ch (k+1) (if ch=true∨0<k then (if m1<ls.getD (x.kids.getD k 0).toNat 0 then ls.getD (x.kids.getD k 0).toNat 0 else m1) else m1) (x.kids.drop (k+1)) by rw [HM.out,aH 0 hlt,aL]);generalize x.kids.getD k 0=z at *;obtain ⟨b2,o2,rfl,-,-,g2⟩:=HL.out.get (i:=z.toNat) (by omega);generalize ls.getD z.toNat 0=y at *
   by_cases hk0:0<k
   ·have tk:decide (0<(k:Int))=true:=aV7 (by omega)
    go_wp2_with fail
    all_goals
     go_roundw
     case rel=>exact ⟨k+1,_,_,by omega,by go_num,rfl,rfl,rfl,HD1.out,by rw [HD2.out,if_pos (.inr hk0)];try (first | rw [if_pos (by assumption)] | rw [if_neg (by omega)])⟩
     case measure=>simp [intOf];omega
   ·have tk:decide (0<(k:Int))=false:=aV8 (by omega)
    cases ch
    ·go_wp2_with fail
     go_roundw
     case rel=>exact ⟨k+1,_,_,by omega,by go_num,rfl,rfl,rfl,HD1.out,by rw [HD2.out,if_neg (by simp;omega)]⟩
     case measure=>simp [intOf];omega
    ·go_wp2_with fail
     all_goals
      go_roundw
      case rel=>exact ⟨k+1,_,_,by omega,by go_num,rfl,rfl,rfl,HD1.out,by rw [HD2.out,if_pos (.inl rfl)];try (first | rw [if_pos (by assumption)] | rw [if_neg (by omega)])⟩
      case measure=>simp [intOf];omega
  ·have HS2:=aV4 (show bZ ls 0 x.kids=s1 by rw [HS.out,drop_nil (by omega),bZ])
   have HM2:=aV4 (show aL ls ch 0 0 x.kids=m1 by rw [HM.out,drop_nil (by omega),aL]);clear t2
   by_cases k0:x.kind=0
   ·have t0:(x.kind == 0)=true:=aV6 k0
    have t1:(x.kind == 1)=false:=aV5 (by omega);have t2:(x.kind == 2)=false:=aV5 (by omega);have t3:(x.kind == 3)=false:=aV5 (by omega);have t4:(x.kind == 4)=false:=aV5 (by omega);have HF:=aV4 (show fQ ls x=0 by rw [HLR.out,if_pos k0]);clear k0;go_wp2_with fail;go_ret;exact ⟨aM HF.out.symm,rfl⟩
   by_cases k1:x.kind=1
   ·have t1:(x.kind == 1)=true:=aV6 k1
    have HF:=aV4 (show fQ ls x=1 by rw [HLR.out,if_neg k0,if_pos k1]);clear k1 k0;go_wp2_with fail;go_ret;exact ⟨aM HF.out.symm,rfl⟩
   have t1:(x.kind == 1)=false:=aV5 k1
   by_cases k2:x.kind=2
   ·have t2:(x.kind == 2)=true:=aV6 k2
    have HF:=aV4 (show fQ ls x=wrap64 (1+m1) by rw [HLR.out,if_neg k0,if_neg k1,if_neg (by omega),if_pos k2,<- HM2.out,HCH.out,aV7 k2]);clear k2 k1 k0;go_wp2_with fail;go_ret;exact ⟨aM HF.out.symm,rfl⟩
   have t2:(x.kind == 2)=false:=aV5 k2
   by_cases k3:x.kind=3
   ·have t3:(x.kind == 3)=true:=aV6 k3
    have HF:=aV4 (show fQ ls x=s1 by rw [HLR.out,if_neg k0,if_neg k1,if_pos k3,HS2.out]);clear k3 k2 k1 k0;go_wp2_with fail;go_ret;exact ⟨aM HF.out.symm,rfl⟩
   have t3:(x.kind == 3)=false:=aV5 k3;have k4:x.kind=4:=by omega
   have t4:(x.kind == 4)=true:=aV6 k4;have hkp:=HBD.out k4;have HF:=aV4 (show fQ ls x=wrap64 (ls.getD (x.kids.getD 0 0).toNat 0+m1) by rw [HLR.out,if_neg k0,if_neg k1,if_neg k3,if_neg k2,<- HM2.out,HCH.out,aV8 k2]);obtain ⟨b1,o1,rfl,-,-,g1⟩:=HX.out.get hkp;rw [Nat.add_zero] at g1;have hz:=HK.out _ (aG (d:=0) hkp);generalize x.kids.getD 0 0=z at *;obtain ⟨b2,o2,rfl,-,-,g2⟩:=HL.out.get (i:=z.toNat) (by omega);have hk1:(0:Int)<(x.kids.length:Int):=by omega
   generalize ls.getD z.toNat 0=y at *;clear k4 k3 k2 k1 k0;go_wp2_with fail;go_ret;exact ⟨aM HF.out.symm,rfl⟩
def dW:List GV->List GV->List GV
 | [],b=>b
 | x :: xs,[]=>x :: xs
 | x :: xs,y :: ys=>if cO x y<0 then x :: dW xs (y :: ys) else if cO x y=0 then x :: dW xs ys else y :: dW (x :: xs) ys
termination_by a b=>a.length+b.length
decreasing_by all_goals (simp only [List.length_cons];omega)
theorem fC (b:List GV):dW [] b=b:=by simp [dW]
theorem mV (a:List GV):dW a []=a:=by cases a <;> simp [dW]
theorem lG (x y:GV)(xs ys:List GV):dW (x :: xs) (y :: ys)=if cO x y<0 then x :: dW xs (y :: ys) else if cO x y=0 then x :: dW xs ys else y :: dW (x :: xs) ys:=by rw [dW]
theorem fL:∀ (a b:List GV)(z:GV),z ∈ dW a b ↔ z ∈ a∨z ∈ b
 | [],b,z=>by simp [fC]
 | x :: xs,[],z=>by simp [mV]
 | x :: xs,y :: ys,z=>by
  rw [lG]
  split
  ·rw [List.mem_cons,fL xs (y :: ys) z];simp only [List.mem_cons]
   constructor
   ·rintro (h | h | (h | h))
    ·exact .inl (.inl h)
    ·exact .inl (.inr h)
    ·exact .inr (.inl h)
    ·exact .inr (.inr h)
   ·rintro ((h | h) | (h | h))
    ·exact .inl h
    ·exact .inr (.inl h)
    ·exact .inr (.inr (.inl h))
    ·exact .inr (.inr (.inr h))
  ·split
   ·next h0 =>
    have e:=fW x y h0;subst e;rw [List.mem_cons,fL xs ys z];simp only [List.mem_cons]
    constructor
    ·rintro (h | h | h)
     ·exact .inl (.inl h)
     ·exact .inl (.inr h)
     ·exact .inr (.inr h)
    ·rintro ((h | h) | (h | h))
     ·exact .inl h
     ·exact .inr (.inl h)
     ·exact .inl h
     ·exact .inr (.inr h)
   ·rw [List.mem_cons,fL (x :: xs) ys z];simp only [List.mem_cons]
    constructor
    ·rintro (h | (h | h) | h)
     ·exact .inr (.inl h)
     ·exact .inl (.inl h)
     ·exact .inl (.inr h)
     ·exact .inr (.inr h)
    ·rintro ((h | h) | (h | h))
     ·exact .inr (.inl (.inl h))
     ·exact .inr (.inl (.inr h))
     ·exact .inl h
     ·exact .inr (.inr h)
termination_by a b=>a.length+b.length
decreasing_by all_goals (simp only [List.length_cons];omega)
theorem iP:∀ (a b:List GV),Inc a->Inc b->Inc (dW a b)
 | [],b,_,hb=>by rw [fC];exact hb
 | x :: xs,[],ha,_=>by rw [mV];exact ha
 | x :: xs,y :: ys,ha,hb=>by
  have ha':=List.pairwise_cons.1 ha;have hb':=List.pairwise_cons.1 hb;rw [lG]
  split
  ·next h =>
   refine List.pairwise_cons.2 ⟨fun z hz=>?_,iP xs (y :: ys) ha'.2 hb⟩;rcases (fL xs (y :: ys) z).1 hz with hz | hz
   ·exact ha'.1 z hz
   ·rcases List.mem_cons.1 hz with rfl | hz
    ·exact h
    ·exact ltV.tr h (hb'.1 z hz)
  ·split
   ·next h0 =>
    have e:=fW x y h0;subst e;refine List.pairwise_cons.2 ⟨fun z hz=>?_,iP xs ys ha'.2 hb'.2⟩;rcases (fL xs ys z).1 hz with hz | hz
    ·exact ha'.1 z hz
    ·exact hb'.1 z hz
   ·next h h0 =>
    have hyx:ltV y x:=by unfold ltV;have:=mF x y;omega
    refine List.pairwise_cons.2 ⟨fun z hz=>?_,iP (x :: xs) ys ha hb'.2⟩;rcases (fL (x :: xs) ys z).1 hz with hz | hz
    ·rcases List.mem_cons.1 hz with rfl | hz
     ·exact hyx
     ·exact hyx.tr (ha'.1 z hz)
    ·exact hb'.1 z hz
termination_by a b=>a.length+b.length
decreasing_by all_goals (simp only [List.length_cons];omega)
theorem yA {a b:List GV}(ha:Inc a)(hb:Inc b):dW a b=eS (a ++ b) :=
 Inc.ext (iP a b ha hb) (jR _) (fun z=>by rw [fL,eY,List.mem_append])
def aUb (P:Nat->Prop)(l:List GV)(w:World)(e:Ending)(w':World):Prop :=
 ∃ A c,e=.returned (.slice A l.length c)∧cB w' (New P w.heap.size) (.slice A l.length c) l∧Ext w w'
theorem cB.tail {w:World}{P:Nat->Prop}{b off c:Nat}{x:GV}{l:List GV}(h:cB w P (.slice (some ⟨b,off,none⟩) (l.length+1) c) (x :: l)):cB w P (.slice (some ⟨b,off+4,none⟩) l.length (c - 1)) l:=by
 obtain ⟨A,c',css,e,h1,h2,h3,h4⟩:=h;injection e with e1 e2 e3;subst e1 e3;have h5:=h3.drop (k:=1) (by simp);have h6:=h4.drop 1;simp only [List.drop_succ_cons,List.drop_zero,Nat.one_mul,List.length_cons,Nat.add_sub_cancel] at h5 h6;simp only [List.length_cons] at h1 h2;exact ⟨_,c - 1,_,rfl,by omega,by omega,h5,h6⟩
theorem cB.nil_any (w:World)(P:Nat->Prop)(A:Option Addr)(c:Nat)(hc:c<=9223372036854775807):cB w P (.slice A 0 c) []:=⟨A,c,[],rfl,by simp,⟨by simp,hc⟩,⟨rfl,fun h=>absurd h (by simp)⟩,rfl⟩
def aIp (a b:List GV)(P:Nat->Prop)(w:World)(B:Nat)(v0 v1 v5:Value)(wr:World):Prop :=
 ∃ (a' b' out:List GV) (xs:List Value),cB wr P v0 a'∧cB wr P v1 b'∧wr.ownsRow B 85 4 v5 out.length xs∧RVs wr P out xs∧Ext w wr∧out.length+a'.length+b'.length<=a.length+b.length∧dW a b=out ++ dW a' b'
theorem aBl (a b:List GV)(P:Nat->Prop)(va vb:Value)(w:World)(ha:cB w P va a)(hb:cB w P vb b)(hla:a.length<=100000)(hlb:b.length<=100000)(hP:∀ b,P b->b<w.heap.size) :
  Calls Tryz.prog 217 #[va,vb] w (aUb P (dW a b) w):=by
 have HA:=aV4 ha;have HB:=aV4 hb;have HPP:=aV4 hP;obtain ⟨Aa,ca,ea,ha1,ha2⟩:=ha.form;obtain ⟨Ab,cb,eb,hb1,hb2⟩:=hb.form;subst ea eb;clear ha hb hP;obtain ⟨i0,hi,hz0,hz1,hz2⟩:=info_parts Tryz.info85;have HI:=aV4 hi
 by_cases h0:a.length=0
 ·have hnil:a=[]:=List.length_eq_zero_iff.1 h0
  have HQ:=aV4 (show dW a b=b by rw [hnil,fC]);have t0:((a.length:Int) == 0)=true:=aV6 (by omega);have t1:(a.length == 0)=true:=aV6 h0;have hle:¬ 0<a.length:=by omega
  clear hi hnil h0;go_enter Tryz.func217,Tryz.ntmps217;go_wp2_with fail;go_ret;rw [HQ.out];exact ⟨Ab,cb,rfl,HB.out.imp (fun _ _ h=>.inl h),Ext.refl _⟩
 have t0:((a.length:Int) == 0)=false:=aV5 (by omega);have t1:(a.length == 0)=false:=aV5 h0
 have hmk:∀ W:World,(Instr.makeSlice 83 (.int .i64 0) (.int .i64 ((a.length:Int)+(b.length:Int)))).run Tryz.prog W=.ok (.slice (some ⟨W.heap.size,0,none⟩) 0 (a.length+b.length)) (W.alloc (.cells (madeCells (Value.agg #[.int .i64 0,.int .i64 0,.string ByteArray.empty,.slice none 0 0]).cells ((a.length+b.length)*4)) 85)):=by
  intro W;have h:=run_make (P:=Tryz.prog) W 83 85 i0 _ Tryz.underlying83 hi hz0 .i64 .i64 0 ((a.length:Int)+(b.length:Int)) (Int.le_refl _) (by omega) (by rw [hz2];omega) (by omega);rw [hz1] at h;rw [h];have e:((a.length:Int)+(b.length:Int)).toNat=a.length+b.length:=by omega
  rw [e]
  rfl
 clear hi h0;go_enter Tryz.func217,Tryz.ntmps217;go_wp2_with fail;have HOW:=aV4 (World.ownsRow_made (base:=w.heap.size) (e:=85) (size:=4) w (madeCells #[.int .i64 0,.int .i64 0,.string ByteArray.empty,.slice none 0 0] ((a.length+b.length)*4)) (a.length+b.length) (Nat.le_refl _) (by unfold maxLen;omega) (size_madeCells _ _));have HE:=aV4 (show Ext w (w.alloc (.cells (madeCells #[.int .i64 0,.int .i64 0,.string ByteArray.empty,.slice none 0 0] ((a.length+b.length)*4)) 85)) from (Ext.refl w).alloc' _);generalize hW:w.alloc (.cells (madeCells #[.int .i64 0,.int .i64 0,.string ByteArray.empty,.slice none 0 0] ((a.length+b.length)*4)) 85)=W at *;clear hW hmk;go_loopw [0,1,5] (fun v0 v1 v5 wr=>aIp a b P w w.heap.size v0 v1 v5 wr) (fun v0 v1 _ _=>lenOf v0+lenOf v1)
 case atStart=>exact ⟨a,b,[],[],HA.out.ext HE.out,HB.out.ext HE.out,HOW.out,rfl,HE.out,by simp,rfl⟩
 case round =>
  obtain ⟨a',b',out,xs,hva,hvb,hown,hrv,hx,hle,hmv⟩:=hrel;have HVA:=aV4 hva;have HVB:=aV4 hvb;have HOWN:=aV4 hown;have HRV:=aV4 hrv;have HX:=aV4 hx;have HMV:=aV4 hmv;obtain ⟨A0,c0,e0,h01,h02⟩:=hva.form;obtain ⟨A1,c1,e1,h11,h12⟩:=hvb.form;obtain ⟨A5,c5,e5,-,-,-⟩:=Sl.of_own hown;subst e0 e1 e5;have hsz:=hx.size;clear hva hvb hown hrv hx hmv;rcases a' with _ | ⟨x,xs'⟩
  ·skip
   have HM2:=aV4 (HMV.out.trans (by rw [fC]));obtain ⟨s0,hs0,hr0⟩:=HVA.out.slice_parts;obtain ⟨s1,hs1,hr1⟩:=HVB.out.slice_parts;have HS0:=aV4 hs0;have HR0:=aV4 hr0;have HS1:=aV4 hs1;have HR1:=aV4 hr1;clear hs0 hr0 hs1 hr1;simp only [List.length_nil] at hle h01 h02 h11 h12
   go_wp2_with (first
    | (at_builtin;refine aN _ rfl (.tmp 52) (.tmp 53) 83 (by rfl) w.heap.size 85 i0 _ 4 56 Tryz.underlying83 HI.out hz0 hz1 hz2 rfl (by omega) (.slice A5 out.length c5) _ _ rfl HOWN.out P A0 [].length c0 s0 rfl HS0.out HR0.out.oneCell (by simp;omega) (by simp;omega) (by omega) ?_;intro v6 w6 ho6 hbl6)
    | (at_builtin;refine aN _ rfl (.tmp 54) (.tmp 55) 83 (by rfl) w.heap.size 85 i0 _ 4 56 Tryz.underlying83 HI.out hz0 hz1 hz2 rfl (by omega) v6 _ _ rfl ho6 P A1 b'.length c1 s1 rfl (HS1.out.carry (by omega) (aD.of_below hbl6 HPP.out) (fun _ _ h=>h)) HR1.out.oneCell (by simp;omega) (by simp;omega) (by have:=hbl6.size;omega) ?_;intro v7 w7 ho7 hbl7))
   have hbw:Below w.heap.size wr w7:=hbl6.trans hbl7;have hk:aD P wr w7:=aD.of_below hbw HPP.out;have hrv7:=RVs.append (RVs.append (RVs.carry (Q:=P) hk (fun _ _ h=>h) HRV.out) (RVs.carry (Q:=P) hk (fun _ _ h=>h) HR0.out)) (RVs.carry (Q:=P) hk (fun _ _ h=>h) HR1.out);have hv7:cB w7 (New P w.heap.size) v7 (out ++ [] ++ b'):=cB.of_own (ho7.len_cast (by simp) rfl) (RVs.carry (fun _ _ _=>rfl) (fun _ _ h=>.inl h) hrv7) (by simp;omega) (fun b hb=>.inr (ho7.block_ge hb));obtain ⟨A7,c7,e7,-,-⟩:=hv7.form;subst e7;have HV7:=aV4 hv7;have HX7:=aV4 (HX.out.trans hbw);clear hv7 hrv7 hk hbw ho6 ho7 hbl6 hbl7;go_ret;have e:dW a b=out ++ [] ++ b':=HM2.out.trans (by simp);rw [e];exact ⟨A7,c7,rfl,HV7.out,HX7.out⟩
  rcases b' with _ | ⟨y,ys'⟩
  ·skip
   have HM2:=aV4 (HMV.out.trans (by rw [mV]));obtain ⟨s0,hs0,hr0⟩:=HVA.out.slice_parts;obtain ⟨s1,hs1,hr1⟩:=HVB.out.slice_parts;have HS0:=aV4 hs0;have HR0:=aV4 hr0;have HS1:=aV4 hs1;have HR1:=aV4 hr1;clear hs0 hr0 hs1 hr1;simp only [List.length_nil,List.length_cons] at hle h01 h02 h11 h12
   go_wp2_with (first
    | (at_builtin;refine aN _ rfl (.tmp 52) (.tmp 53) 83 (by rfl) w.heap.size 85 i0 _ 4 56 Tryz.underlying83 HI.out hz0 hz1 hz2 rfl (by omega) (.slice A5 out.length c5) _ _ rfl HOWN.out P A0 (x :: xs').length c0 s0 rfl HS0.out HR0.out.oneCell (by simp;omega) (by simp;omega) (by omega) ?_;intro v6 w6 ho6 hbl6)
    | (at_builtin;refine aN _ rfl (.tmp 54) (.tmp 55) 83 (by rfl) w.heap.size 85 i0 _ 4 56 Tryz.underlying83 HI.out hz0 hz1 hz2 rfl (by omega) v6 _ _ rfl ho6 P A1 [].length c1 s1 rfl (HS1.out.carry (by omega) (aD.of_below hbl6 HPP.out) (fun _ _ h=>h)) HR1.out.oneCell (by simp;omega) (by simp;omega) (by have:=hbl6.size;omega) ?_;intro v7 w7 ho7 hbl7))
   have hbw:Below w.heap.size wr w7:=hbl6.trans hbl7;have hk:aD P wr w7:=aD.of_below hbw HPP.out;have hrv7:=RVs.append (RVs.append (RVs.carry (Q:=P) hk (fun _ _ h=>h) HRV.out) (RVs.carry (Q:=P) hk (fun _ _ h=>h) HR0.out)) (RVs.carry (Q:=P) hk (fun _ _ h=>h) HR1.out);have hv7:cB w7 (New P w.heap.size) v7 (out ++ (x :: xs') ++ []):=cB.of_own (ho7.len_cast (by simp) rfl) (RVs.carry (fun _ _ _=>rfl) (fun _ _ h=>.inl h) hrv7) (by simp;omega) (fun b hb=>.inr (ho7.block_ge hb));obtain ⟨A7,c7,e7,-,-⟩:=hv7.form;subst e7;have HV7:=aV4 hv7;have HX7:=aV4 (HX.out.trans hbw);clear hv7 hrv7 hk hbw ho6 ho7 hbl6 hbl7;go_ret;have e:dW a b=out ++ (x :: xs') ++ []:=HM2.out.trans (by simp);rw [e];exact ⟨A7,c7,rfl,HV7.out,HX7.out⟩
  simp only [List.length_cons] at hle h01 h02 h11 h12;obtain ⟨b0,o0,A2,d2,rfl,-,hvx,g00,g01,g02,g03⟩:=HVA.out.get (i:=0) (by simp);obtain ⟨b1,o1,A3,d3,rfl,-,hvy,g10,g11,g12,g13⟩:=HVB.out.get (i:=0) (by simp);simp only [Nat.zero_mul,Nat.add_zero,List.getD_cons_zero] at g00 g01 g02 g03 g10 g11 g12 g13 hvx hvy;have HVX:=aV4 hvx;have HVY:=aV4 hvy;have HTA:=aV4 (cB.tail HVA.out);have HTB:=aV4 (cB.tail HVB.out);have HMC:=aV4 (HMV.out.trans (congrArg (out ++ ·) (lG x y xs' ys')));clear hvx hvy;have hl0:(0:Int)<(xs'.length:Int)+1:=by omega
  have hl1:(0:Int)<(ys'.length:Int)+1:=by omega
  go_wp2_with fail;go_still_tail 6,(by kernel_rfl);go_wp2_with fail;refine (bQ x y A2 A3 d2 d3 P P _ (HVX.out.ext (Ext.refl _).drew') (HVY.out.ext (Ext.refl _).drew')).mono ?_;rintro e w1 ⟨rfl,hx1⟩;have HX1:=aV4 ((Ext.refl wr).drew'.trans' hx1);have hs1:=hx1.size;have k00:=aB HX1.out g00;have k01:=aB HX1.out g01;have k02:=aB HX1.out g02;have k03:=aB HX1.out g03;have k10:=aB HX1.out g10;have k11:=aB HX1.out g11;have k12:=aB HX1.out g12;have k13:=aB HX1.out g13;have lb0:=aP k00;have lb1:=aP k10;clear hx1 g00 g01 g02 g03 g10 g11 g12 g13;generalize cO x y=cv at *;have HO1:=aV4 (HOWN.out.ext_ HX1.out);have HRV1:=aV4 (RVs.carry (Q:=P) (aD.of_ext HX1.out) (fun _ _ h=>h) HRV.out);have hsw:w.heap.size<=w1.heap.size:=by have:=HX1.out.size;omega
  by_cases hneg:cv<0
  ·have t1:decide (cv<=0)=true:=aV7 (by omega)
   have t2:decide (0<=cv)=false:=aV8 (by omega);have HM2:=aV4 (HMC.out.trans (by rw [if_pos hneg]))
   by_cases hc0:c0=1
   ·skip
    subst hc0;obtain rfl:xs'=[]:=List.length_eq_zero_iff.1 (by omega);go_wp2_with (at_builtin;go_must (refine aN _ rfl (.tmp 34) (.tmp 38) 83 (by rfl) w.heap.size 85 i0 _ 4 56 Tryz.underlying83 HI.out hz0 hz1 hz2 rfl (by omega) (.slice A5 out.length c5) _ _ rfl (HO1.out.alloc _) (fun _=>True) (some ⟨w1.heap.size,0,none⟩) 1 1 [.int .i64 x.kind,.int .i64 x.n,.string x.s,.slice A2 x.kids.length d2] rfl (Sl.new w1 _ _ _ _ rfl) (by simp [Value.oneCell']) (by omega) (by omega) (by simp;omega) ?_);intro v6 w6 ho6 hbl6);go_roundw
    case rel =>
     have hbw:Below w.heap.size wr w6:=((HX1.out.mono hsz).alloc hsw _).trans hbl6;have hk:aD P wr w6:=aD.of_below hbw HPP.out;refine ⟨[],(y :: ys'),out ++ [x],_,cB.nil_any _ _ _ _ (by omega),HVB.out.carry hk (fun _ _ h=>h),ho6.len_cast (by simp) rfl,RVs.append (RVs.carry hk (fun _ _ h=>h) HRV.out) (RVs.one ((HVX.out.carry hk (fun _ _ h=>h)).rv)),HX.out.trans hbw,by simp;omega,by rw [HM2.out];simp⟩
    case measure=>simp [lenOf];try omega
   ·skip
    go_wp2_with (at_builtin;go_must (refine aN _ rfl (.tmp 34) (.tmp 38) 83 (by rfl) w.heap.size 85 i0 _ 4 56 Tryz.underlying83 HI.out hz0 hz1 hz2 rfl (by omega) (.slice A5 out.length c5) _ _ rfl (HO1.out.alloc _) (fun _=>True) (some ⟨w1.heap.size,0,none⟩) 1 1 [.int .i64 x.kind,.int .i64 x.n,.string x.s,.slice A2 x.kids.length d2] rfl (Sl.new w1 _ _ _ _ rfl) (by simp [Value.oneCell']) (by omega) (by omega) (by simp;omega) ?_);intro v6 w6 ho6 hbl6);go_roundw
    case rel =>
     have hbw:Below w.heap.size wr w6:=((HX1.out.mono hsz).alloc hsw _).trans hbl6;have hk:aD P wr w6:=aD.of_below hbw HPP.out;refine ⟨xs',(y :: ys'),out ++ [x],_,HTA.out.carry hk (fun _ _ h=>h),HVB.out.carry hk (fun _ _ h=>h),ho6.len_cast (by simp) rfl,RVs.append (RVs.carry hk (fun _ _ h=>h) HRV.out) (RVs.one ((HVX.out.carry hk (fun _ _ h=>h)).rv)),HX.out.trans hbw,by simp;omega,by rw [HM2.out];simp⟩
    case measure=>simp [lenOf];try omega
  by_cases hzero:cv=0
  ·have t1:decide (cv<=0)=true:=aV7 (by omega)
   have t2:decide (0<=cv)=true:=aV7 (by omega);have HM2:=aV4 (HMC.out.trans (by rw [if_neg hneg,if_pos hzero]));clear hzero
   by_cases hc0:c0=1
   ·by_cases hc1:c1=1
    ·skip
     subst hc0;obtain rfl:xs'=[]:=List.length_eq_zero_iff.1 (by omega);subst hc1;obtain rfl:ys'=[]:=List.length_eq_zero_iff.1 (by omega);go_wp2_with (at_builtin;go_must (refine aN _ rfl (.tmp 34) (.tmp 38) 83 (by rfl) w.heap.size 85 i0 _ 4 56 Tryz.underlying83 HI.out hz0 hz1 hz2 rfl (by omega) (.slice A5 out.length c5) _ _ rfl (HO1.out.alloc _) (fun _=>True) (some ⟨w1.heap.size,0,none⟩) 1 1 [.int .i64 x.kind,.int .i64 x.n,.string x.s,.slice A2 x.kids.length d2] rfl (Sl.new w1 _ _ _ _ rfl) (by simp [Value.oneCell']) (by omega) (by omega) (by simp;omega) ?_);intro v6 w6 ho6 hbl6);go_roundw
     case rel =>
      have hbw:Below w.heap.size wr w6:=((HX1.out.mono hsz).alloc hsw _).trans hbl6;have hk:aD P wr w6:=aD.of_below hbw HPP.out;refine ⟨[],[],out ++ [x],_,cB.nil_any _ _ _ _ (by omega),cB.nil_any _ _ _ _ (by omega),ho6.len_cast (by simp) rfl,RVs.append (RVs.carry hk (fun _ _ h=>h) HRV.out) (RVs.one ((HVX.out.carry hk (fun _ _ h=>h)).rv)),HX.out.trans hbw,by simp;omega,by rw [HM2.out];simp⟩
     case measure=>simp [lenOf];try omega
    ·skip
     subst hc0;obtain rfl:xs'=[]:=List.length_eq_zero_iff.1 (by omega);go_wp2_with (at_builtin;go_must (refine aN _ rfl (.tmp 34) (.tmp 38) 83 (by rfl) w.heap.size 85 i0 _ 4 56 Tryz.underlying83 HI.out hz0 hz1 hz2 rfl (by omega) (.slice A5 out.length c5) _ _ rfl (HO1.out.alloc _) (fun _=>True) (some ⟨w1.heap.size,0,none⟩) 1 1 [.int .i64 x.kind,.int .i64 x.n,.string x.s,.slice A2 x.kids.length d2] rfl (Sl.new w1 _ _ _ _ rfl) (by simp [Value.oneCell']) (by omega) (by omega) (by simp;omega) ?_);intro v6 w6 ho6 hbl6);go_roundw
     case rel =>
      have hbw:Below w.heap.size wr w6:=((HX1.out.mono hsz).alloc hsw _).trans hbl6;have hk:aD P wr w6:=aD.of_below hbw HPP.out;refine ⟨[],ys',out ++ [x],_,cB.nil_any _ _ _ _ (by omega),HTB.out.carry hk (fun _ _ h=>h),ho6.len_cast (by simp) rfl,RVs.append (RVs.carry hk (fun _ _ h=>h) HRV.out) (RVs.one ((HVX.out.carry hk (fun _ _ h=>h)).rv)),HX.out.trans hbw,by simp;omega,by rw [HM2.out];simp⟩
     case measure=>simp [lenOf];try omega
   ·by_cases hc1:c1=1
    ·skip
     subst hc1;obtain rfl:ys'=[]:=List.length_eq_zero_iff.1 (by omega);go_wp2_with (at_builtin;go_must (refine aN _ rfl (.tmp 34) (.tmp 38) 83 (by rfl) w.heap.size 85 i0 _ 4 56 Tryz.underlying83 HI.out hz0 hz1 hz2 rfl (by omega) (.slice A5 out.length c5) _ _ rfl (HO1.out.alloc _) (fun _=>True) (some ⟨w1.heap.size,0,none⟩) 1 1 [.int .i64 x.kind,.int .i64 x.n,.string x.s,.slice A2 x.kids.length d2] rfl (Sl.new w1 _ _ _ _ rfl) (by simp [Value.oneCell']) (by omega) (by omega) (by simp;omega) ?_);intro v6 w6 ho6 hbl6);go_roundw
     case rel =>
      have hbw:Below w.heap.size wr w6:=((HX1.out.mono hsz).alloc hsw _).trans hbl6;have hk:aD P wr w6:=aD.of_below hbw HPP.out;refine ⟨xs',[],out ++ [x],_,HTA.out.carry hk (fun _ _ h=>h),cB.nil_any _ _ _ _ (by omega),ho6.len_cast (by simp) rfl,RVs.append (RVs.carry hk (fun _ _ h=>h) HRV.out) (RVs.one ((HVX.out.carry hk (fun _ _ h=>h)).rv)),HX.out.trans hbw,by simp;omega,by rw [HM2.out];simp⟩
     case measure=>simp [lenOf];try omega
    ·skip
     go_wp2_with (at_builtin;go_must (refine aN _ rfl (.tmp 34) (.tmp 38) 83 (by rfl) w.heap.size 85 i0 _ 4 56 Tryz.underlying83 HI.out hz0 hz1 hz2 rfl (by omega) (.slice A5 out.length c5) _ _ rfl (HO1.out.alloc _) (fun _=>True) (some ⟨w1.heap.size,0,none⟩) 1 1 [.int .i64 x.kind,.int .i64 x.n,.string x.s,.slice A2 x.kids.length d2] rfl (Sl.new w1 _ _ _ _ rfl) (by simp [Value.oneCell']) (by omega) (by omega) (by simp;omega) ?_);intro v6 w6 ho6 hbl6);go_roundw
     case rel =>
      have hbw:Below w.heap.size wr w6:=((HX1.out.mono hsz).alloc hsw _).trans hbl6;have hk:aD P wr w6:=aD.of_below hbw HPP.out;refine ⟨xs',ys',out ++ [x],_,HTA.out.carry hk (fun _ _ h=>h),HTB.out.carry hk (fun _ _ h=>h),ho6.len_cast (by simp) rfl,RVs.append (RVs.carry hk (fun _ _ h=>h) HRV.out) (RVs.one ((HVX.out.carry hk (fun _ _ h=>h)).rv)),HX.out.trans hbw,by simp;omega,by rw [HM2.out];simp⟩
     case measure=>simp [lenOf];try omega
  have t1:decide (cv<=0)=false:=aV8 (by omega);have t2:decide (0<=cv)=true:=aV7 (by omega);have HM2:=aV4 (HMC.out.trans (by rw [if_neg hneg,if_neg hzero]));clear hzero hneg
  by_cases hc1:c1=1
  ·skip
   subst hc1;obtain rfl:ys'=[]:=List.length_eq_zero_iff.1 (by omega);go_wp2_with (at_builtin;go_must (refine aN _ rfl (.tmp 42) (.tmp 46) 83 (by rfl) w.heap.size 85 i0 _ 4 56 Tryz.underlying83 HI.out hz0 hz1 hz2 rfl (by omega) (.slice A5 out.length c5) _ _ rfl (HO1.out.alloc _) (fun _=>True) (some ⟨w1.heap.size,0,none⟩) 1 1 [.int .i64 y.kind,.int .i64 y.n,.string y.s,.slice A3 y.kids.length d3] rfl (Sl.new w1 _ _ _ _ rfl) (by simp [Value.oneCell']) (by omega) (by omega) (by simp;omega) ?_);intro v6 w6 ho6 hbl6);go_roundw
   case rel =>
    have hbw:Below w.heap.size wr w6:=((HX1.out.mono hsz).alloc hsw _).trans hbl6;have hk:aD P wr w6:=aD.of_below hbw HPP.out;refine ⟨(x :: xs'),[],out ++ [y],_,HVA.out.carry hk (fun _ _ h=>h),cB.nil_any _ _ _ _ (by omega),ho6.len_cast (by simp) rfl,RVs.append (RVs.carry hk (fun _ _ h=>h) HRV.out) (RVs.one ((HVY.out.carry hk (fun _ _ h=>h)).rv)),HX.out.trans hbw,by simp;omega,by rw [HM2.out];simp⟩
   case measure=>simp [lenOf];try omega
  ·skip
   go_wp2_with (at_builtin;go_must (refine aN _ rfl (.tmp 42) (.tmp 46) 83 (by rfl) w.heap.size 85 i0 _ 4 56 Tryz.underlying83 HI.out hz0 hz1 hz2 rfl (by omega) (.slice A5 out.length c5) _ _ rfl (HO1.out.alloc _) (fun _=>True) (some ⟨w1.heap.size,0,none⟩) 1 1 [.int .i64 y.kind,.int .i64 y.n,.string y.s,.slice A3 y.kids.length d3] rfl (Sl.new w1 _ _ _ _ rfl) (by simp [Value.oneCell']) (by omega) (by omega) (by simp;omega) ?_);intro v6 w6 ho6 hbl6);go_roundw
   case rel =>
    have hbw:Below w.heap.size wr w6:=((HX1.out.mono hsz).alloc hsw _).trans hbl6;have hk:aD P wr w6:=aD.of_below hbw HPP.out;refine ⟨(x :: xs'),ys',out ++ [y],_,HVA.out.carry hk (fun _ _ h=>h),HTB.out.carry hk (fun _ _ h=>h),ho6.len_cast (by simp) rfl,RVs.append (RVs.carry hk (fun _ _ h=>h) HRV.out) (RVs.one ((HVY.out.carry hk (fun _ _ h=>h)).rv)),HX.out.trans hbw,by simp;omega,by rw [HM2.out];simp⟩
   case measure=>simp [lenOf];try omega
structure SA where
 s:Nat
 k:Nat
 l:Nat
 m:Nat
 X:Nat->Prop
def SA.M (g:SA):Nat->Prop:=fun b=>b=g.k∨b=g.l∨b=g.m
def SA.Q (g:SA):Nat->Prop:=fun b=>¬ g.M b∧¬ g.X b
structure qO (t:List GN)(vn:Value)(g:SA)(kn:List Bool)(ls:List Value)(ms:List Bool)(w:World):Prop where
 hk:g.s ≠ g.k
 hl:g.s ≠ g.l
 hm:g.s ≠ g.m
 kl:g.k ≠ g.l
 km:g.k ≠ g.m
 lm:g.l ≠ g.m
 klen:kn.length=t.length
 llen:ls.length=t.length
 mlen:ms.length=t.length
 box:Blk w g.s 198 #[vn,.slice (some ⟨g.k,0,none⟩) t.length t.length,.slice (some ⟨g.l,0,none⟩) t.length t.length,.slice (some ⟨g.m,0,none⟩) t.length t.length]
 known:Blk w g.k 4 (kn.map Value.bool).toArray
 lists:Blk w g.l 83 ls.toArray
 many:Blk w g.m 4 (ms.map Value.bool).toArray
 xlt:∀ b,g.X b->b<w.heap.size
 nodes:Nds w g.Q vn t
 sl:∀ v ∈ ls,∃ A n c,v=.slice A n c
 fine:∀ j,j<t.length->kn.getD j false=true->cB w g.Q (ls.getD j default) ((aI t).getD j default).vals∧ms.getD j false=((aI t).getD j default).many
def bV (t:List GN)(vn:Value)(g:SA)(w:World):Prop:=∃ kn ls ms,qO t vn g kn ls ms w
def iS (t:List GN)(vn:Value)(g:SA)(r:GL)(w:World)(e:Ending)(w':World):Prop :=
 ∃ A c,e=.returned (.tuple #[.slice A r.vals.length c,.bool (!r.many)])∧cB w' g.Q (.slice A r.vals.length c) r.vals∧Fr g.M w w'∧bV t vn g w'
def uU (t:List GN)(vn:Value)(f:Nat):Prop:=∀ (g:SA)(i:Nat)(w:World),i<f->bJ t (i+1)->bV t vn g w->Calls Tryz.prog 181 #[.pointer (some ⟨g.s,0,none⟩),.int .i64 i] w (iS t vn g ((aI t).getD i default) w)
def aAn (t:List GN)(vn:Value)(f:Nat):Prop:=∀ (g:SA)(i:Nat)(w:World),i<f->bJ t (i+1)->bV t vn g w->Calls Tryz.prog 137 #[.pointer (some ⟨g.s,0,none⟩),.int .i64 i] w (iS t vn g ((aI t).getD i default) w)
section
variable {t:List GN}{vn:Value}{g:SA}{kn:List Bool}{ls:List Value}{ms:List Bool}{w w':World}
theorem qO.ext (h:qO t vn g kn ls ms w)(hx:Ext w w'):qO t vn g kn ls ms w' :=
 ⟨h.hk,h.hl,h.hm,h.kl,h.km,h.lm,h.klen,h.llen,h.mlen,h.box.ext hx,h.known.ext hx,h.lists.ext hx,h.many.ext hx,fun b hb=>Nat.lt_of_lt_of_le (h.xlt b hb) hx.size,h.nodes.ext hx,h.sl,fun j hj hk=>⟨(h.fine j hj hk).1.ext hx,(h.fine j hj hk).2⟩⟩
theorem bV.ext (h:bV t vn g w)(hx:Ext w w'):bV t vn g w':=by
 obtain ⟨kn,ls,ms,h⟩:=h;exact ⟨kn,ls,ms,h.ext hx⟩
theorem bV.more (h:bV t vn g w){g':Nat}(hg:w.heap.size<=g'){w':World}(hx:Ext w w')(hl:g'<w'.heap.size):bV t vn ⟨g.s,g.k,g.l,g.m,fun b=>g.X b∨b=g'⟩ w':=by
 obtain ⟨kn,ls,ms,h0⟩:=h;have h:=h0.ext hx;have hQ:∀ b,b<w.heap.size->g.Q b->(SA.mk g.s g.k g.l g.m (fun b=>g.X b∨b=g')).Q b:=fun b hb h=>⟨h.1,fun hx=>hx.elim h.2 (fun e=>by omega)⟩
 exact ⟨kn,ls,ms,h.hk,h.hl,h.hm,h.kl,h.km,h.lm,h.klen,h.llen,h.mlen,h.box,h.known,h.lists,h.many,fun b hb=>hb.elim (h.xlt b) (fun e=>by omega),h0.nodes.carry (aD.of_ext hx) hQ,h.sl,fun j hj hk=>⟨(h0.fine j hj hk).1.carry (aD.of_ext hx) hQ,(h.fine j hj hk).2⟩⟩
theorem bV.less {X:Nat->Prop}(h:bV t vn ⟨g.s,g.k,g.l,g.m,X⟩ w)(hX:∀ b,g.X b->X b):bV t vn g w:=by
 obtain ⟨kn,ls,ms,h⟩:=h;have hQ:∀ b,(SA.mk g.s g.k g.l g.m X).Q b->g.Q b:=fun b h=>⟨h.1,fun hx=>h.2 (hX b hx)⟩
 exact ⟨kn,ls,ms,h.hk,h.hl,h.hm,h.kl,h.km,h.lm,h.klen,h.llen,h.mlen,h.box,h.known,h.lists,h.many,fun b hb=>h.xlt b (hX b hb),h.nodes.keep (fun _ _ _=>rfl) hQ,h.sl,fun j hj hk=>⟨(h.fine j hj hk).1.keep (fun _ _ _=>rfl) hQ,(h.fine j hj hk).2⟩⟩
theorem bV.setX (h:bV t vn g w){p:Addr}(hp:g.X p.block)(hs:p.block ≠ g.s)(hM:¬ g.M p.block)(u:Value):bV t vn g (w.setCell p u):=by
 obtain ⟨kn,ls,ms,h⟩:=h;have hk:aD g.Q w (w.setCell p u):=aD.set (fun _ _ _=>rfl) u (fun h=>h.2 hp)
 exact ⟨kn,ls,ms,h.hk,h.hl,h.hm,h.kl,h.km,h.lm,h.klen,h.llen,h.mlen,h.box.far hs.symm u,h.known.far (fun e=>hM (.inl e.symm)) u,h.lists.far (fun e=>hM (.inr (.inl e.symm))) u,h.many.far (fun e=>hM (.inr (.inr e.symm))) u,fun b hb=>by simp only [World.setCell,Array.size_modify];exact h.xlt b hb,
  h.nodes.carry hk (fun _ _ h=>h),h.sl,fun j hj hkj=>⟨(h.fine j hj hkj).1.carry hk (fun _ _ h=>h),(h.fine j hj hkj).2⟩⟩
theorem qO.learn (h:qO t vn g kn ls ms w){i:Nat}(hi:i<t.length){A:Option Addr}{c:Nat}(hv:cB w g.Q (.slice A ((aI t).getD i default).vals.length c) ((aI t).getD i default).vals) :
  qO t vn g (kn.set i true) (ls.set i (.slice A ((aI t).getD i default).vals.length c)) (ms.set i ((aI t).getD i default).many)
   (((w.setCell ⟨g.k,i,none⟩ (.bool true)).setCell ⟨g.l,i,none⟩ (.slice A ((aI t).getD i default).vals.length c)).setCell ⟨g.m,i,none⟩ (.bool ((aI t).getD i default).many)):=by
 have hk0:aD g.Q w w:=fun _ _ _=>rfl
 have hkp:aD g.Q w (((w.setCell ⟨g.k,i,none⟩ (.bool true)).setCell ⟨g.l,i,none⟩ (.slice A ((aI t).getD i default).vals.length c)).setCell ⟨g.m,i,none⟩ (.bool ((aI t).getD i default).many)) :=
  ((hk0.set (p:=⟨g.k,i,none⟩) _ (fun h=>h.1 (.inl rfl))).set (p:=⟨g.l,i,none⟩) _ (fun h=>h.1 (.inr (.inl rfl)))).set (p:=⟨g.m,i,none⟩) _ (fun h=>h.1 (.inr (.inr rfl)))
 refine ⟨h.hk,h.hl,h.hm,h.kl,h.km,h.lm,by simp [h.klen],by simp [h.llen],by simp [h.mlen],((h.box.far (p:=⟨g.k,i,none⟩) h.hk _).far (p:=⟨g.l,i,none⟩) h.hl _).far (p:=⟨g.m,i,none⟩) h.hm _,?_,?_,?_,fun b hb=>by simp only [World.setCell,Array.size_modify];exact h.xlt b hb,h.nodes.carry hkp (fun _ _ h=>h),?_,?_⟩
 ·have h1:=((h.known.set_ i (.bool true)).far (p:=⟨g.l,i,none⟩) h.kl (.slice A ((aI t).getD i default).vals.length c)).far (p:=⟨g.m,i,none⟩) h.km (.bool ((aI t).getD i default).many)
  simp only [List.setIfInBounds_toArray] at h1;rw [List.map_set];exact h1
 ·have h1:=((h.lists.far (p:=⟨g.k,i,none⟩) h.kl.symm (.bool true)).set_ i (.slice A ((aI t).getD i default).vals.length c)).far (p:=⟨g.m,i,none⟩) h.lm (.bool ((aI t).getD i default).many)
  simp only [List.setIfInBounds_toArray] at h1;exact h1
 ·have h1:=((h.many.far (p:=⟨g.k,i,none⟩) h.km.symm (.bool true)).far (p:=⟨g.l,i,none⟩) h.lm.symm (.slice A ((aI t).getD i default).vals.length c)).set_ i (.bool ((aI t).getD i default).many)
  simp only [List.setIfInBounds_toArray] at h1;rw [List.map_set];exact h1
 ·intro v hv'
  rcases List.mem_or_eq_of_mem_set hv' with hv' | rfl
  ·exact h.sl v hv'
  ·exact ⟨_,_,_,rfl⟩
 ·intro j hj hkj
  by_cases e:i=j
  ·subst e
   refine ⟨?_,?_⟩
   ·have e2:(ls.set i (.slice A ((aI t).getD i default).vals.length c)).getD i default=.slice A ((aI t).getD i default).vals.length c:=by simp [List.getD,h.llen,hi]
    rw [e2];exact hv.carry hkp (fun _ _ h=>h)
   ·simp [List.getD,h.mlen,hi]
  ·have e1:(kn.set i true).getD j false=kn.getD j false:=by simp [List.getD,e]
   have e2:(ls.set i (.slice A ((aI t).getD i default).vals.length c)).getD j default=ls.getD j default:=by simp [List.getD,e]
   have e3:(ms.set i ((aI t).getD i default).many).getD j false=ms.getD j false:=by simp [List.getD,e]
   rw [e1] at hkj;rw [e2,e3];exact ⟨(h.fine j hj hkj).1.carry hkp (fun _ _ h=>h),(h.fine j hj hkj).2⟩
end
theorem fY {w:World}{p:Addr}{b off:Nat}{u x:Value}(hne:¬ b=p.block)(h:w.cell? ⟨b,off,none⟩=some u):(w.setCell p x).cell? ⟨b,off,none⟩=some u:=by
 rw [<- h];exact World.cell?_of_block (w:=w) (Below.heap_setCell _ _ _ _ hne)
theorem eD {w:World}{p:Addr}{b off:Nat}{u x:Value}(hne:¬ b=p.block)(h:w.drew.cell? ⟨b,off,none⟩=some u):(w.setCell p x).drew.cell? ⟨b,off,none⟩=some u:=fY (w:=w) hne h
theorem aD2 (t:List GN)(vn:Value)(f:Nat)(hF:uU t vn f):aAn t vn f:=by
 intro g i w hif hg hs;have HG:=aV4 hg;have hit:i<t.length:=by have:=hg.1;omega
 have hi4:t.length<=4096:=hg.2.1;obtain ⟨kn,ls,ms,h⟩:=hs;have H:=aV4 h;have b1:=h.box.cell' (u:=.slice (some ⟨g.k,0,none⟩) t.length t.length) 1 rfl;have b2:=h.box.cell' (u:=.slice (some ⟨g.l,0,none⟩) t.length t.length) 2 rfl;have b3:=h.box.cell' (u:=.slice (some ⟨g.m,0,none⟩) t.length t.length) 3 rfl;have k0:=h.known.cell' (u:=.bool (kn.getD i false)) i (by simp [h.klen,hit]);have hii:(i:Int)<(t.length:Int):=by omega
 have hi0:(0:Int)<=(i:Int):=by omega
 have HFI:=aV4 (h.fine i hit);have HLS:=aV4 (show w.cell? ⟨g.l,i,none⟩=some (ls.getD i default) from h.lists.cell' i (by simp [h.llen,hit]));have HMS:=aV4 (show w.cell? ⟨g.m,i,none⟩=some (.bool (ms.getD i false)) from h.many.cell' i (by simp [h.mlen,hit]));clear hg h;generalize hkk:kn.getD i false=bk at *;clear hkk
 cases bk
 ·go_enter Tryz.func137,Tryz.ntmps137
  go_wp2_with fail;refine (hF g i w hif HG.out ⟨kn,ls,ms,H.out⟩).mono ?_;rintro e w1 ⟨A,c,rfl,hv,hfr,kn1,ls1,ms1,h1⟩;have HV:=aV4 hv;have HFR:=aV4 hfr;have H1:=aV4 h1;clear b1 b2 b3 k0;have b1:=h1.box.cell' (u:=.slice (some ⟨g.k,0,none⟩) t.length t.length) 1 rfl;have b2:=h1.box.cell' (u:=.slice (some ⟨g.l,0,none⟩) t.length t.length) 2 rfl;have b3:=h1.box.cell' (u:=.slice (some ⟨g.m,0,none⟩) t.length t.length) 3 rfl;have k0:=h1.known.cell' (u:=.bool (kn1.getD i false)) i (by simp [h1.klen,hit]);have l0:=h1.lists.cell' (u:=ls1.getD i default) i (by simp [h1.llen,hit]);have m0:=h1.many.cell' (u:=.bool (ms1.getD i false)) i (by simp [h1.mlen,hit]);have fk:=h1.known.frozen i;have fl:=h1.lists.frozen i;have fm:=h1.many.frozen i;have n1:¬ g.s=g.k:=h1.hk;have n2:¬ g.s=g.l:=h1.hl;have n3:¬ g.s=g.m:=h1.hm;have n4:¬ g.k=g.l:=h1.kl;have n5:¬ g.k=g.m:=h1.km;have n6:¬ g.l=g.m:=h1.lm;have n7:¬ g.l=g.k:=fun e=>h1.kl e.symm
  have n8:¬ g.m=g.k:=fun e=>h1.km e.symm
  have n9:¬ g.m=g.l:=fun e=>h1.lm e.symm
  have HLN:=aV4 (H1.out.learn hit hv);clear hv hfr h1;generalize kn1.getD i false=z1 at *;generalize ls1.getD i default=z2 at *;generalize ms1.getD i false=z3 at *;generalize (aI t).getD i default=r at *;obtain ⟨vals,many⟩:=r;go_upto_region 3 with fail
  go_region_held3 (fun w'=>w'.cell? ⟨g.s,1,none⟩=some (.slice (some ⟨g.k,0,none⟩) t.length t.length)∧w'.cell? ⟨g.s,2,none⟩=some (.slice (some ⟨g.l,0,none⟩) t.length t.length)∧w'.cell? ⟨g.s,3,none⟩=some (.slice (some ⟨g.m,0,none⟩) t.length t.length))
   (first
    | (go_split_ands
       with_reducible exact ⟨eD n1 ‹_›,eD n1 ‹_›,eD n1 ‹_›⟩)
    | (go_split_ands
       with_reducible exact ⟨eD n2 ‹_›,eD n2 ‹_›,eD n2 ‹_›⟩)
    | (go_split_ands
       with_reducible exact ⟨eD n3 ‹_›,eD n3 ‹_›,eD n3 ‹_›⟩)
    | go_keep)
   (first
    | fail)
  go_upto_region 4 with fail;have HL2:=aV4 (HLN.out.ext (Ext.refl _).drew');have HF2:=aV4 (((((Fr.refl g.M w1).setCell (p:=⟨g.k,i,none⟩) (.inl (.inl rfl)) (.bool true)).setCell (p:=⟨g.l,i,none⟩) (.inl (.inr (.inl rfl))) (.slice A vals.length c)).setCell (p:=⟨g.m,i,none⟩) (.inl (.inr (.inr rfl))) (.bool many))).drew
  have HV2:=aV4 (show cB ((((w1.setCell ⟨g.k,i,none⟩ (.bool true)).setCell ⟨g.l,i,none⟩ (.slice A vals.length c)).setCell ⟨g.m,i,none⟩ (.bool many)).drew) g.Q (.slice A vals.length c) vals from
   (((HV.out.set (p:=⟨g.k,i,none⟩) _ (fun h=>h.1 (.inl rfl))).set (p:=⟨g.l,i,none⟩) _ (fun h=>h.1 (.inr (.inl rfl)))).set (p:=⟨g.m,i,none⟩) _ (fun h=>h.1 (.inr (.inr rfl)))).ext (Ext.refl _).drew')
  clear b1 b2 b3 k0 l0 m0 fk fl fm n1 n2 n3 n4 n5 n6 n7 n8 n9 HLN;generalize hw2:(((w1.setCell ⟨g.k,i,none⟩ (.bool true)).setCell ⟨g.l,i,none⟩ (.slice A vals.length c)).setCell ⟨g.m,i,none⟩ (.bool many)).drew=w2 at *;clear hw2;have b2:=HL2.out.box.cell' (u:=.slice (some ⟨g.l,0,none⟩) t.length t.length) 2 rfl;have b3:=HL2.out.box.cell' (u:=.slice (some ⟨g.m,0,none⟩) t.length t.length) 3 rfl;have l0:=HL2.out.lists.cell' (u:=.slice A vals.length c) i (by have:=H1.out.llen;simp [this,hit]);have m0:=HL2.out.many.cell' (u:=.bool many) i (by have:=H1.out.mlen;simp [this,hit]);go_wp2_with fail;go_quiet (fail);go_wp2_with fail;go_ret2;exact ⟨A,c,rfl,HV2.out.ext ((Ext.refl _).drewN' _),(HFR.out.trans HF2.out).drewN _,⟨_,_,_,HL2.out.ext ((Ext.refl _).drewN' _)⟩⟩
 ·obtain ⟨hv,hm⟩:=HFI.out rfl
  have l0:=HLS.out;have m0:=HMS.out;obtain ⟨A,c,ev,-,-⟩:=hv.form;rw [ev] at l0 hv;rw [hm] at m0;have HV:=aV4 hv;clear hv hm ev;generalize (aI t).getD i default=r at *;obtain ⟨vals,many⟩:=r;simp only at l0 m0;go_enter Tryz.func137,Tryz.ntmps137;go_wp2_with fail;go_quiet (fail);go_wp2_with fail;go_ret2;exact ⟨A,c,rfl,HV.out.ext ((Ext.refl _).drewN' _),Fr.of_ext ((Ext.refl _).drewN' _),⟨kn,ls,ms,H.out.ext ((Ext.refl _).drewN' _)⟩⟩
def xE (ls:List GL):List GV->List Int->GL
 | out,[]=>⟨out,false⟩
 | out,z :: zs=>if (ls.getD z.toNat default).many=true then ⟨[],true⟩
   else if 1024<(dW out (ls.getD z.toNat default).vals).length then ⟨[],true⟩ else xE ls (dW out (ls.getD z.toNat default).vals) zs
theorem bV.lt {t:List GN}{vn:Value}{g:SA}{w:World}(h:bV t vn g w){b:Nat}(hb:g.M b):b<w.heap.size:=by
 obtain ⟨kn,ls,ms,h⟩:=h;rcases hb with rfl | rfl | rfl
 ·exact h.known.lt
 ·exact h.lists.lt
 ·exact h.many.lt
theorem bV.newQ {t:List GN}{vn:Value}{g:SA}{w:World}(h:bV t vn g w){b:Nat}(hb:w.heap.size<=b):g.Q b :=
 ⟨fun hm=>by have:=h.lt hm;omega,fun hx=>by obtain ⟨kn,ls,ms,h⟩:=h;have:=h.xlt b hx;omega⟩
def aIk (t:List GN)(vn:Value)(g:SA)(ks:List Int)(w:World)(v i:Value)(wr:World):Prop :=
 ∃ (k:Nat) (out:List GV),k<=ks.length∧i=.int .i64 k∧cB wr g.Q v out∧Inc out∧out.length<=1024∧Fr g.M w wr∧bV t vn g wr∧xE (aI t) [] ks=xE (aI t) out (ks.drop k)
theorem iS.none_ {t:List GN}{vn:Value}{g:SA}{w w':World}(hf:Fr g.M w w')(hs:bV t vn g w'):iS t vn g ⟨[],true⟩ w (.returned (.tuple #[.slice none 0 0,.bool false])) w' :=
 ⟨none,0,rfl,cB.nil_any _ _ _ _ (by omega),hf,hs⟩
theorem vJ (t:List GN)(vn:Value)(g:SA)(f n:Nat)(hO:aAn t vn f)(ks:List Int)(vk:Value)(w:World)(hk:bT w g.Q vk ks)(hks:∀ z ∈ ks,0<=z∧z<(n:Int))(hnf:n<=f)(hg:bJ t n)(hs:bV t vn g w) :
  Calls Tryz.prog 202 #[.pointer (some ⟨g.s,0,none⟩),vk] w (iS t vn g (xE (aI t) [] ks) w):=by
 have HK:=aV4 hk;have HKS:=aV4 hks;have HG:=aV4 hg;have HS:=aV4 hs;obtain ⟨Ak,ck,ek,hk1,hk2⟩:=hk.form;subst ek;clear hk hks hg hs;go_enter Tryz.func202,Tryz.ntmps202;go_wp2_with fail;go_loopw [6,13] (fun v i wr=>aIk t vn g ks w v i wr) (fun _ i _=>ks.length - (intOf i).toNat)
 case atStart=>exact ⟨0,[],Nat.zero_le _,rfl,cB.nil_any _ _ _ _ (by omega),Inc.nil,by simp,Fr.refl _ _,HS.out,rfl⟩
 case round =>
  obtain ⟨k,out,hk,rfl,hv,hinc,hlen,hfr,hs,hu⟩:=hrel;have HV:=aV4 hv;have HINC:=aV4 hinc;have HFR:=aV4 hfr;have HSR:=aV4 hs;have HU:=aV4 hu;obtain ⟨A6,c6,e6,h61,h62⟩:=hv.form;subst e6;have HKR:=aV4 (HK.out.keep (Q:=g.Q) (aD.of_fr hfr (fun b h=>h.1)) (fun _ h=>h));clear hv hinc hfr hs hu
  by_cases hlt:k<ks.length
  ·obtain ⟨b1,o1,rfl,-,-,g1⟩:=HKR.out.get hlt
   have hz:=HKS.out _ (aG (d:=0) hlt);have HD:=aV4 (HU.out.trans (by rw [aH 0 hlt,xE]));generalize ks.getD k 0=z at *;obtain ⟨zn,rfl⟩:∃ zn:Nat,z=zn:=⟨z.toNat,by omega⟩;have HLOK:=aV4 (mC HG.out zn (by omega));have hgz:=HG.out.mono (j:=zn+1) (by omega);have HOZ:=aV4 (hO g zn wr (by omega) hgz HSR.out);simp only [Int.toNat_natCast] at HD;clear hgz;generalize (aI t).getD zn default=r at *;obtain ⟨vals,many⟩:=r;go_wp2_with fail;refine HOZ.out.mono ?_;rintro e w1 ⟨A2,d2,rfl,hv2,hf2,hs2⟩;have HV2:=aV4 hv2;have HF2:=aV4 (HFR.out.trans hf2);have HS2:=aV4 hs2;have HVO:=aV4 (HV.out.keep (Q:=g.Q) (aD.of_fr hf2 (fun b h=>h.1)) (fun _ h=>h));clear hv2 hf2 hs2 g1
   cases many
   ·have hfew:=HLOK.out.few
    simp only at hfew;go_wp2_with fail;refine (aBl out vals (fun b=>g.Q b∧b<w1.heap.size) _ _ _ (HVO.out.imp (fun b hb h=>⟨h,hb⟩)) (HV2.out.imp (fun b hb h=>⟨h,hb⟩)) (by omega) (by omega) (fun b h=>h.2)).mono ?_;rintro e w2 ⟨A3,d3,rfl,hv3,hx3⟩;have HV3:=aV4 (hv3.imp (Q:=g.Q) (fun b hb h=>h.elim (fun h=>h.1) (fun h=>HS2.out.newQ h)));have HX3:=aV4 hx3;have HI3:=aV4 (iP out vals HINC.out HLOK.out.inc);clear hv3 hx3;generalize dW out vals=mo at *;have hmo:mo.length<=d3∧(mo.length<=17592186044416∧d3<=9223372036854775807):=HV3.out.le
    by_cases hbig:1024<mo.length
    ·have tb:decide (1024<(mo.length:Int))=true:=aV7 (by omega)
     have HE:=aV4 (show xE (aI t) [] ks=⟨[],true⟩ from HD.out.trans (by simp [hbig]));clear hbig;go_wp2_with fail;go_ret2;rw [HE.out];exact iS.none_ (HF2.out.trans (Fr.of_ext HX3.out)) (HS2.out.ext HX3.out)
    ·have tb:decide (1024<(mo.length:Int))=false:=aV8 (by omega)
     have HE:=aV4 (show xE (aI t) [] ks=xE (aI t) mo (ks.drop (k+1)) from HD.out.trans (by simp [hbig]));have hb2:mo.length<=1024:=by omega
     clear hbig;go_wp2_with fail;go_roundw
     case rel=>exact ⟨k+1,mo,by omega,by go_num,HV3.out,HI3.out,by omega,HF2.out.trans (Fr.of_ext HX3.out),HS2.out.ext HX3.out,HE.out⟩
     case measure=>simp [intOf];omega
   ·have HE:=aV4 (show xE (aI t) [] ks=⟨[],true⟩ from HD.out.trans (by simp))
    go_wp2_with fail;go_ret2;rw [HE.out];exact iS.none_ HF2.out HS2.out
  ·have HE:=aV4 (show xE (aI t) [] ks=⟨out,false⟩ by rw [HU.out,drop_nil (by omega),xE])
   go_wp2_with fail;go_ret2;rw [HE.out];exact ⟨A6,c6,rfl,HV.out,HFR.out,HSR.out⟩
end Go.Proofs.YtkoeecdjijfjnaaGreat
