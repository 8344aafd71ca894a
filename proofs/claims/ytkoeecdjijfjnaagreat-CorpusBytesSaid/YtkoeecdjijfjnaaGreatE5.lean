/- Contracts and laws. Conditions: none. -/
import Derived.Test.YtkoeecdjijfjnaaGreatD7
set_option linter.all false
set_option maxRecDepth 100000
set_option maxHeartbeats 8000000
namespace Go.Proofs.YtkoeecdjijfjnaaGreat
open Go.RowKit
theorem jX (x a b o)(kids:List GV)(A c w)(hn:bQ w b o x a) :
  Calls Tryz.prog 97 #[qt b o,.slice A kids c] w fun e w'=>e=.returned (dA (bX x.name kids) A c)∧Ext w w':=by
 have c1:=hn.c1;have lb:=hn.lt;clear hn;by_cases he:x.name.toList=[]
 ·have he1:x.name.toList.isEmpty=true:=by simp [he]
  have HM:=a4b (show bX x.name kids=.mk 2 0 ByteArray.empty kids by unfold bX aU;rw [he1];rfl);go_enter Tryz.func97,Tryz.ntmps97;go_wp2_with fail;rw [HM.out];exact bodyPost_ret (v:=.agg #[.int .i64 2,qz,.string ByteArray.empty,.slice A kids c]) (by simp [results,Tryz.results97,go_sem];rfl) rfl ⟨rfl,(aq _).alloc' _⟩
 ·have he1:x.name.toList.isEmpty=false:=by simpa using he
  have HM:=a4b (show bX x.name kids=.mk 3 0 x.name kids by unfold bX aU;rw [he1];rfl);go_enter Tryz.func97,Tryz.ntmps97;go_wp2_with fail;rw [HM.out];exact bodyPost_ret (v:=.agg #[.int .i64 3,qz,x.name,.slice A kids c]) (by simp [results,Tryz.results97,go_sem]) rfl ⟨rfl,(aq _).alloc' _⟩
theorem rP (x a b o w)(hn:bQ w b o x a) :
  qg 147 #[qt b o] w (aWs (.int .i64 (aW x)) w):=by
 have HO:=a4b (show aW x=if x.kind=1 then wrap64 (wrap64 (x.hi - x.lo)+1) else x.kids.length from rfl);have c0:=hn.c0;have c2:=hn.c2;have c3:=hn.c3;have c7:=hn.c7;clear hn;by_cases hk:x.kind=1
 ·have t1:(x.kind == 1)=true:=a4d hk
  have HK:=a4b hk;clear hk;go_enter Tryz.func147,Tryz.ntmps147;go_wp2_with fail;go_quiet (fail);go_wp2_with fail;go_ret;refine ⟨aI ?_,_,rfl⟩;rw [HO.out,if_pos HK.out]
 ·have t1:(x.kind == 1)=false:=a4c hk
  have HK:=a4b hk;clear hk;go_enter Tryz.func147,Tryz.ntmps147;go_wp2_with fail;go_ret;exact ⟨aI (by rw [HO.out,if_neg HK.out]),0,rfl⟩
def aRf (ls:List Int)(x:GN)(ch:Bool)(W:World)(s m i:Value)(wr:World):Prop :=
 ∃ (k:Nat) (s1 m1:Int),k<=x.kids∧i=↑k∧s=↑s1∧m=↑m1∧W=wr ∧
  dG ls 0 x.kids=dG ls s1 (x.kids.drop k)∧aT ls ch 0 0 x.kids=aT ls ch k m1 (x.kids.drop k)
theorem lH (ls x a b o P Q vl w)(hn:bQ w b o x a)(hx:NAt w P x a)(hl:Ints w Q vl ls)(hok:dV ls x) :
  Calls Tryz.prog 96 #[qt b o,vl] w fun e w'=>e=.returned (.int .i64 (gZ ls x))∧w=w':=by
 have HL:=a4b hl;have hki:=hx.kids;have HK:=a4b hok.kids;have hkd:=hok.kind;have HBD:=a4b (show x.kind=4->0<x.kids.length from fun h=>by have:=hok.bind h;omega);obtain ⟨Al,cl,el,hl1,hl2⟩:=hl.form;subst el;obtain ⟨hkl1,hkl2⟩:=hx.kids.le;have c0:=hn.c0;have c7:=hn.c7;have HLR:=a4b (show gZ ls x=if x.kind=0 then 0 else if x.kind=1 then 1 else if x.kind=3 then dG ls 0 x.kids else if x.kind=2 then wrap64 (1+aT ls true 0 0 x.kids) else wrap64 (ls.getD (x.kids.getD 0 0).toNat 0+aT ls false 0 0 x.kids) from rfl);clear hx hl hok hn;generalize a.kA=Ak at *;generalize a.kc=kc at *;have HX:=a4b hki;clear hki;obtain ⟨ch,hch⟩:∃ ch:Bool,ch=decide (x.kind=2):=⟨_,rfl⟩;have HCH:=a4b hch;have t2:(x.kind == 2)=ch:=by rw [hch];exact rfl
 clear hch;go_enter Tryz.func96,Tryz.ntmps96;go_wp2_with fail;go_loopw [5,6,14] (fun s m i wr=>aRf ls x ch w s m i wr) (fun _ _ i _=>x.kids.length - (intOf i).toNat)
 case atStart=>exact ⟨0,0,0,af _,rfl,rfl,rfl,rfl,rfl,rfl⟩
 case round =>
  obtain ⟨k,s1,m1,hk,rfl,rfl,rfl,rfl,hs,hm⟩:=hrel;have HS:=a4b hs;have HM:=a4b hm;clear hs hm;by_cases hlt:k<x.kids
  ·obtain ⟨b1,o1,rfl,-,-,g1⟩:=HX.out.get hlt
   have hz:=HK.out _ (aD (d:=0) hlt);have HD1:=a4b (HS.out.trans (by rw [aH 0 hlt,dG]));have HD2:=a4b (show aT ls ch 0 0 x.kids=aT ls ch (k+1) (if ch=true∨0<k then (if m1<ls.getD (x.kids.getD k 0).toNat 0 then ls.getD (x.kids.getD k 0).toNat 0 else m1) else m1) (x.kids.drop (k+1)) by rw [HM.out,aH 0 hlt,aT]);generalize x.kids.getD k 0=z at *;obtain ⟨b2,o2,rfl,-,-,g2⟩:=HL.out.get (i:=z.toNat) I;generalize ls.getD z.toNat 0=y at *;by_cases hk0:0<k
   ·have tk:decide (0<(k:Int))=true:=a4e I
    go_wp2_with fail
    all_goals
     go_roundw
     case rel=>exact ⟨k+1,_,_,I,by go_num,rfl,rfl,rfl,HD1.out,by rw [HD2.out,if_pos (.inr hk0)];try (first | rw [if_pos du] | rw [if_neg I])⟩
     case measure=>simp [intOf];omega
   ·have tk:decide (0<(k:Int))=false:=a4f I
    cases ch
    ·go_wp2_with fail
     go_roundw
     case rel=>exact ⟨k+1,_,_,I,by go_num,rfl,rfl,rfl,HD1.out,by rw [HD2.out,if_neg bh]⟩
     case measure=>simp [intOf];omega
    ·go_wp2_with fail
     all_goals
      go_roundw
      case rel=>exact ⟨k+1,_,_,I,by go_num,rfl,rfl,rfl,HD1.out,by rw [HD2.out,if_pos (.inl rfl)];try (first | rw [if_pos du] | rw [if_neg I])⟩
      case measure=>simp [intOf];omega
  ·have HS2:=a4b (show dG ls 0 x.kids=s1 by rw [HS.out,drop_nil I,dG])
   have HM2:=a4b (show aT ls ch 0 0 x.kids=m1 by rw [HM.out,drop_nil I,aT]);clear t2;by_cases k0:x.kind=0
   ·have t0:(x.kind == 0)=true:=a4d k0
    have t1:(x.kind == 1)=false:=a4c I;have t2:(x.kind == 2)=false:=a4c I;have t3:(x.kind == 3)=false:=a4c I;have t4:(x.kind == 4)=false:=a4c I;have HF:=a4b (show gZ ls x=0 by rw [HLR.out,if_pos k0]);clear k0;go_wp2_with fail;go_ret;exact ⟨aI HF.out.symm,rfl⟩
   by_cases k1:x.kind=1
   ·have t1:(x.kind == 1)=true:=a4d k1
    have HF:=a4b (show gZ ls x=1 by rw [HLR.out,if_neg k0,if_pos k1]);clear k1 k0;go_wp2_with fail;go_ret;exact ⟨aI HF.out.symm,rfl⟩
   have t1:(x.kind == 1)=false:=a4c k1;by_cases k2:x.kind=2
   ·have t2:(x.kind == 2)=true:=a4d k2
    have HF:=a4b (show gZ ls x=wrap64 (1+m1) by rw [HLR.out,if_neg k0,if_neg k1,if_neg I,if_pos k2,<- HM2.out,HCH.out,a4e k2]);clear k2 k1 k0;go_wp2_with fail;go_ret;exact ⟨aI HF.out.symm,rfl⟩
   have t2:(x.kind == 2)=false:=a4c k2;by_cases k3:x.kind=3
   ·have t3:(x.kind == 3)=true:=a4d k3
    have HF:=a4b (show gZ ls x=s1 by rw [HLR.out,if_neg k0,if_neg k1,if_pos k3,HS2.out]);clear k3 k2 k1 k0;go_wp2_with fail;go_ret;exact ⟨aI HF.out.symm,rfl⟩
   have t3:(x.kind == 3)=false:=a4c k3;have k4:x.kind=4:=by omega
   have t4:(x.kind == 4)=true:=a4d k4;have hkp:=HBD.out k4;have HF:=a4b (show gZ ls x=wrap64 (ls.getD (x.kids.getD 0 0).toNat 0+m1) by rw [HLR.out,if_neg k0,if_neg k1,if_neg k3,if_neg k2,<- HM2.out,HCH.out,a4f k2]);obtain ⟨b1,o1,rfl,-,-,g1⟩:=HX.out.get hkp;rw [Nat.add_zero] at g1;have hz:=HK.out _ (aD (d:=0) hkp);generalize x.kids.getD 0 0=z at *;obtain ⟨b2,o2,rfl,-,-,g2⟩:=HL.out.get (i:=z.toNat) I;generalize ls.getD z.toNat 0=y at *;clear k4 k3 k2 k1 k0;go_wp2_with fail;go_ret;exact ⟨aI HF.out.symm,rfl⟩
def dP:List GV->List GV->List GV
 | [],b=>b
 | x :: xs,[]=>x :: xs
 | x :: xs,y :: ys=>if cJ x y<0 then x :: dP xs (y :: ys) else if cJ x y=0 then x :: dP xs ys else y :: dP (x :: xs) ys
termination_by a b=>a.length+b
decreasing_by all_goals (simp only [ai];omega)
theorem eU (b):dP [] b=b:=by simp [dP]
theorem oM (a):dP a []=a:=by cases a <;> simp [dP]
theorem lP (x y xs ys):dP (x :: xs) (y :: ys)=if cJ x y<0 then x :: dP xs (y :: ys) else if cJ x y=0 then x :: dP xs ys else y :: dP (x :: xs) ys:=by rw [dP]
theorem fH:∀ a b z,z ∈ dP a b ↔ z ∈ a∨z ∈ b
 | [],b,z=>by simp [eU]
 | x :: xs,[],z=>by simp [oM]
 | x :: xs,y :: ys,z=>by
  rw [lP];split
  ·rw [ao,fH xs (y :: ys) z];simp only [ao]
   constructor
   ·rintro (h | h | (h | h))
    ·exact .inl (.inl h)
    ·exact .inl (.inr h)
    ·exact .inr (.inl h)
    ·exact .inr (.inr h)
   ·rintro ((h | h) | (h | h))
    ·exact .inl h
    ·exact .inr (.inl h)
    ·exact .inr (.inr (.inl h))
    ·exact .inr (.inr (.inr h))
  ·split
   ·next h0 =>
    have e:=fR x y h0;subst e;rw [ao,fH xs ys z];simp only [ao];constructor
    ·rintro (h | h | h)
     ·exact .inl (.inl h)
     ·exact .inl (.inr h)
     ·exact .inr (.inr h)
    ·rintro ((h | h) | (h | h))
     ·exact .inl h
     ·exact .inr (.inl h)
     ·exact .inl h
     ·exact .inr (.inr h)
   ·rw [ao,fH (x :: xs) ys z];simp only [ao]
    constructor
    ·rintro (h | (h | h) | h)
     ·exact .inr (.inl h)
     ·exact .inl (.inl h)
     ·exact .inl (.inr h)
     ·exact .inr (.inr h)
    ·rintro ((h | h) | (h | h))
     ·exact .inr (.inl (.inl h))
     ·exact .inr (.inl (.inr h))
     ·exact .inl h
     ·exact .inr (.inr h)
termination_by a b=>a.length+b
decreasing_by all_goals (simp only [ai];omega)
theorem iM:∀ a b,Inc a->Inc b->Inc (dP a b)
 | [],b,_,hb=>by rw [eU];exact hb
 | x :: xs,[],ha,_=>by rw [oM];exact ha
 | x :: xs,y :: ys,ha,hb=>by
  have ha':=List.pairwise_cons.1 ha;have hb':=List.pairwise_cons.1 hb;rw [lP];split
  ·next h =>
   refine List.pairwise_cons.2 ⟨fun z hz=>?_,iM xs (y :: ys) ha'.2 hb⟩;rcases (fH xs (y :: ys) z).1 hz with hz | hz
   ·exact ha'.1 z hz
   ·rcases ao.1 hz with rfl | hz
    ·exact h
    ·exact ltV.tr h (hb'.1 z hz)
  ·split
   ·next h0 =>
    have e:=fR x y h0;subst e;refine List.pairwise_cons.2 ⟨fun z hz=>?_,iM xs ys ha'.2 hb'.2⟩;rcases (fH xs ys z).1 hz with hz | hz
    ·exact ha'.1 z hz
    ·exact hb'.1 z hz
   ·next h h0 =>
    have hyx:ltV y x:=by unfold ltV;have:=nM x y;omega
    refine List.pairwise_cons.2 ⟨fun z hz=>?_,iM (x :: xs) ys ha hb'.2⟩;rcases (fH (x :: xs) ys z).1 hz with hz | hz
    ·rcases ao.1 hz with rfl | hz
     ·exact hyx
     ·exact hyx.tr (ha'.1 z hz)
    ·exact hb'.1 z hz
termination_by a b=>a.length+b
decreasing_by all_goals (simp only [ai];omega)
theorem aCa {a b}(ha:Inc a)(hb:Inc b):dP a b=eM (a ++ b) :=
 Inc.ext (iM a b ha hb) (jP _) (fun z=>by rw [fH,eR,ap])
def aZf (P:Nat->Prop)(l:List GV)(w:World)(e:Ending)(w':World):Prop :=
 ∃ A c,e=.returned (.slice A l c)∧bT w' (New P w) (.slice A l c) l∧Ext w w'
theorem bT.tail {w P b off c x}{l:List GV}(h:bT w P (.slice (qt b off) (l+1) c) (x :: l)):bT w P (.slice (qt b (off+4)) l (c - 1)) l:=by
 obtain ⟨A,c',css,e,h1,h2,h3,h4⟩:=h;injection e with e1 e2 e3;subst e1 e3;have h5:=h3.drop (k:=1) O;have h6:=h4.drop 1;simp only [List.drop_succ_cons,List.drop_zero,Nat.one_mul,ai,Nat.add_sub_cancel] at h5 h6;simp only [ai] at h1 h2;exact ⟨_,c - 1,_,rfl,I,I,h5,h6⟩
theorem bT.nil_any (w P A c)(hc:c<=9223372036854775807):bT w P (.slice A 0 c) []:=⟨A,c,[],rfl,O,⟨O,hc⟩,⟨rfl,fun h=>absurd h O⟩,rfl⟩
def aMv (a b:List GV)(P:Nat->Prop)(w:World)(B:Nat)(v0 v1 v5:Value)(wr:World):Prop :=
 ∃ (a' b' out:List GV) (xs:List Value),bT wr P v0 a'∧bT wr P v1 b'∧wr.ownsRow B 85 4 v5 out xs∧RVs wr P out xs∧Ext w wr∧out.length+a'+b'.length<=a+b∧dP a b=out ++ dP a' b'
theorem aFd (a b P va vb w)(ha:bT w P va a)(hb:bT w P vb b)(hla:a.length<=100000)(hlb:b.length<=100000)(hP:∀ b,P b->b<w) :
  qg 217 #[va,vb] w (aZf P (dP a b) w):=by
 have HA:=a4b ha;have HB:=a4b hb;have HPP:=a4b hP;obtain ⟨Aa,ca,ea,ha1,ha2⟩:=ha.form;obtain ⟨Ab,cb,eb,hb1,hb2⟩:=hb.form;subst ea eb;clear ha hb hP;obtain ⟨i0,hi,hz0,hz1,hz2⟩:=info_parts Tryz.info85;have HI:=a4b hi;by_cases h0:a.length=0
 ·have hnil:a=[]:=List.length_eq_zero_iff.1 h0
  have HQ:=a4b (show dP a b=b by rw [hnil,eU]);have t0:((a:Int) == 0)=true:=a4d I;have t1:(a.length == 0)=true:=a4d h0;have hle:¬ 0<a.length:=by omega
  clear hi hnil h0;go_enter Tryz.func217,Tryz.ntmps217;go_wp2_with fail;go_ret;rw [HQ.out];exact ⟨Ab,cb,rfl,HB.out.imp (fun _ _ h=>.inl h),aq _⟩
 have t0:((a:Int) == 0)=false:=a4c I;have t1:(a.length == 0)=false:=a4c h0
 have hmk:∀ W:World,(Instr.makeSlice 83 qz (.int .i64 ((a:Int)+(b:Int)))).run Tryz.prog W=.ok (.slice (qp W) 0 (a.length+b)) (W.alloc (qk (madeCells (Value.agg #[qz,qz,.string ByteArray.empty,qn]).cells ((a.length+b)*4)) 85)):=by
  intro W;have h:=run_make (P:=Tryz.prog) W 83 85 i0 _ Tryz.underlying83 hi hz0 .i64 .i64 0 ((a:Int)+(b:Int)) (Int.le_refl _) I fo I;rw [hz1] at h;rw [h];have e:((a:Int)+(b:Int)).toNat=a+b:=by omega
  rw [e];rfl
 clear hi h0;go_enter Tryz.func217,Tryz.ntmps217;go_wp2_with fail;have HOW:=a4b (World.ownsRow_made (base:=w.heap.size) (e:=85) (size:=4) w (madeCells #[qz,qz,.string ByteArray.empty,qn] ((a.length+b)*4)) (a.length+b) (ab _) di (size_madeCells _ _));have HE:=a4b (show Ext w (w.alloc (qk (madeCells #[qz,qz,.string ByteArray.empty,qn] ((a.length+b)*4)) 85)) from (aq w).alloc' _);generalize hW:w.alloc (qk (madeCells #[qz,qz,.string ByteArray.empty,qn] ((a.length+b)*4)) 85)=W at *;clear hW hmk;go_loopw [0,1,5] (fun v0 v1 v5 wr=>aMv a b P w w v0 v1 v5 wr) (fun v0 v1 _ _=>lenOf v0+lenOf v1)
 case atStart=>exact ⟨a,b,[],[],HA.out.ext HE.out,HB.out.ext HE.out,HOW.out,rfl,HE.out,O,rfl⟩
 case round =>
  obtain ⟨a',b',out,xs,hva,hvb,hown,hrv,hx,hle,hmv⟩:=hrel;have HVA:=a4b hva;have HVB:=a4b hvb;have HOWN:=a4b hown;have HRV:=a4b hrv;have HX:=a4b hx;have HMV:=a4b hmv;obtain ⟨A0,c0,e0,h01,h02⟩:=hva.form;obtain ⟨A1,c1,e1,h11,h12⟩:=hvb.form;obtain ⟨A5,c5,e5,-,-,-⟩:=Sl.of_own hown;subst e0 e1 e5;have hsz:=hx.size;clear hva hvb hown hrv hx hmv;rcases a' with _ | ⟨x,xs'⟩
  ·skip
   have HM2:=a4b (HMV.out.trans (by rw [eU]));obtain ⟨s0,hs0,hr0⟩:=HVA.out.slice_parts;obtain ⟨s1,hs1,hr1⟩:=HVB.out.slice_parts;have HS0:=a4b hs0;have HR0:=a4b hr0;have HS1:=a4b hs1;have HR1:=a4b hr1;clear hs0 hr0 hs1 hr1;simp only [List.length_nil,ai] at hle h01 h02 h11 h12
   go_wp2_with (first
    | (at_builtin;refine aJ _ rfl (.tmp 52) (.tmp 53) 83 ba w 85 i0 _ 4 56 Tryz.underlying83 HI.out hz0 hz1 hz2 rfl I (.slice A5 out c5) _ _ rfl HOWN.out P A0 [].length c0 s0 rfl HS0.out HR0.out.oneCell bh bh I ?_;intro v6 w6 ho6 hbl6)
    | (at_builtin;refine aJ _ rfl (.tmp 54) (.tmp 55) 83 ba w 85 i0 _ 4 56 Tryz.underlying83 HI.out hz0 hz1 hz2 rfl I v6 _ _ rfl ho6 P A1 b' c1 s1 rfl (HS1.out.carry I (aB.of_below hbl6 HPP.out) (fun _ _ h=>h)) HR1.out.oneCell bh bh (by have:=hbl6.size;omega) ?_;intro v7 w7 ho7 hbl7))
   have hbw:Below w wr w7:=hbl6.trans hbl7;have hk:aB P wr w7:=aB.of_below hbw HPP.out;have hrv7:=RVs.append (RVs.append (RVs.carry (Q:=P) hk (fun _ _ h=>h) HRV.out) (RVs.carry (Q:=P) hk (fun _ _ h=>h) HR0.out)) (RVs.carry (Q:=P) hk (fun _ _ h=>h) HR1.out);have hv7:bT w7 (New P w) v7 (out ++ [] ++ b'):=bT.of_own (ho7.len_cast O rfl) (RVs.carry (fun _ _ _=>rfl) (fun _ _ h=>.inl h) hrv7) bh (fun b hb=>.inr (ho7.block_ge hb));obtain ⟨A7,c7,e7,-,-⟩:=hv7.form;subst e7;have HV7:=a4b hv7;have HX7:=a4b (HX.out.trans hbw);clear hv7 hrv7 hk hbw ho6 ho7 hbl6 hbl7;go_ret;have e:dP a b=out ++ [] ++ b':=HM2.out.trans O;rw [e];exact ⟨A7,c7,rfl,HV7.out,HX7.out⟩
  rcases b' with _ | ⟨y,ys'⟩
  ·skip
   have HM2:=a4b (HMV.out.trans (by rw [oM]));obtain ⟨s0,hs0,hr0⟩:=HVA.out.slice_parts;obtain ⟨s1,hs1,hr1⟩:=HVB.out.slice_parts;have HS0:=a4b hs0;have HR0:=a4b hr0;have HS1:=a4b hs1;have HR1:=a4b hr1;clear hs0 hr0 hs1 hr1;simp only [List.length_nil,ai] at hle h01 h02 h11 h12
   go_wp2_with (first
    | (at_builtin;refine aJ _ rfl (.tmp 52) (.tmp 53) 83 ba w 85 i0 _ 4 56 Tryz.underlying83 HI.out hz0 hz1 hz2 rfl I (.slice A5 out c5) _ _ rfl HOWN.out P A0 (x :: xs') c0 s0 rfl HS0.out HR0.out.oneCell bh bh I ?_;intro v6 w6 ho6 hbl6)
    | (at_builtin;refine aJ _ rfl (.tmp 54) (.tmp 55) 83 ba w 85 i0 _ 4 56 Tryz.underlying83 HI.out hz0 hz1 hz2 rfl I v6 _ _ rfl ho6 P A1 [].length c1 s1 rfl (HS1.out.carry I (aB.of_below hbl6 HPP.out) (fun _ _ h=>h)) HR1.out.oneCell bh bh (by have:=hbl6.size;omega) ?_;intro v7 w7 ho7 hbl7))
   have hbw:Below w wr w7:=hbl6.trans hbl7;have hk:aB P wr w7:=aB.of_below hbw HPP.out;have hrv7:=RVs.append (RVs.append (RVs.carry (Q:=P) hk (fun _ _ h=>h) HRV.out) (RVs.carry (Q:=P) hk (fun _ _ h=>h) HR0.out)) (RVs.carry (Q:=P) hk (fun _ _ h=>h) HR1.out);have hv7:bT w7 (New P w) v7 (out ++ (x :: xs') ++ []):=bT.of_own (ho7.len_cast O rfl) (RVs.carry (fun _ _ _=>rfl) (fun _ _ h=>.inl h) hrv7) bh (fun b hb=>.inr (ho7.block_ge hb));obtain ⟨A7,c7,e7,-,-⟩:=hv7.form;subst e7;have HV7:=a4b hv7;have HX7:=a4b (HX.out.trans hbw);clear hv7 hrv7 hk hbw ho6 ho7 hbl6 hbl7;go_ret;have e:dP a b=out ++ (x :: xs') ++ []:=HM2.out.trans O;rw [e];exact ⟨A7,c7,rfl,HV7.out,HX7.out⟩
  simp only [ai] at hle h01 h02 h11 h12;obtain ⟨b0,o0,A2,d2,rfl,-,hvx,g00,g01,g02,g03⟩:=HVA.out.get (i:=0) O;obtain ⟨b1,o1,A3,d3,rfl,-,hvy,g10,g11,g12,g13⟩:=HVB.out.get (i:=0) O;simp only [Nat.zero_mul,Nat.add_zero,List.getD_cons_zero,ai] at g00 g01 g02 g03 g10 g11 g12 g13 hvx hvy;have HVX:=a4b hvx;have HVY:=a4b hvy;have HTA:=a4b (bT.tail HVA.out);have HTB:=a4b (bT.tail HVB.out);have HMC:=a4b (HMV.out.trans (congrArg (out ++ ·) (lP x y xs' ys')));clear hvx hvy;have hl0:(0:Int)<(xs':Int)+1:=by omega
  have hl1:(0:Int)<(ys':Int)+1:=I;go_wp2_with fail;go_still_tail 6,U;go_wp2_with fail;refine (bJ x y A2 A3 d2 d3 P P _ (HVX.out.ext (aq _).drew') (HVY.out.ext (aq _).drew')).mono ?_;rintro e w1 ⟨rfl,hx1⟩;have HX1:=a4b ((aq wr).drew'.trans' hx1);have hs1:=hx1.size;have k00:=aA HX1.out g00;have k01:=aA HX1.out g01;have k02:=aA HX1.out g02;have k03:=aA HX1.out g03;have k10:=aA HX1.out g10;have k11:=aA HX1.out g11;have k12:=aA HX1.out g12;have k13:=aA HX1.out g13;clear hx1 g00 g01 g02 g03 g10 g11 g12 g13;generalize cJ x y=cv at *;have HO1:=a4b (HOWN.out.ext_ HX1.out);have hsw:w.heap.size<=w1:=by have:=HX1.out.size;omega
  by_cases hneg:cv<0
  ·have t1:decide (cv<=0)=true:=a4e I
   have t2:decide (0<=cv)=false:=a4f I;have HM2:=a4b (HMC.out.trans (by rw [if_pos hneg]));by_cases hc0:c0=1
   ·skip
    subst hc0;obtain rfl:xs'=[]:=List.length_eq_zero_iff.1 I;go_wp2_with (at_builtin;go_must (refine aJ _ rfl (.tmp 34) (.tmp 38) 83 ba w 85 i0 _ 4 56 Tryz.underlying83 HI.out hz0 hz1 hz2 rfl I (.slice A5 out c5) _ _ rfl (HO1.out.alloc _) (fun _=>True) (qp w1) 1 1 (qh x A2 d2) rfl (Sl.new w1 _ _ _ _ rfl) cd I I bh ?_);intro v6 w6 ho6 hbl6);go_roundw
    case rel =>
     have hbw:Below w wr w6:=((HX1.out.mono hsz).alloc hsw _).trans hbl6;have hk:aB P wr w6:=aB.of_below hbw HPP.out;refine ⟨[],(y :: ys'),out ++ [x],_,bT.nil_any _ _ _ _ I,HVB.out.carry hk (fun _ _ h=>h),ho6.len_cast O rfl,RVs.append (RVs.carry hk (fun _ _ h=>h) HRV.out) (RVs.one ((HVX.out.carry hk (fun _ _ h=>h)).rv)),HX.out.trans hbw,bh,fh⟩
    case measure=>simp [lenOf];try omega
   ·skip
    go_wp2_with (at_builtin;go_must (refine aJ _ rfl (.tmp 34) (.tmp 38) 83 ba w 85 i0 _ 4 56 Tryz.underlying83 HI.out hz0 hz1 hz2 rfl I (.slice A5 out c5) _ _ rfl (HO1.out.alloc _) (fun _=>True) (qp w1) 1 1 (qh x A2 d2) rfl (Sl.new w1 _ _ _ _ rfl) cd I I bh ?_);intro v6 w6 ho6 hbl6);go_roundw
    case rel =>
     have hbw:Below w wr w6:=((HX1.out.mono hsz).alloc hsw _).trans hbl6;have hk:aB P wr w6:=aB.of_below hbw HPP.out;refine ⟨xs',(y :: ys'),out ++ [x],_,HTA.out.carry hk (fun _ _ h=>h),HVB.out.carry hk (fun _ _ h=>h),ho6.len_cast O rfl,RVs.append (RVs.carry hk (fun _ _ h=>h) HRV.out) (RVs.one ((HVX.out.carry hk (fun _ _ h=>h)).rv)),HX.out.trans hbw,bh,fh⟩
    case measure=>simp [lenOf];try omega
  by_cases hzero:cv=0
  ·have t1:decide (cv<=0)=true:=a4e I
   have t2:decide (0<=cv)=true:=a4e I;have HM2:=a4b (HMC.out.trans (by rw [if_neg hneg,if_pos hzero]));clear hzero;by_cases hc0:c0=1
   ·by_cases hc1:c1=1
    ·skip
     subst hc0;obtain rfl:xs'=[]:=List.length_eq_zero_iff.1 I;subst hc1;obtain rfl:ys'=[]:=List.length_eq_zero_iff.1 I;go_wp2_with (at_builtin;go_must (refine aJ _ rfl (.tmp 34) (.tmp 38) 83 ba w 85 i0 _ 4 56 Tryz.underlying83 HI.out hz0 hz1 hz2 rfl I (.slice A5 out c5) _ _ rfl (HO1.out.alloc _) (fun _=>True) (qp w1) 1 1 (qh x A2 d2) rfl (Sl.new w1 _ _ _ _ rfl) cd I I bh ?_);intro v6 w6 ho6 hbl6);go_roundw
     case rel =>
      have hbw:Below w wr w6:=((HX1.out.mono hsz).alloc hsw _).trans hbl6;have hk:aB P wr w6:=aB.of_below hbw HPP.out;refine ⟨[],[],out ++ [x],_,bT.nil_any _ _ _ _ I,bT.nil_any _ _ _ _ I,ho6.len_cast O rfl,RVs.append (RVs.carry hk (fun _ _ h=>h) HRV.out) (RVs.one ((HVX.out.carry hk (fun _ _ h=>h)).rv)),HX.out.trans hbw,bh,fh⟩
     case measure=>simp [lenOf];try omega
    ·skip
     subst hc0;obtain rfl:xs'=[]:=List.length_eq_zero_iff.1 I;go_wp2_with (at_builtin;go_must (refine aJ _ rfl (.tmp 34) (.tmp 38) 83 ba w 85 i0 _ 4 56 Tryz.underlying83 HI.out hz0 hz1 hz2 rfl I (.slice A5 out c5) _ _ rfl (HO1.out.alloc _) (fun _=>True) (qp w1) 1 1 (qh x A2 d2) rfl (Sl.new w1 _ _ _ _ rfl) cd I I bh ?_);intro v6 w6 ho6 hbl6);go_roundw
     case rel =>
      have hbw:Below w wr w6:=((HX1.out.mono hsz).alloc hsw _).trans hbl6;have hk:aB P wr w6:=aB.of_below hbw HPP.out;refine ⟨[],ys',out ++ [x],_,bT.nil_any _ _ _ _ I,HTB.out.carry hk (fun _ _ h=>h),ho6.len_cast O rfl,RVs.append (RVs.carry hk (fun _ _ h=>h) HRV.out) (RVs.one ((HVX.out.carry hk (fun _ _ h=>h)).rv)),HX.out.trans hbw,bh,fh⟩
     case measure=>simp [lenOf];try omega
   ·by_cases hc1:c1=1
    ·skip
     subst hc1;obtain rfl:ys'=[]:=List.length_eq_zero_iff.1 I;go_wp2_with (at_builtin;go_must (refine aJ _ rfl (.tmp 34) (.tmp 38) 83 ba w 85 i0 _ 4 56 Tryz.underlying83 HI.out hz0 hz1 hz2 rfl I (.slice A5 out c5) _ _ rfl (HO1.out.alloc _) (fun _=>True) (qp w1) 1 1 (qh x A2 d2) rfl (Sl.new w1 _ _ _ _ rfl) cd I I bh ?_);intro v6 w6 ho6 hbl6);go_roundw
     case rel =>
      have hbw:Below w wr w6:=((HX1.out.mono hsz).alloc hsw _).trans hbl6;have hk:aB P wr w6:=aB.of_below hbw HPP.out;refine ⟨xs',[],out ++ [x],_,HTA.out.carry hk (fun _ _ h=>h),bT.nil_any _ _ _ _ I,ho6.len_cast O rfl,RVs.append (RVs.carry hk (fun _ _ h=>h) HRV.out) (RVs.one ((HVX.out.carry hk (fun _ _ h=>h)).rv)),HX.out.trans hbw,bh,fh⟩
     case measure=>simp [lenOf];try omega
    ·skip
     go_wp2_with (at_builtin;go_must (refine aJ _ rfl (.tmp 34) (.tmp 38) 83 ba w 85 i0 _ 4 56 Tryz.underlying83 HI.out hz0 hz1 hz2 rfl I (.slice A5 out c5) _ _ rfl (HO1.out.alloc _) (fun _=>True) (qp w1) 1 1 (qh x A2 d2) rfl (Sl.new w1 _ _ _ _ rfl) cd I I bh ?_);intro v6 w6 ho6 hbl6);go_roundw
     case rel =>
      have hbw:Below w wr w6:=((HX1.out.mono hsz).alloc hsw _).trans hbl6;have hk:aB P wr w6:=aB.of_below hbw HPP.out;refine ⟨xs',ys',out ++ [x],_,HTA.out.carry hk (fun _ _ h=>h),HTB.out.carry hk (fun _ _ h=>h),ho6.len_cast O rfl,RVs.append (RVs.carry hk (fun _ _ h=>h) HRV.out) (RVs.one ((HVX.out.carry hk (fun _ _ h=>h)).rv)),HX.out.trans hbw,bh,fh⟩
     case measure=>simp [lenOf];try omega
  have t1:decide (cv<=0)=false:=a4f I;have t2:decide (0<=cv)=true:=a4e I;have HM2:=a4b (HMC.out.trans (by rw [if_neg hneg,if_neg hzero]));clear hzero hneg;by_cases hc1:c1=1
  ·skip
   subst hc1;obtain rfl:ys'=[]:=List.length_eq_zero_iff.1 I;go_wp2_with (at_builtin;go_must (refine aJ _ rfl (.tmp 42) (.tmp 46) 83 ba w 85 i0 _ 4 56 Tryz.underlying83 HI.out hz0 hz1 hz2 rfl I (.slice A5 out c5) _ _ rfl (HO1.out.alloc _) (fun _=>True) (qp w1) 1 1 (qh y A3 d3) rfl (Sl.new w1 _ _ _ _ rfl) cd I I bh ?_);intro v6 w6 ho6 hbl6);go_roundw
   case rel =>
    have hbw:Below w wr w6:=((HX1.out.mono hsz).alloc hsw _).trans hbl6;have hk:aB P wr w6:=aB.of_below hbw HPP.out;refine ⟨(x :: xs'),[],out ++ [y],_,HVA.out.carry hk (fun _ _ h=>h),bT.nil_any _ _ _ _ I,ho6.len_cast O rfl,RVs.append (RVs.carry hk (fun _ _ h=>h) HRV.out) (RVs.one ((HVY.out.carry hk (fun _ _ h=>h)).rv)),HX.out.trans hbw,bh,fh⟩
   case measure=>simp [lenOf];try omega
  ·skip
   go_wp2_with (at_builtin;go_must (refine aJ _ rfl (.tmp 42) (.tmp 46) 83 ba w 85 i0 _ 4 56 Tryz.underlying83 HI.out hz0 hz1 hz2 rfl I (.slice A5 out c5) _ _ rfl (HO1.out.alloc _) (fun _=>True) (qp w1) 1 1 (qh y A3 d3) rfl (Sl.new w1 _ _ _ _ rfl) cd I I bh ?_);intro v6 w6 ho6 hbl6);go_roundw
   case rel =>
    have hbw:Below w wr w6:=((HX1.out.mono hsz).alloc hsw _).trans hbl6;have hk:aB P wr w6:=aB.of_below hbw HPP.out;refine ⟨(x :: xs'),ys',out ++ [y],_,HVA.out.carry hk (fun _ _ h=>h),HTB.out.carry hk (fun _ _ h=>h),ho6.len_cast O rfl,RVs.append (RVs.carry hk (fun _ _ h=>h) HRV.out) (RVs.one ((HVY.out.carry hk (fun _ _ h=>h)).rv)),HX.out.trans hbw,bh,fh⟩
   case measure=>simp [lenOf];try omega
structure SA where
 s:Nat
 k:Nat
 l:Nat
 m:Nat
 X:Nat->Prop
def SA.M (g:SA):Nat->Prop:=fun b=>b=g.k∨b=g.l∨b=g.m
def SA.Q (g:SA):Nat->Prop:=fun b=>¬ g.M b∧¬ g.X b
structure tK (t:List GN)(vn:Value)(g:SA)(kn:List Bool)(ls:List Value)(ms:List Bool)(w:World):Prop where
 hk:g.s ≠ g.k
 hl:g.s ≠ g.l
 hm:g.s ≠ g.m
 kl:g.k ≠ g.l
 km:g.k ≠ g.m
 lm:g.l ≠ g.m
 klen:kn.length=t
 llen:ls.length=t
 mlen:ms.length=t
 box:Blk w g.s 198 #[vn,.slice (qp g.k) t t,.slice (qp g.l) t t,.slice (qp g.m) t t]
 known:Blk w g.k 4 (kn.map Value.bool).toArray
 lists:Blk w g.l 83 ls.toArray
 many:Blk w g.m 4 (ms.map Value.bool).toArray
 xlt:∀ b,g.X b->b<w
 nodes:Nds w g.Q vn t
 sl:∀ v ∈ ls,∃ A n c,v=.slice A n c
 fine:∀ j,j<t.length->kn.getD j false=true->bT w g.Q (ls.getD j default) ((aF t).getD j default).vals∧ms.getD j false=((aF t).getD j default).many
def bM (t:List GN)(vn:Value)(g:SA)(w:World):Prop:=∃ kn ls ms,tK t vn g kn ls ms w
def fY (t:List GN)(vn:Value)(g:SA)(r:GL)(w:World)(e:Ending)(w':World):Prop :=
 ∃ A c,e=.returned (.tuple #[.slice A r.vals c,(!r.many)])∧bT w' g.Q (.slice A r.vals c) r.vals∧Fr g.M w w'∧bM t vn g w'
def yP (t:List GN)(vn:Value)(f:Nat):Prop:=∀ (g:SA)(i:Nat)(w:World),i<f->bD t (i+1)->bM t vn g w->qg 181 #[qp g.s,↑i] w (fY t vn g ((aF t).getD i default) w)
def aEp (t:List GN)(vn:Value)(f:Nat):Prop:=∀ (g:SA)(i:Nat)(w:World),i<f->bD t (i+1)->bM t vn g w->qg 137 #[qp g.s,↑i] w (fY t vn g ((aF t).getD i default) w)
section
variable {t:List GN}{vn:Value}{g:SA}{kn:List Bool}{ls:List Value}{ms:List Bool}{w w':World}
theorem tK.ext (h:tK t vn g kn ls ms w)(hx:Ext w w'):tK t vn g kn ls ms w' :=
 ⟨h.hk,h.hl,h.hm,h.kl,h.km,h.lm,h.klen,h.llen,h.mlen,h.box.ext hx,h.known.ext hx,h.lists.ext hx,h.many.ext hx,fun b hb=>ac (h.xlt b hb) hx.size,h.nodes.ext hx,h.sl,fun j hj hk=>⟨(h.fine j hj hk).1.ext hx,(h.fine j hj hk).2⟩⟩
theorem bM.ext (h:bM t vn g w)(hx:Ext w w'):bM t vn g w':=by
 obtain ⟨kn,ls,ms,h⟩:=h;exact ⟨kn,ls,ms,h.ext hx⟩
theorem bM.more (h:bM t vn g w){g':Nat}(hg:w<=g'){w'}(hx:Ext w w')(hl:g'<w'):bM t vn ⟨g.s,g.k,g.l,g.m,fun b=>g.X b∨b=g'⟩ w':=by
 obtain ⟨kn,ls,ms,h0⟩:=h;have h:=h0.ext hx;have hQ:∀ b,b<w.heap.size->g.Q b->(SA.mk g.s g.k g.l g.m (fun b=>g.X b∨b=g')).Q b:=fun b hb h=>⟨h.1,fun hx=>hx.elim h.2 (fun e=>by omega)⟩
 exact ⟨kn,ls,ms,h.hk,h.hl,h.hm,h.kl,h.km,h.lm,h.klen,h.llen,h.mlen,h.box,h.known,h.lists,h.many,fun b hb=>hb.elim (h.xlt b) (fun e=>by omega),h0.nodes.carry (aB.of_ext hx) hQ,h.sl,fun j hj hk=>⟨(h0.fine j hj hk).1.carry (aB.of_ext hx) hQ,(h.fine j hj hk).2⟩⟩
theorem bM.less {X}(h:bM t vn ⟨g.s,g.k,g.l,g.m,X⟩ w)(hX:∀ b,g.X b->X b):bM t vn g w:=by
 obtain ⟨kn,ls,ms,h⟩:=h;have hQ:∀ b,(SA.mk g.s g.k g.l g.m X).Q b->g.Q b:=fun b h=>⟨h.1,fun hx=>h.2 (hX b hx)⟩
 exact ⟨kn,ls,ms,h.hk,h.hl,h.hm,h.kl,h.km,h.lm,h.klen,h.llen,h.mlen,h.box,h.known,h.lists,h.many,fun b hb=>h.xlt b (hX b hb),h.nodes.keep (fun _ _ _=>rfl) hQ,h.sl,fun j hj hk=>⟨(h.fine j hj hk).1.keep (fun _ _ _=>rfl) hQ,(h.fine j hj hk).2⟩⟩
theorem bM.setX (h:bM t vn g w){p}(hp:g.X p.block)(hs:p.block ≠ g.s)(hM:¬ g.M p.block)(u):bM t vn g (w.setCell p u):=by
 obtain ⟨kn,ls,ms,h⟩:=h;have hk:aB g.Q w (w.setCell p u):=aB.set (fun _ _ _=>rfl) u (fun h=>h.2 hp)
 exact ⟨kn,ls,ms,h.hk,h.hl,h.hm,h.kl,h.km,h.lm,h.klen,h.llen,h.mlen,h.box.far hs.symm u,h.known.far (fun e=>hM (.inl e.symm)) u,h.lists.far (fun e=>hM (.inr (.inl e.symm))) u,h.many.far (fun e=>hM (.inr (.inr e.symm))) u,fun b hb=>by simp only [World.setCell,Array.size_modify];exact h.xlt b hb,
  h.nodes.carry hk (fun _ _ h=>h),h.sl,fun j hj hkj=>⟨(h.fine j hj hkj).1.carry hk (fun _ _ h=>h),(h.fine j hj hkj).2⟩⟩
theorem tK.learn (h:tK t vn g kn ls ms w){i:Nat}(hi:i<t){A c}(hv:bT w g.Q (.slice A ((aF t).getD i default).vals.length c) ((aF t).getD i default).vals) :
  tK t vn g (kn.set i true) (ls.set i (.slice A ((aF t).getD i default).vals.length c)) (ms.set i ((aF t).getD i default).many)
   (((w.setCell (qt g.k i) true).setCell (qt g.l i) (.slice A ((aF t).getD i default).vals.length c)).setCell (qt g.m i) (.bool ((aF t).getD i default).many)):=by
 have hk0:aB g.Q w w:=fun _ _ _=>rfl
 have hkp:aB g.Q w (((w.setCell (qt g.k i) true).setCell (qt g.l i) (.slice A ((aF t).getD i default).vals.length c)).setCell (qt g.m i) (.bool ((aF t).getD i default).many)) :=
  ((hk0.set (p:=qt g.k i) _ (fun h=>h.1 (.inl rfl))).set (p:=qt g.l i) _ (fun h=>h.1 (.inr (.inl rfl)))).set (p:=qt g.m i) _ (fun h=>h.1 (.inr (.inr rfl)))
 refine ⟨h.hk,h.hl,h.hm,h.kl,h.km,h.lm,by simp [h.klen],by simp [h.llen],by simp [h.mlen],((h.box.far (p:=qt g.k i) h.hk _).far (p:=qt g.l i) h.hl _).far (p:=qt g.m i) h.hm _,?_,?_,?_,fun b hb=>by simp only [World.setCell,Array.size_modify];exact h.xlt b hb,h.nodes.carry hkp (fun _ _ h=>h),?_,?_⟩
 ·have h1:=((h.known.set_ i true).far (p:=qt g.l i) h.kl (.slice A ((aF t).getD i default).vals.length c)).far (p:=qt g.m i) h.km (.bool ((aF t).getD i default).many)
  simp only [List.setIfInBounds_toArray] at h1;rw [List.map_set];exact h1
 ·have h1:=((h.lists.far (p:=qt g.k i) h.kl.symm true).set_ i (.slice A ((aF t).getD i default).vals.length c)).far (p:=qt g.m i) h.lm (.bool ((aF t).getD i default).many)
  simp only [List.setIfInBounds_toArray] at h1;exact h1
 ·have h1:=((h.many.far (p:=qt g.k i) h.km.symm true).far (p:=qt g.l i) h.lm.symm (.slice A ((aF t).getD i default).vals.length c)).set_ i (.bool ((aF t).getD i default).many)
  simp only [List.setIfInBounds_toArray] at h1;rw [List.map_set];exact h1
 ·intro v hv'
  rcases List.mem_or_eq_of_mem_set hv' with hv' | rfl
  ·exact h.sl v hv'
  ·exact ⟨_,_,_,rfl⟩
 ·intro j hj hkj
  by_cases e:i=j
  ·subst e
   refine ⟨?_,?_⟩
   ·have e2:(ls.set i (.slice A ((aF t).getD i default).vals.length c)).getD i default=.slice A ((aF t).getD i default).vals.length c:=by simp [List.getD,h.llen,hi]
    rw [e2];exact hv.carry hkp (fun _ _ h=>h)
   ·simp [List.getD,h.mlen,hi]
  ·have e1:(kn.set i true).getD j false=kn.getD j false:=by simp [List.getD,List.getElem?_set,e]
   have e2:(ls.set i (.slice A ((aF t).getD i default).vals.length c)).getD j default=ls.getD j default:=by simp [List.getD,List.getElem?_set,e]
   have e3:(ms.set i ((aF t).getD i default).many).getD j false=ms.getD j false:=by simp [List.getD,List.getElem?_set,e]
   rw [e1] at hkj;rw [e2,e3];exact ⟨(h.fine j hj hkj).1.carry hkp (fun _ _ h=>h),(h.fine j hj hkj).2⟩
end
theorem fT {w p b off u x}(hne:¬ b=p.block)(h:qc w b off u):(w.setCell p x).cell? (qt b off)=some u:=by
 rw [<- h];exact World.cell?_of_block (w:=w) (Below.heap_setCell _ _ _ _ hne)
theorem dY {w:World}{p b off u x}(hne:¬ b=p.block)(h:qc w.drew b off u):(w.setCell p x).drew.cell? (qt b off)=some u:=fT (w:=w) hne h
theorem aHf (t vn f)(hF:yP t vn f):aEp t vn f:=by
 intro g i w hif hg hs;have HG:=a4b hg;have hit:i<t:=by have:=hg.1;omega
 obtain ⟨kn,ls,ms,h⟩:=hs;have H:=a4b h;have b1:=h.box.cell' (u:=.slice (qp g.k) t t) 1 rfl;have b2:=h.box.cell' (u:=.slice (qp g.l) t t) 2 rfl;have b3:=h.box.cell' (u:=.slice (qp g.m) t t) 3 rfl;have k0:=h.known.cell' (u:=(kn.getD i false)) i (by simp [h.klen,hit]);have hii:(i:Int)<(t:Int):=by omega
 have hi0:(0:Int)<=(i:Int):=I;have HFI:=a4b (h.fine i hit);have HLS:=a4b (show w.cell? (qt g.l i)=some (ls.getD i default) from h.lists.cell' i (by simp [h.llen,hit]));have HMS:=a4b (show w.cell? (qt g.m i)=some ↑(ms.getD i false) from h.many.cell' i (by simp [h.mlen,hit]));clear hg h;generalize hkk:kn.getD i false=bk at *;clear hkk;cases bk
 ·go_enter Tryz.func137,Tryz.ntmps137
  go_wp2_with fail;refine (hF g i w hif HG.out ⟨kn,ls,ms,H.out⟩).mono ?_;rintro e w1 ⟨A,c,rfl,hv,hfr,kn1,ls1,ms1,h1⟩;have HV:=a4b hv;have HFR:=a4b hfr;have H1:=a4b h1;clear b1 b2 b3 k0;have b1:=h1.box.cell' (u:=.slice (qp g.k) t t) 1 rfl;have b2:=h1.box.cell' (u:=.slice (qp g.l) t t) 2 rfl;have b3:=h1.box.cell' (u:=.slice (qp g.m) t t) 3 rfl;have k0:=h1.known.cell' (u:=(kn1.getD i false)) i (by simp [h1.klen,hit]);have l0:=h1.lists.cell' (u:=ls1.getD i default) i (by simp [h1.llen,hit]);have m0:=h1.many.cell' (u:=(ms1.getD i false)) i (by simp [h1.mlen,hit]);have fk:=h1.known.frozen i;have fl:=h1.lists.frozen i;have fm:=h1.many.frozen i;have n1:¬ g.s=g.k:=h1.hk;have n2:¬ g.s=g.l:=h1.hl;have n3:¬ g.s=g.m:=h1.hm;have n7:¬ g.l=g.k:=fun e=>h1.kl e.symm
  have n8:¬ g.m=g.k:=fun e=>h1.km e.symm
  have n9:¬ g.m=g.l:=fun e=>h1.lm e.symm
  have HLN:=a4b (H1.out.learn hit hv);clear hv hfr h1;generalize kn1.getD i false=z1 at *;generalize ls1.getD i default=z2 at *;generalize ms1.getD i false=z3 at *;generalize (aF t).getD i default=r at *;obtain ⟨vals,many⟩:=r;go_upto_region 3 with fail
  go_region_held3 (fun w'=>qc w' g.s 1 (.slice (qp g.k) t t)∧qc w' g.s 2 (.slice (qp g.l) t t)∧qc w' g.s 3 (.slice (qp g.m) t t))
   (first
    | (go_split_ands
       with_reducible exact ⟨dY n1 ‹_›,dY n1 ‹_›,dY n1 ‹_›⟩)
    | (go_split_ands
       with_reducible exact ⟨dY n2 ‹_›,dY n2 ‹_›,dY n2 ‹_›⟩)
    | (go_split_ands
       with_reducible exact ⟨dY n3 ‹_›,dY n3 ‹_›,dY n3 ‹_›⟩)
    | go_keep)
   (first
    | fail)
  go_upto_region 4 with fail;have HL2:=a4b (HLN.out.ext (aq _).drew');have HF2:=a4b (((((au g.M w1).setCell (p:=qt g.k i) (.inl (.inl rfl)) true).setCell (p:=qt g.l i) (.inl (.inr (.inl rfl))) (.slice A vals c)).setCell (p:=qt g.m i) (.inl (.inr (.inr rfl))) many)).drew
  have HV2:=a4b (show bT ((((w1.setCell (qt g.k i) true).setCell (qt g.l i) (.slice A vals c)).setCell (qt g.m i) many).drew) g.Q (.slice A vals c) vals from
   (((HV.out.set (p:=qt g.k i) _ (fun h=>h.1 (.inl rfl))).set (p:=qt g.l i) _ (fun h=>h.1 (.inr (.inl rfl)))).set (p:=qt g.m i) _ (fun h=>h.1 (.inr (.inr rfl)))).ext (aq _).drew')
  clear b1 b2 b3 k0 l0 m0 fk fl fm n1 n2 n3 n7 n8 n9 HLN;generalize hw2:(((w1.setCell (qt g.k i) true).setCell (qt g.l i) (.slice A vals c)).setCell (qt g.m i) many).drew=w2 at *;clear hw2;have b2:=HL2.out.box.cell' (u:=.slice (qp g.l) t t) 2 rfl;have b3:=HL2.out.box.cell' (u:=.slice (qp g.m) t t) 3 rfl;have l0:=HL2.out.lists.cell' (u:=.slice A vals c) i (by have:=H1.out.llen;simp [this,hit]);have m0:=HL2.out.many.cell' (u:=many) i (by have:=H1.out.mlen;simp [this,hit]);go_wp2_with fail;go_quiet (fail);go_wp2_with fail;go_ret2;exact ⟨A,c,rfl,HV2.out.ext ((aq _).drewN' _),(HFR.out.trans HF2.out).drewN _,⟨_,_,_,HL2.out.ext ((aq _).drewN' _)⟩⟩
 ·obtain ⟨hv,hm⟩:=HFI.out rfl
  have l0:=HLS.out;have m0:=HMS.out;obtain ⟨A,c,ev,-,-⟩:=hv.form;rw [ev] at l0 hv;rw [hm] at m0;have HV:=a4b hv;clear hv hm ev;generalize (aF t).getD i default=r at *;obtain ⟨vals,many⟩:=r;simp only at l0 m0;go_enter Tryz.func137,Tryz.ntmps137;go_wp2_with fail;go_quiet (fail);go_wp2_with fail;go_ret2;exact ⟨A,c,rfl,HV.out.ext ((aq _).drewN' _),ar ((aq _).drewN' _),⟨kn,ls,ms,H.out.ext ((aq _).drewN' _)⟩⟩
def aBh (ls:List GL):List GV->List Int->GL
 | out,[]=>⟨out,false⟩
 | out,z :: zs=>if (ls.getD z.toNat default).many=true then ⟨[],true⟩
   else if 1024<(dP out (ls.getD z.toNat default).vals).length then ⟨[],true⟩ else aBh ls (dP out (ls.getD z.toNat default).vals) zs
theorem bM.lt {t vn g w}(h:bM t vn g w){b}(hb:g.M b):b<w:=by
 obtain ⟨kn,ls,ms,h⟩:=h;rcases hb with rfl | rfl | rfl
 ·exact h.known.lt
 ·exact h.lists.lt
 ·exact h.many.lt
theorem bM.newQ {t vn g w}(h:bM t vn g w){b:Nat}(hb:w<=b):g.Q b :=
 ⟨fun hm=>by have:=h.lt hm;omega,fun hx=>by obtain ⟨kn,ls,ms,h⟩:=h;have:=h.xlt b hx;omega⟩
def aMm (t:List GN)(vn:Value)(g:SA)(ks:List Int)(w:World)(v i:Value)(wr:World):Prop :=
 ∃ (k:Nat) (out:List GV),k<=ks∧i=↑k∧bT wr g.Q v out∧Inc out∧out.length<=1024∧Fr g.M w wr∧bM t vn g wr∧aBh (aF t) [] ks=aBh (aF t) out (ks.drop k)
theorem fY.none_ {t vn g w w'}(hf:Fr g.M w w')(hs:bM t vn g w'):fY t vn g ⟨[],true⟩ w (.returned (.tuple #[qn,false])) w' :=
 ⟨none,0,rfl,bT.nil_any _ _ _ _ I,hf,hs⟩
theorem zF (t vn g)(f n:Nat)(hO:aEp t vn f)(ks vk w)(hk:Ints w g.Q vk ks)(hks:∀ z ∈ ks,0<=z∧z<(n:Int))(hnf:n<=f)(hg:bD t n)(hs:bM t vn g w) :
  qg 202 #[qp g.s,vk] w (fY t vn g (aBh (aF t) [] ks) w):=by
 have HK:=a4b hk;have HKS:=a4b hks;have HG:=a4b hg;have HS:=a4b hs;obtain ⟨Ak,ck,ek,hk1,hk2⟩:=hk.form;subst ek;clear hk hks hg hs;go_enter Tryz.func202,Tryz.ntmps202;go_wp2_with fail;go_loopw [6,13] (fun v i wr=>aMm t vn g ks w v i wr) (fun _ i _=>ks.length - (intOf i).toNat)
 case atStart=>exact ⟨0,[],af _,rfl,bT.nil_any _ _ _ _ I,Inc.nil,O,au _ _,HS.out,rfl⟩
 case round =>
  obtain ⟨k,out,hk,rfl,hv,hinc,hlen,hfr,hs,hu⟩:=hrel;have HV:=a4b hv;have HINC:=a4b hinc;have HFR:=a4b hfr;have HSR:=a4b hs;have HU:=a4b hu;obtain ⟨A6,c6,e6,h61,h62⟩:=hv.form;subst e6;have HKR:=a4b (HK.out.keep (Q:=g.Q) (aB.of_fr hfr (fun b h=>h.1)) (fun _ h=>h));clear hv hinc hfr hs hu;by_cases hlt:k<ks
  ·obtain ⟨b1,o1,rfl,-,-,g1⟩:=HKR.out.get hlt
   have hz:=HKS.out _ (aD (d:=0) hlt);have HD:=a4b (HU.out.trans (by rw [aH 0 hlt,aBh]));generalize ks.getD k 0=z at *;obtain ⟨zn,rfl⟩:∃ zn:Nat,z=zn:=⟨z.toNat,I⟩;have HLOK:=a4b (mT HG.out zn I);have hgz:=HG.out.mono (j:=zn+1) I;have HOZ:=a4b (hO g zn wr I hgz HSR.out);simp only [Int.toNat_natCast] at HD;clear hgz;generalize (aF t).getD zn default=r at *;obtain ⟨vals,many⟩:=r;go_wp2_with fail;refine HOZ.out.mono ?_;rintro e w1 ⟨A2,d2,rfl,hv2,hf2,hs2⟩;have HV2:=a4b hv2;have HF2:=a4b (HFR.out.trans hf2);have HS2:=a4b hs2;have HVO:=a4b (HV.out.keep (Q:=g.Q) (aB.of_fr hf2 (fun b h=>h.1)) (fun _ h=>h));clear hv2 hf2 hs2 g1;cases many
   ·have hfew:=HLOK.out.few
    simp only at hfew;go_wp2_with fail;refine (aFd out vals (fun b=>g.Q b∧b<w1) _ _ _ (HVO.out.imp (fun b hb h=>⟨h,hb⟩)) (HV2.out.imp (fun b hb h=>⟨h,hb⟩)) I I (fun b h=>h.2)).mono ?_;rintro e w2 ⟨A3,d3,rfl,hv3,hx3⟩;have HV3:=a4b (hv3.imp (Q:=g.Q) (fun b hb h=>h.elim (fun h=>h.1) (fun h=>HS2.out.newQ h)));have HX3:=a4b hx3;have HI3:=a4b (iM out vals HINC.out HLOK.out.inc);clear hv3 hx3;generalize dP out vals=mo at *;have hmo:mo<=d3∧(mo.length<=17592186044416∧d3<=9223372036854775807):=HV3.out.le;by_cases hbig:1024<mo.length
    ·have tb:decide (1024<(mo:Int))=true:=a4e I
     have HE:=a4b (show aBh (aF t) [] ks=⟨[],true⟩ from HD.out.trans (by simp [hbig]));clear hbig;go_wp2_with fail;go_ret2;rw [HE.out];exact fY.none_ (HF2.out.trans (ar HX3.out)) (HS2.out.ext HX3.out)
    ·have tb:decide (1024<(mo:Int))=false:=a4f I
     have HE:=a4b (show aBh (aF t) [] ks=aBh (aF t) mo (ks.drop (k+1)) from HD.out.trans (by simp [hbig]));have hb2:mo.length<=1024:=by omega
     clear hbig;go_wp2_with fail;go_roundw
     case rel=>exact ⟨k+1,mo,I,by go_num,HV3.out,HI3.out,I,HF2.out.trans (ar HX3.out),HS2.out.ext HX3.out,HE.out⟩
     case measure=>simp [intOf];omega
   ·have HE:=a4b (show aBh (aF t) [] ks=⟨[],true⟩ from HD.out.trans O)
    go_wp2_with fail;go_ret2;rw [HE.out];exact fY.none_ HF2.out HS2.out
  ·have HE:=a4b (show aBh (aF t) [] ks=⟨out,false⟩ by rw [HU.out,drop_nil I,aBh])
   go_wp2_with fail;go_ret2;rw [HE.out];exact ⟨A6,c6,rfl,HV.out,HFR.out,HSR.out⟩
def bB (lss:List (List GV)):List (List GV):=lss.foldl eT [[]]
theorem iX (lss l):bB (lss ++ [l])=eT (bB lss) l:=by simp [bB]
theorem aE5 (rows:List (List GV))(l:List GV)(k:Nat)(hk:k<rows*l):(eT rows l).getD k []=rows.getD (k / l.length) [] ++ [l.getD (k % l.length) default]:=by
 have hl:0<l.length:=by
  rcases Nat.eq_zero_or_pos l.length with h | h
  ·rw [h] at hk;simp at hk
  ·exact h
 induction rows generalizing k with
 | nil=>simp at hk
 | cons r rs ih =>
  unfold eT;rw [List.flatMap_cons];by_cases hlt:k<l
  ·have e1:k / l.length=0:=Nat.div_eq_of_lt hlt
   have e2:k % l.length=k:=Nat.mod_eq_of_lt hlt;rw [e1,e2];simp [List.getD,List.getElem?_append,hlt]
  ·have hge:l<=k:=by omega
   have h1:=ih (k - l) (by simp only [ai,Nat.add_mul,Nat.one_mul] at hk;omega)
   have e1:k / l.length=(k - l) / l.length+1:=by
    rw [Nat.div_eq k l,if_pos ⟨hl,hge⟩]
   have e2:k % l.length=(k - l) % l.length:=by rw [Nat.mod_eq_sub_mod hge]
   rw [e1,e2,List.getD_cons_succ,<- h1];simp only [List.getD,eT];rw [List.getElem?_append_right bh];simp
def tY (ls:List GL)(x:GN):GL :=
 match bL ls [[]] x.kids with
 | none=>⟨[],true⟩
 | some rows=>⟨rows.map (bX x.name),false⟩
structure aBd (w:World)(Q:Nat->Prop)(cells:List Value)(lss:List (List GV))(k:Nat):Prop where
 at_:∀ j,j<k->∃ A c,cells[j]?=some (.slice A (lss.getD j []) c)∧bT w Q (.slice A (lss.getD j []) c) (lss.getD j [])
theorem aBd.keep {w w' Q cells lss k}(h:aBd w Q cells lss k)(hk:aB Q w w'):aBd w' Q cells lss k :=
 ⟨fun j hj=>by obtain ⟨A,c,h1,h2⟩:=h.at_ j hj;exact ⟨A,c,h1,h2.carry hk (fun _ _ h=>h)⟩⟩
theorem aBd.put {w Q cells lss}(h:aBd w Q cells lss lss){l:List GV}{A c}(hv:bT w Q (.slice A l c) l)(hlt:lss.length<cells) :
  aBd w Q (cells.set lss (.slice A l c)) (lss ++ [l]) (lss+1):=by
 refine ⟨fun j hj=>?_⟩;by_cases e:j=lss.length
 ·subst e
  have e1:(lss ++ [l]).getD lss []=l:=O;rw [e1];exact ⟨A,c,dm,hv⟩
 ·have e1:(lss ++ [l]).getD j []=lss.getD j []:=by simp [List.getD,List.getElem?_append,show j<lss by omega]
  rw [e1];obtain ⟨A',c',h1,h2⟩:=h.at_ j I;exact ⟨A',c',by rw [List.getElem?_set_ne (fun h=>e h.symm)];exact h1,h2⟩
theorem fZ (z n):madeCells #[z] n=(List.replicate n z).toArray:=by rw [<- toList_madeCells_one]
theorem tV {lss:List (List GV)}:∀ acc,1<=acc.length->(∀ l ∈ lss,1<=l.length)->1<=(lss.foldl eT acc).length:=by
 induction lss with
 | nil=>intro acc h _;exact h
 | cons l ls ih =>
  intro acc h hl;refine ih _ ?_ (fun y hy=>hl y db);rw [gO];exact Nat.mul_pos h (hl l O)
def aZp (t:List GN)(vn:Value)(g g':SA)(x:GN)(gL:Nat)(w:World)(tot i:Value)(wr:World):Prop :=
 ∃ (k:Nat) (lss:List (List GV)) (cells:List Value),k<=x.kids∧i=↑k∧tot=.int .i64 (bB lss).length∧lss=k∧(bB lss).length<=1024∧cells.length=x.kids∧Blk wr gL 83 cells.toArray∧aBd wr g'.Q cells lss k ∧
  (∀ l ∈ lss,l.length<=1024∧1<=l.length)∧Fr g.M w wr∧bM t vn g' wr∧(∀ v ∈ cells,∃ A n c,v=.slice A n c)∧bL (aF t) [[]] x.kids=bL (aF t) (bB lss) (x.kids.drop k)
def aZo (P:Nat->Prop)(name:ByteArray)(rows:List (List GV))(w0:World)(v i:Value)(wr:World):Prop :=
 ∃ (k:Nat) (xs:List Value),k<=rows∧i=↑k∧wr.ownsRow w0 85 4 v k xs∧RVs wr (Off P w0 wr v) ((rows.take k).map (bX name)) xs∧Ext w0 wr
def aWc (P:Nat->Prop)(lss:List (List GV))(row:List GV)(gK:Nat)(n:Nat)(w0:World)(kk i:Value)(wr:World):Prop :=
 ∃ (r k:Nat) (ii:Int) (tail:List GV) (cs:List Value),r<=n∧i=↑ii∧ii+1=r∧kk=↑k∧Blk wr gK 85 cs.toArray∧cs=n*4∧RVs wr P tail (cs.drop (r*4))∧row=(bB (lss.take r)).getD k [] ++ tail∧(k<(bB (lss.take r))∧k<=1024)∧tail.length+r=n∧Fr (fun b=>b=gK) w0 wr
theorem pS {lss:List (List GV)}{q:Nat}(h:q<lss):bB (lss.take (q+1))=eT (bB (lss.take q)) (lss.getD q []):=by
 rw [aR [] h,iX]
theorem tU {lss:List (List GV)}:∀ acc m,(∀ r ∈ acc,r.length=m)->∀ r ∈ lss.foldl eT acc,r.length=m+lss:=by
 induction lss with
 | nil=>intro acc m h r hr;simpa using h r hr
 | cons l ls ih =>
  intro acc m h r hr;have:=ih (eT acc l) (m+1) (fun q hq=>by obtain ⟨q',hq',v,_,rfl⟩:=jV.1 hq;simp [h q' hq']) r hr;simp only [ai];omega
theorem aJ7 {w g t}{cs:List Value}(h:Blk w g t cs.toArray)(q:Nat)(u0 u1 u2 u3)(hq:q*4+4<=cs) :
  Blk ((((w.setCell (qt g (q*4)) u0).setCell (qt g (q*4+1)) u1).setCell (qt g (q*4+2)) u2).setCell (qt g (q*4+3)) u3) g t (cs.take (q*4) ++ [u0,u1,u2,u3] ++ cs.drop (q*4+4)).toArray:=by
 have h1:=(((h.set_ (q*4) u0).set_ (q*4+1) u1).set_ (q*4+2) u2).set_ (q*4+3) u3;simp only [List.setIfInBounds_toArray] at h1
 have e:((((cs.set (q*4) u0).set (q*4+1) u1).set (q*4+2) u2).set (q*4+3) u3)=cs.take (q*4) ++ [u0,u1,u2,u3] ++ cs.drop (q*4+4):=by
  apply List.ext_getElem?;intro j;simp only [List.getElem?_set,List.length_set,List.getElem?_append,ak,aa,List.getElem?_take,List.getElem?_drop,ai,List.length_nil];have hm:min (q*4) cs.length=q*4:=by omega
  rw [hm];by_cases j0:j<q*4
  ·simp [j0,show ¬ q*4+3=j by omega,show ¬ q*4+2=j by omega,show ¬ q*4+1=j by omega,show ¬ q*4=j by omega,show j<q*4+4 by omega]
  by_cases j1:j<q*4+4
  ·have hc:j=q*4∨j=q*4+1∨j=q*4+2∨j=q*4+3:=by omega
   rcases hc with rfl | rfl | rfl | rfl
   ·simp [show q*4<cs by omega]
   ·simp [show q*4+1<cs by omega]
    intro h;omega
   ·simp [show q*4+2<cs by omega]
    intro h;omega
   ·simp [show q*4+3<cs by omega]
    intro h;omega
  ·simp [j0,j1,show ¬ q*4+3=j by omega,show ¬ q*4+2=j by omega,show ¬ q*4+1=j by omega,show ¬ q*4=j by omega]
   congr 1
   omega
 rw [e] at h1;exact h1
theorem aL4 {a b:Nat}(h:a<=1024):wrap64 ((a:Int) / (b:Int))=((a / b:Nat):Int):=by
 have h1:=Nat.div_le_self a b;rw [<- Int.natCast_ediv];generalize a / b=c at *;exact IntWalk.wrap64_in _ I
theorem aFa {P lss row}{gK n q k':Nat}{w0 wr}{cs:List Value}{tail v A4 d4}(hBK:Blk wr gK 85 cs.toArray)(hcs:cs=n*4)(htl:RVs wr P tail (cs.drop ((q+1)*4)))
  (hrow:row=(bB (lss.take q)).getD k' [] ++ (v :: tail))(hk2:k'<(bB (lss.take q)))(hk3:k'<=1024)(htr:tail.length+(q+1)=n)(hfr:Fr (fun b=>b=gK) w0 wr)(hv:VAt wr P v A4 d4)(hP:¬ P gK) :
  aWc P lss row gK n w0 (↑(k':Int)) (.int .i64 ((q:Int) - 1)) ((((wr.setCell (qt gK (q*4)) (↑v.kind)).setCell (qt gK (q*4+1)) (↑v.n)).setCell (qt gK (q*4+2)) v.s).setCell (qt gK (q*4+3)) (.slice A4 v.kids d4)).drew:=by
 have hq4:q*4+4<=cs:=by rw [hcs];omega
 have hb4:=(aJ7 hBK q (↑v.kind) (↑v.n) v.s (.slice A4 v.kids d4) hq4).drew;have hl4:(cs.take (q*4))=q*4:=by rw [ak];omega
 have hdr:(cs.take (q*4) ++ [Value.int .i64 v.kind,Value.int .i64 v.n,Value.string v.s,Value.slice A4 v.kids d4] ++ cs.drop (q*4+4)).drop (q*4)=cellsOf v A4 d4 ++ cs.drop ((q+1)*4):=by
  rw [ah,List.drop_left' hl4,show q*4+4=(q+1)*4 by omega];rfl
 have hk0:aB P wr wr:=fun _ _ _=>rfl
 have hkp:=(((hk0.set (p:=qt gK (q*4)) (↑v.kind) hP).set (p:=qt gK (q*4+1)) (↑v.n) hP).set (p:=qt gK (q*4+2)) v.s hP).set (p:=qt gK (q*4+3)) (.slice A4 v.kids d4) hP
 have hlen4:(cs.take (q*4) ++ [Value.int .i64 v.kind,Value.int .i64 v.n,Value.string v.s,Value.slice A4 v.kids d4] ++ cs.drop (q*4+4)).length=n*4:=by
  rw [aa,aa,hl4,am];simp only [ai,List.length_nil];omega
 refine ⟨q,k',(q:Int) - 1,v :: tail,_,I,rfl,I,rfl,hb4,hlen4,?_,hrow,⟨hk2,hk3⟩,bh,((((hfr.setCell (p:=qt gK (q*4)) (.inl rfl) (↑v.kind)).setCell (p:=qt gK (q*4+1)) (.inl rfl) (↑v.n)).setCell (p:=qt gK (q*4+2)) (.inl rfl) v.s).setCell (p:=qt gK (q*4+3)) (.inl rfl) (.slice A4 v.kids d4)).drew⟩;rw [hdr];show RVs _ _ ([v] ++ tail) _;exact RVs.append (RVs.one ((hv.carry hkp (fun _ _ h=>h)).ext (aq _).drew').rv) (RVs.keep (aB.of_ext (aq _).drew') (fun _ h=>h) (RVs.carry hkp (fun _ _ h=>h) htl))
theorem qX {w P Q}{g n:Nat}{cs row}(hB:Blk w g 85 cs.toArray)(hr:RVs w P row cs)(hl:row=n)(hn:n<=17592186044416)(hg:Q g)(hPQ:∀ b,P b->Q b):bT w Q (.slice (qp g) row n) row :=
 ⟨some ↑(qp g),n,cs,rfl,I,I,⟨hr.len,fun _=>⟨g,0,rfl,hg,fun j u hu=>by rw [Nat.zero_add,hB.cell];simpa using hu⟩⟩,RVs.keep (fun _ _ _=>rfl) hPQ hr⟩
theorem aAf {P B wq w5 w6 v v' done mv xs A c k}(ho:wq.ownsRow B 85 4 v k xs)(hr:RVs wq (Off P B wq v) done xs)(h5:Ext wq w5)
  (hv:VAt w5 (fun b=>(P b∨B<=b)∧some b ≠ v.ownBlock) mv A c)(hf:Fr (fun k=>some k=v.ownBlock) (w5.alloc (qk (qh mv A c) 85)) w6)
  (hb:v'.ownBlock=v.ownBlock∨v'.ownBlock=some (w5.alloc (qk (qh mv A c) 85)).heap.size):RVs w6 (Off P B w6 v') (done ++ [mv]) (xs ++ cellsOf mv A c):=by
 have hs5:=h5.size;have hs6:=hf.size;simp at hs6;have h56:Fr (fun k=>some k=v.ownBlock) w5 w6:=(ar ((aq w5).alloc' _)).trans hf;have hq6:Fr (fun k=>some k=v.ownBlock) wq w6:=(ar h5).trans h56
 have hne:∀ b,b<w5.heap.size->some b ≠ v.ownBlock->some b ≠ v'.ownBlock:=by
  intro b hb' h;rcases hb with e | e
  ·rw [e];exact h
  ·rw [e];intro e';injection e' with e';simp at e';omega
 refine RVs.append (RVs.carry (aB.off hq6) (fun b hb' h=>⟨h.1,I,hne b I h.2.2⟩) hr) (RVs.one (hv.carry (fun b hb' h=>h56.block b hb' (fun e=>h.2 e)) (fun b hb' h=>⟨h.1,I,hne b hb' h.2⟩)).rv)
theorem aB5 (t vn g)(f n:Nat)(hO:aEp t vn f)(x a b o w)(hx:NAt w g.Q x a)(hnc:bQ w b o x a)(hbQ:g.Q b)(hks:∀ z ∈ x.kids,0<=z∧z<(n:Int))(hnf:n<=f)(hkl:x.kids.length<=2000)(hg:bD t n)(hs:bM t vn g w) :
  qg 203 #[qp g.s,qt b o] w (fY t vn g (tY (aF t) x) w):=by
 have HX:=a4b hx;have HKS:=a4b hks;have HG:=a4b hg;have HS:=a4b hs;have HNC:=a4b hnc;have HBQ:=a4b hbQ;have c7:=hnc.c7;have hki:=hx.kids;have lb:=hnc.lt;obtain ⟨hk1,hk2⟩:=hx.kids.le;obtain ⟨i0,hi,hz0,hz1,hz2⟩:=info_parts Tryz.info85;have HI:=a4b hi;obtain ⟨i1,hi',hz0',hz1',hz2'⟩:=info_parts Tryz.info83
 have hmk:∀ W:World,(Instr.makeSlice 196 (.int .i64 (x.kids:Int)) (.int .i64 (x.kids:Int))).run Tryz.prog W=.ok (.slice (qp W) x.kids x.kids) (W.alloc (qk (madeCells (Value.slice none 0 0).cells (x.kids*1)) 83)):=by
  intro W;have h:=run_make (P:=Tryz.prog) W 196 83 i1 _ Tryz.underlying196 hi' hz0' .i64 .i64 (x.kids:Int) (x.kids:Int) I (Int.le_refl _) (by rw [hz2'];omega) I;rw [hz1'] at h;rw [h];rfl
 clear hx hks hg hs hnc hbQ hi hi';generalize a.kA=Ak at *;generalize a.kc=kc at *;have HKI:=a4b hki;clear hki;go_enter Tryz.func203,Tryz.ntmps203;go_wp2_with fail;have HE:=a4b (show Ext w (w.alloc (qk (madeCells #[qn] x.kids) 83)) from (aq w).alloc' _);have HBL:=a4b (aw w 83 (madeCells #[qn] x.kids));have HS':=a4b (HS.out.more (ab _) HE.out O);generalize hW:w.alloc (qk (madeCells #[qn] x.kids) 83)=W at *;clear hW hmk;obtain ⟨g',hg'⟩:∃ g',g'=SA.mk g.s g.k g.l g.m (fun b=>g.X b∨b=w):=⟨_,rfl⟩;rw [<- hg'] at HS';have HGM:=a4b (show g'.M=g.M by rw [hg'];rfl);have HGS:=a4b (show g'.s=g.s by rw [hg']);have HGQ:=a4b (show ∀ b,g'.Q b->g.Q b∧b ≠ w from fun b h=>by subst hg';exact ⟨⟨h.1,fun hx=>h.2 (.inl hx)⟩,fun e=>h.2 (.inr e)⟩);have HGX:=a4b (show g'.X w.heap.size by subst hg';exact .inr rfl);have HLESS:=a4b (show ∀ W',bM t vn g' W'->bM t vn g W' from fun W' h=>by subst hg';exact h.less (fun b hb=>.inl hb));have HGL:=a4b (show ¬ g.M w.heap.size from fun h=>by have:=HS.out.lt h;omega);have HNS:=a4b (show w ≠ g.s from fun e=>by obtain ⟨_,_,_,h⟩:=HS.out;have:=h.box.lt;omega);clear hg';go_loopw [7,27] (fun tot i wr=>aZp t vn g g' x w w tot i wr) (fun _ i _=>x.kids.length - (intOf i).toNat)
 case atStart =>
  refine ⟨0,[],List.replicate x.kids qn,af _,rfl,rfl,rfl,by simp [bB],O,by rw [<- fZ];exact HBL.out,⟨fun j hj=>by omega⟩,O,ar HE.out,HS'.out,?_,rfl⟩;intro v hv;rw [List.eq_of_mem_replicate hv];exact ⟨_,_,_,rfl⟩
 case round =>
  obtain ⟨k,lss,cells,hk,rfl,rfl,hlk,hrl,hcl,hB,hat,hls,hfr,hs,hsl,hsq⟩:=hrel;have HLK:=a4b hlk;have HCL:=a4b hcl;have HB:=a4b hB;have HAT:=a4b hat;have HLS:=a4b hls;have HFR:=a4b hfr;have HSR:=a4b hs;have HSL:=a4b hsl;have HSQ:=a4b hsq;have HKR:=a4b (HKI.out.keep (Q:=g.Q) (aB.of_fr hfr (fun b h=>h.1)) (fun _ h=>h));have hszr:=hfr.size;clear hlk hcl hB hat hls hfr hs hsl hsq;by_cases hlt:k<x.kids
  ·obtain ⟨b1,o1,rfl,-,-,g1⟩:=HKR.out.get hlt
   have hz:=HKS.out _ (aD (d:=0) hlt);have HD:=a4b (HSQ.out.trans (by rw [aH 0 hlt,bL]));generalize x.kids.getD k 0=z at *;obtain ⟨zn,rfl⟩:∃ zn:Nat,z=zn:=⟨z.toNat,I⟩;have HLOK:=a4b (mT HG.out zn I);have hgz:=HG.out.mono (j:=zn+1) I;have HOZ:=a4b (hO g' zn wr I hgz HSR.out);rw [HGS.out] at HOZ;simp only [Int.toNat_natCast] at HD;clear hgz;generalize (aF t).getD zn default=r at *;obtain ⟨vals,many⟩:=r;go_wp2_with fail;refine HOZ.out.mono ?_;rintro e w1 ⟨A2,d2,rfl,hv2,hf2,hs2⟩;rw [HGM.out] at hf2;have HV2:=a4b hv2;have HF2:=a4b (HFR.out.trans hf2);have HS2:=a4b hs2;have HB2:=a4b (HB.out.fr hf2 HGL.out);have HAT2:=a4b (HAT.out.keep (aB.of_fr hf2 (fun b h=>(HGQ.out b h).1.1)));clear hv2 hf2 hs2 g1;have hfew:=HLOK.out.few;simp only at hfew;cases many
   ·have hnn:=HLOK.out.some_ rfl
    have hpos:1<=vals.length:=List.length_pos_iff.2 hnn;clear hnn;by_cases hp:1024<(bB lss).length*vals.length
    ·have tp:decide (1024<wrap64 (((bB lss):Int)*(vals:Int)))=true:=by rw [mR hrl hfew];exact a4e I
     have HE2:=a4b (show tY (aF t) x=⟨[],true⟩ by unfold tY;rw [HD.out,if_pos (.inr hp)]);clear hp;go_wp2_with fail;go_ret2;rw [HE2.out];exact fY.none_ HF2.out (HLESS.out _ HS2.out)
    ·have tp:decide (1024<wrap64 (((bB lss):Int)*(vals:Int)))=false:=by rw [mR hrl hfew];exact a4f I
     have HE2:=a4b (show bL (aF t) [[]] x.kids=bL (aF t) (bB (lss ++ [vals])) (x.kids.drop (k+1)) by rw [HD.out,if_neg bh,iX]);have HMW:=a4b (show wrap64 (((bB lss):Int)*(vals:Int))=((bB (lss ++ [vals])):Int) by rw [mR hrl hfew,iX,gO]);have hr2:(bB (lss ++ [vals])).length<=1024:=by rw [iX,gO];omega
     clear hp;obtain ⟨An,nn,cn,en⟩:∃ A n c,cells.getD k default=Value.slice A n c:=HSL.out _ (aD (by rw [HCL.out];exact hlt));have l0:=HB2.out.cell' (u:=cells.getD k default) k (by have:=HCL.out;simp [this,hlt]);rw [en] at l0;have fl:=HB2.out.frozen k;have hk0:(0:Int)<=(k:Int):=by omega
     go_wp2_with fail;go_roundw
     case rel =>
      have hkl2:lss.length<cells:=by rw [HLK.out,HCL.out];exact hlt
      have hQL:¬ g'.Q w.heap.size:=fun h=>(HGQ.out _ h).2 rfl
      have hkp:aB g'.Q w1 (w1.setCell (qt w k) (.slice A2 vals d2)):=aB.set (fun _ _ _=>rfl) (p:=qt w k) _ hQL;have hB3:=HB2.out.set_ k (.slice A2 vals d2);simp only [List.setIfInBounds_toArray] at hB3;have hat2:=HAT2.out;rw [<- HLK.out] at hat2 hkp hB3;have hput:=(hat2.put HV2.out hkl2).keep hkp;rw [HLK.out] at hput hB3;refine ⟨k+1,lss ++ [vals],cells.set k (.slice A2 vals d2),I,by go_num,by rw [HMW.out],by simp [HLK.out],hr2,by simp [HCL.out],hB3,hput,?_,HF2.out.trans_new (Fr.setCell (au _ _) (p:=qt w k) (.inl (.inr (ab _))) _),?_,?_,HE2.out⟩
      ·intro l hl
       rcases ap.1 hl with hl | hl
       ·exact HLS.out l hl
       ·rw [List.mem_singleton.1 hl];exact ⟨hfew,hpos⟩
      ·exact HS2.out.setX (p:=qt w k) HGX.out (by rw [HGS.out];exact HNS.out) (by rw [HGM.out];exact HGL.out) _
      ·intro v hv
       rcases List.mem_or_eq_of_mem_set hv with hv | rfl
       ·exact HSL.out v hv
       ·exact ⟨_,_,_,rfl⟩
     case measure=>simp [intOf];omega
   ·have HE2:=a4b (show tY (aF t) x=⟨[],true⟩ by unfold tY;rw [HD.out,if_pos (.inl rfl)])
    go_wp2_with fail;go_ret2;rw [HE2.out];exact fY.none_ HF2.out (HLESS.out _ HS2.out)
  ·have hkn:k=x.kids:=by omega
   have HLN:=a4b (show lss.length=x.kids by rw [HLK.out,hkn]);have HRES:=a4b (show tY (aF t) x=⟨(bB lss).map (bX x.name),false⟩ by unfold tY;rw [HSQ.out,drop_nil I,bL]);have hrp:1<=(bB lss).length:=tV [[]] O (fun l hl=>(HLS.out l hl).2)
   have HATN:=a4b (show aBd wr (fun b=>g'.Q b∧b<wr) cells lss x.kids.length from ⟨fun j hj=>by
    obtain ⟨A,c,h1,h2⟩:=HAT.out.at_ j I;exact ⟨A,c,h1,h2.imp (fun b hb h=>⟨h,hb⟩)⟩⟩)
   have HMEM:=a4b (show ∀ r ∈ bB lss,r.length=x.kids from fun r hr=>by have:=tU [[]] 0 O r hr;have:=HLN.out;omega);have HNC2:=a4b (HNC.out.keep (P:=g.Q) HBQ.out (aB.of_fr HFR.out (fun b h=>h.1)));have HNM:=a4b HX.out.name
   have hmk2:∀ W:World,(Instr.makeSlice 83 qz (.int .i64 ((bB lss):Int))).run Tryz.prog W=.ok (.slice (qp W) 0 (bB lss)) (W.alloc (qk (madeCells (Value.agg #[qz,qz,.string ByteArray.empty,qn]).cells ((bB lss)*4)) 85)):=by
    intro W;have h:=run_make (P:=Tryz.prog) W 83 85 i0 _ Tryz.underlying83 HI.out hz0 .i64 .i64 0 ((bB lss):Int) (Int.le_refl _) I fo I;rw [hz1] at h;rw [h];rfl
   have hmk3:∀ W:World,(Instr.makeSlice 83 (.int .i64 (x.kids:Int)) (.int .i64 (x.kids:Int))).run Tryz.prog W=.ok (.slice (qp W) x.kids x.kids) (W.alloc (qk (madeCells (Value.agg #[qz,qz,.string ByteArray.empty,qn]).cells (x.kids*4)) 85)):=by
    intro W;have h:=run_make (P:=Tryz.prog) W 83 85 i0 _ Tryz.underlying83 HI.out hz0 .i64 .i64 (x.kids:Int) (x.kids:Int) I (Int.le_refl _) fo I;rw [hz1] at h;rw [h];rfl
   have HMK3:=a4b hmk3;clear hmk3 hkn;go_wp2_with fail;have HOW:=a4b (World.ownsRow_made (base:=wr.heap.size) (e:=85) (size:=4) wr (madeCells #[qz,qz,.string ByteArray.empty,qn] ((bB lss)*4)) (bB lss) (ab _) di (size_madeCells _ _));have HE2:=a4b (show Ext wr (wr.alloc (qk (madeCells #[qz,qz,.string ByteArray.empty,qn] ((bB lss)*4)) 85)) from (aq wr).alloc' _);generalize hW2:wr.alloc (qk (madeCells #[qz,qz,.string ByteArray.empty,qn] ((bB lss)*4)) 85)=W2 at *;clear hW2 hmk2;obtain ⟨wo,rfl⟩:∃ wo:World,wo=wr:=⟨_,rfl⟩;have hgl0:=HB.out.lt;go_loopw [12,54] (fun v i wz=>aZo (fun b=>g'.Q b∧b<wo.heap.size) x.name (bB lss) wo v i wz) (fun _ i _=>(bB lss).length - (intOf i).toNat)
   case atStart=>exact ⟨0,[],af _,rfl,HOW.out,rfl,HE2.out⟩
   case round =>
    obtain ⟨k2,xs,hk2',rfl,hown,hrv,hx2⟩:=hrel;have HOWN:=a4b hown;have HRV:=a4b hrv;have HX2:=a4b hx2;obtain ⟨A12,c12,e12,-,-,-⟩:=Sl.of_own hown;subst e12;have hszz:=hx2.size;clear hown hrv hx2;by_cases hlt2:k2<(bB lss)
    ·have hmk3:=HMK3.out
     go_wp2_with fail;clear hmk3;obtain ⟨wq,rfl⟩:∃ wq:World,wq=wr:=⟨_,rfl⟩;have HEK:=a4b (show Ext wq (wq.alloc (qk (madeCells #[qz,qz,.string ByteArray.empty,qn] (x.kids*4)) 85)) from (aq wq).alloc' _);have HBK:=a4b (aw wq 85 (madeCells #[qz,qz,.string ByteArray.empty,qn] (x.kids*4)));have hszk:wq.heap.size<(wq.alloc (qk (madeCells #[qz,qz,.string ByteArray.empty,qn] (x.kids*4)) 85)):=by simp
     generalize hWk:wq.alloc (qk (madeCells #[qz,qz,.string ByteArray.empty,qn] (x.kids*4)) 85)=Wk at *;clear hWk;have HROW:=a4b (HMEM.out _ (aD (d:=[]) hlt2));have HTK:=a4b (show ((bB lss).take (k2+1)).map (bX x.name)=((bB lss).take k2).map (bX x.name) ++ [bX x.name ((bB lss).getD k2 [])] by rw [aR [] hlt2,List.map_append];rfl);have HR0:=a4b (show (bB lss).getD k2 []=(bB (lss.take x.kids)).getD k2 [] ++ [] by rw [List.append_nil,an (by have:=HLN.out;omega)]);have HR1:=a4b (show k2<(bB (lss.take x.kids)) by rw [an (by have:=HLN.out;omega)];exact hlt2);generalize (bB lss).getD k2 []=row at *;go_loopw [13,15] (fun kk i wy=>aWc (fun b=>g'.Q b∧b<wo) lss row wq x.kids Wk kk i wy) (fun _ i _=>(intOf i+1).toNat)
     case atStart =>
      refine ⟨x.kids.length,k2,(x.kids:Int) - 1,[],(madeCells #[qz,qz,.string ByteArray.empty,qn] (x.kids*4)).toList,ab _,rfl,I,rfl,HBK.out,by simp [size_madeCells],?_,HR0.out,⟨HR1.out,I⟩,O,au _ _⟩;rw [List.drop_eq_nil_of_le (by simp [size_madeCells])];rfl
     case round =>
      obtain ⟨r,kk,ii,tail,cs,hr,rfl,hii,rfl,hBK,hcs,htl,hrow,⟨hkk,hkb⟩,htr,hfr3⟩:=hrel;have HBK3:=a4b hBK;have HCS:=a4b hcs;have HTL:=a4b htl;have HROW3:=a4b hrow;have HFR3:=a4b hfr3;have HTR:=a4b htr;have hsz3:=hfr3.size;have HEW:=a4b (show Ext wo wr from Fr.new_ext ((ar (HX2.out.trans' HEK.out)).trans hfr3) (fun b hb=>by omega));clear hBK hcs htl hrow hfr3 htr;rcases r with _ | q
      ·obtain rfl:ii=-1:=by omega
       clear hii;have hk1:kk=0:=by simp [bB] at hkk;omega
       have HRT:=a4b (show row=tail by rw [HROW3.out,hk1];simp [bB]);have htl:=HTL.out;rw [<- HRT.out,Nat.zero_mul,List.drop_zero] at htl;have hown_lt:∀ b,(Value.slice A12 k2 c12).ownBlock=some b->wo<=b∧b<wq:=fun b hb=>⟨HOWN.out.block_ge hb,HOWN.out.block_lt hb⟩
       have HOL:=a4b hown_lt;have HEQ:=a4b (show Ext wq wr from Fr.new_ext ((ar HEK.out).trans HFR3.out) (fun b hb=>by omega));have HVR:=a4b (qX (Q:=fun b=>((g'.Q b∧b<wo)∨wo<=b)∧some b ≠ (Value.slice A12 k2 c12).ownBlock) HBK3.out htl HROW.out I ⟨.inr I,fun e=>by have:=hown_lt _ e.symm;omega⟩ (fun b h=>⟨.inl h,fun e=>by have h3:=hown_lt _ e.symm;have:=h.2;omega⟩));have HVM:=a4b (VAt.made HNM.out HVR.out);have HMC:=a4b (jX x a b o row (qp wq) x.kids wr (HNC2.out.ext HEW.out));rw [HROW.out] at HMC;clear hkk hk1 htl hown_lt;go_wp2_with fail;refine HMC.out.mono ?_;rintro e w5 ⟨rfl,hx5⟩;have HX5:=a4b (HEQ.out.trans' hx5);have HVM5:=a4b (HVM.out.ext hx5);have hs5:=hx5.size;clear hx5;generalize bX x.name row=mv at *;go_wp2_with (at_builtin;go_must (refine aN _ rfl (.tmp 90) (.tmp 94) 83 ba wo 85 i0 _ 4 56 Tryz.underlying83 HI.out hz0 hz1 hz2 rfl I (.slice A12 k2 c12) _ _ rfl ((HOWN.out.ext_ HX5.out).alloc _) (fun _=>True) (qp w5) 1 1 [mv.kind,mv.n,mv.s,.slice (qp wq) mv.kids x.kids] rfl (Sl.new w5 _ _ _ _ rfl) cd I I bh ?_);intro v6 w6 ho6 hf6 hb6);go_roundw
       case rel =>
        refine ⟨k2+1,_,I,by go_num,ho6,?_,?_⟩
        ·rw [HTK.out]
         exact aAf HOWN.out HRV.out HX5.out HVM5.out hf6 hb6
        ·exact Fr.new_ext (((ar (HX2.out.trans' HX5.out)).alloc _).trans hf6) (fun b hb=>(HOL.out b hb.symm).1)
       case measure=>simp [intOf];omega
      ·obtain rfl:ii=(q:Int):=by omega
       clear hii;have hql:q<lss:=by have:=HLN.out;omega
       have HSUC:=a4b (pS hql);have hll:=HLS.out _ (aD (d:=[]) hql);obtain ⟨Al,cl',hce,hvl⟩:=HATN.out.at_ q I;have HVL:=a4b (hvl.ext HEW.out);have gl0:=(HB.out.ext HEW.out).cell' (u:=.slice Al (lss.getD q []) cl') q (by simpa using hce);have HKK:=a4b (show kk<(bB (lss.take q))*(lss.getD q []).length by rw [<- gO,<- HSUC.out];exact hkk);clear hce hvl hkk;generalize lss.getD q []=l at *;have hmod:kk % l.length<l:=Nat.mod_lt _ I;obtain ⟨bl,ol,A4,d4,rfl,-,hvv,g0,g1,g2,g3⟩:=HVL.out.get hmod;have HVV:=a4b hvv;have HGD:=a4b (show row=(bB (lss.take q)).getD (kk / l.length) [] ++ (l.getD (kk % l.length) default :: tail) by rw [HROW3.out,HSUC.out,aE5 _ _ _ HKK.out];simp);have HKD:=a4b (show kk / l.length<(bB (lss.take q)) from Nat.div_lt_of_lt_mul (by rw [Nat.mul_comm];exact HKK.out));clear hvv;generalize l.getD (kk % l.length) default=v at *;have hcl:=HCS.out;have z0:=HBK3.out.cell' (u:=cs.getD (q*4) default) (q*4) (by simp [show q*4<cs by omega]);have z1:=HBK3.out.cell' (u:=cs.getD (q*4+1) default) (q*4+1) (by simp [show q*4+1<cs by omega]);have z2:=HBK3.out.cell' (u:=cs.getD (q*4+2) default) (q*4+2) (by simp [show q*4+2<cs by omega]);have z3:=HBK3.out.cell' (u:=cs.getD (q*4+3) default) (q*4+3) (by simp [show q*4+3<cs by omega]);have y0:=HBK3.out.frozen (q*4);have y1:=HBK3.out.frozen (q*4+1);have y2:=HBK3.out.frozen (q*4+2);have y3:=HBK3.out.frozen (q*4+3);clear hcl;have hq0:(0:Int)<=(q:Int):=by omega
       have hq1:(q:Int)<(x.kids:Int):=I;have hle:¬ l=[]:=fun e=>by rw [e] at hll;simp at hll
       have hm0:(0:Int)<=Int.tmod (kk:Int) (l:Int):=by rw [<- Int.ofNat_tmod];omega
       have hm1:Int.tmod (kk:Int) (l:Int)<(l:Int):=by rw [<- Int.ofNat_tmod];omega
       have hmt:(Int.tmod (kk:Int) (l:Int)).toNat=kk % l.length:=by rw [<- Int.ofNat_tmod];rfl
       go_upto_region 22 with fail;go_still_tail 16,U;clear hmt;go_wp2_with fail;go_roundw
       case rel =>
        rw [aL4 hkb];exact aFa HBK3.out HCS.out HTL.out HGD.out HKD.out (ae (Nat.div_le_self _ _) hkb) HTR.out HFR3.out HVV.out (fun h=>by have:=h.2;omega)
       case measure=>simp [intOf];try omega
    ·have HTR:=a4b (show (bB lss).take k2=bB lss from an I)
     have hkr:k2=(bB lss):=I;have HKR2:=a4b hkr;clear hkr;go_wp2_with fail;go_ret2;rw [HRES.out];have ho:=HOWN.out;have hr:=HRV.out;rw [HTR.out] at hr;have hmk:((bB lss).map (bX x.name))=k2:=by rw [List.length_map,HKR2.out]
     refine ⟨A12,c12,by rw [hmk];rfl,?_,?_,?_⟩
     ·rw [hmk]
      refine bT.of_own (ho.len_cast hmk.symm rfl) (RVs.carry (fun _ _ _=>rfl) (fun b hb h=>?_) hr) (by rw [hmk];omega) (fun b hb=>HS.out.newQ (by have:=ho.block_ge hb;omega));rcases h.1 with h1 | h1
      ·exact (HGQ.out b h1.1).1
      ·exact HS.out.newQ I
     ·exact HFR.out.trans (ar HX2.out)
     ·exact HLESS.out _ (HSR.out.ext HX2.out)
