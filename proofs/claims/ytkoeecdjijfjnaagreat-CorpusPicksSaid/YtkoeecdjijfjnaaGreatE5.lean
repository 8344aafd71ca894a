/- Contracts of functions. Conditions: none. -/
import Derived.Test.YtkoeecdjijfjnaaGreatD7
set_option maxRecDepth 100000
set_option maxHeartbeats 8000000
namespace Go.Proofs.YtkoeecdjijfjnaaGreat
open Go.RowKit
theorem jT (x:GN)(a:NA)(b o:Nat)(kids:List GV)(A:Option Addr)(c:Nat)(w:World)(hn:bU w b o x a) :
  Calls Tryz.prog 97 #[.pointer (some ⟨b,o,none⟩),.slice A kids.length c] w fun e w'=>e=.returned (eF (bW x.name kids) A c)∧Ext w w':=by
 have c1:=hn.c1;have lb:=hn.lt;clear hn
 by_cases he:x.name.toList=[]
 ·have he1:x.name.toList.isEmpty=true:=by simp [he]
  have HM:=aYl (show bW x.name kids=.mk 2 0 ByteArray.empty kids by unfold bW aY;rw [he1];rfl);go_enter Tryz.func97,Tryz.ntmps97;go_wp2_with fail;rw [HM.out];exact bodyPost_ret (v:=.agg #[.int .i64 2,.int .i64 0,.string ByteArray.empty,.slice A kids.length c]) (by simp [results,Tryz.results97,go_sem];rfl) rfl ⟨rfl,(Ext.refl _).alloc' _⟩
 ·have he1:x.name.toList.isEmpty=false:=by simpa using he
  have HM:=aYl (show bW x.name kids=.mk 3 0 x.name kids by unfold bW aY;rw [he1];rfl);go_enter Tryz.func97,Tryz.ntmps97;go_wp2_with fail;rw [HM.out];exact bodyPost_ret (v:=.agg #[.int .i64 3,.int .i64 0,.string x.name,.slice A kids.length c]) (by simp [results,Tryz.results97,go_sem]) rfl ⟨rfl,(Ext.refl _).alloc' _⟩
theorem pD (x:GN)(a:NA)(b o:Nat)(w:World)(hn:bU w b o x a) :
  Calls Tryz.prog 147 #[.pointer (some ⟨b,o,none⟩)] w (aRd (.int .i64 (aP x)) w):=by
 have HO:=aYl (show aP x=if x.kind=1 then wrap64 (wrap64 (x.hi - x.lo)+1) else x.kids.length from rfl);have c0:=hn.c0;have c2:=hn.c2;have c3:=hn.c3;have c7:=hn.c7;clear hn
 by_cases hk:x.kind=1
 ·have t1:(x.kind == 1)=true:=aYn hk
  have HK:=aYl hk;clear hk;go_enter Tryz.func147,Tryz.ntmps147;go_wp2_with fail;go_quiet (fail);go_wp2_with fail;go_ret;refine ⟨aH ?_,_,rfl⟩;rw [HO.out,if_pos HK.out]
 ·have t1:(x.kind == 1)=false:=aYm hk
  have HK:=aYl hk;clear hk;go_enter Tryz.func147,Tryz.ntmps147;go_wp2_with fail;go_ret;exact ⟨aH (by rw [HO.out,if_neg HK.out]),0,rfl⟩
def aMh (ls:List Int)(x:GN)(ch:Bool)(W:World)(s m i:Value)(wr:World):Prop :=
 ∃ (k:Nat) (s1 m1:Int),k<=x.kids.length∧i=↑k∧s=↑s1∧m=↑m1∧W=wr ∧
  dG ls 0 x.kids=dG ls s1 (x.kids.drop k)∧aW ls ch 0 0 x.kids=aW ls ch k m1 (x.kids.drop k)
theorem kS (ls:List Int)(x:GN)(a:NA)(b o:Nat)(P Q:Nat->Prop)(vl:Value)(w:World)(hn:bU w b o x a)(hx:NAt w P x a)(hl:aU w Q vl ls)(hok:dJ ls.length x) :
  Calls Tryz.prog 96 #[.pointer (some ⟨b,o,none⟩),vl] w fun e w'=>e=.returned (.int .i64 (gO ls x))∧w=w':=by
 have HL:=aYl hl;have hki:=hx.kids;have HK:=aYl hok.kids;have hkd:=hok.kind;have HBD:=aYl (show x.kind=4->0<x.kids.length from fun h=>by have:=hok.bind h;omega);obtain ⟨Al,cl,el,hl1,hl2⟩:=hl.form;subst el;obtain ⟨hkl1,hkl2⟩:=hx.kids.le;have c0:=hn.c0;have c7:=hn.c7;have HLR:=aYl (show gO ls x=if x.kind=0 then 0 else if x.kind=1 then 1 else if x.kind=3 then dG ls 0 x.kids else if x.kind=2 then wrap64 (1+aW ls true 0 0 x.kids) else wrap64 (ls.getD (x.kids.getD 0 0).toNat 0+aW ls false 0 0 x.kids) from rfl);clear hx hl hok hn;generalize a.kA=Ak at *;generalize a.kc=kc at *;have HX:=aYl hki;clear hki;obtain ⟨ch,hch⟩:∃ ch:Bool,ch=decide (x.kind=2):=⟨_,rfl⟩;have HCH:=aYl hch;have t2:(x.kind == 2)=ch:=by rw [hch];exact rfl
 clear hch;go_enter Tryz.func96,Tryz.ntmps96;go_wp2_with fail;go_loopw [5,6,14] (fun s m i wr=>aMh ls x ch w s m i wr) (fun _ _ i _=>x.kids.length - (intOf i).toNat)
 case atStart=>exact ⟨0,0,0,Nat.zero_le _,rfl,rfl,rfl,rfl,rfl,rfl⟩
 case round =>
  obtain ⟨k,s1,m1,hk,rfl,rfl,rfl,rfl,hs,hm⟩:=hrel;have HS:=aYl hs;have HM:=aYl hm;clear hs hm
  by_cases hlt:k<x.kids.length
  ·obtain ⟨b1,o1,rfl,-,-,g1⟩:=HX.out.get hlt
   have hz:=HK.out _ (aF (d:=0) hlt);have HD1:=aYl (HS.out.trans (by rw [aG 0 hlt,dG]));have HD2:=aYl (show aW ls ch 0 0 x.kids=aW ls ch (k+1) (if ch=true∨0<k then (if m1<ls.getD (x.kids.getD k 0).toNat 0 then ls.getD (x.kids.getD k 0).toNat 0 else m1) else m1) (x.kids.drop (k+1)) by rw [HM.out,aG 0 hlt,aW]);generalize x.kids.getD k 0=z at *;obtain ⟨b2,o2,rfl,-,-,g2⟩:=HL.out.get (i:=z.toNat) U;generalize ls.getD z.toNat 0=y at *
   by_cases hk0:0<k
   ·have tk:decide (0<(k:Int))=true:=aYo U
    go_wp2_with fail
    all_goals
     go_roundw
     case rel=>exact ⟨k+1,_,_,U,by go_num,rfl,rfl,rfl,HD1.out,by rw [HD2.out,if_pos (.inr hk0)];try (first | rw [if_pos ba] | rw [if_neg U])⟩
     case measure=>simp [intOf];omega
   ·have tk:decide (0<(k:Int))=false:=aYp U
    cases ch
    ·go_wp2_with fail
     go_roundw
     case rel=>exact ⟨k+1,_,_,U,by go_num,rfl,rfl,rfl,HD1.out,by rw [HD2.out,if_neg ab]⟩
     case measure=>simp [intOf];omega
    ·go_wp2_with fail
     all_goals
      go_roundw
      case rel=>exact ⟨k+1,_,_,U,by go_num,rfl,rfl,rfl,HD1.out,by rw [HD2.out,if_pos (.inl rfl)];try (first | rw [if_pos ba] | rw [if_neg U])⟩
      case measure=>simp [intOf];omega
  ·have HS2:=aYl (show dG ls 0 x.kids=s1 by rw [HS.out,drop_nil U,dG])
   have HM2:=aYl (show aW ls ch 0 0 x.kids=m1 by rw [HM.out,drop_nil U,aW]);clear t2
   by_cases k0:x.kind=0
   ·have t0:(x.kind == 0)=true:=aYn k0
    have t1:(x.kind == 1)=false:=aYm U;have t2:(x.kind == 2)=false:=aYm U;have t3:(x.kind == 3)=false:=aYm U;have t4:(x.kind == 4)=false:=aYm U;have HF:=aYl (show gO ls x=0 by rw [HLR.out,if_pos k0]);clear k0;go_wp2_with fail;go_ret;exact ⟨aH HF.out.symm,rfl⟩
   by_cases k1:x.kind=1
   ·have t1:(x.kind == 1)=true:=aYn k1
    have HF:=aYl (show gO ls x=1 by rw [HLR.out,if_neg k0,if_pos k1]);clear k1 k0;go_wp2_with fail;go_ret;exact ⟨aH HF.out.symm,rfl⟩
   have t1:(x.kind == 1)=false:=aYm k1
   by_cases k2:x.kind=2
   ·have t2:(x.kind == 2)=true:=aYn k2
    have HF:=aYl (show gO ls x=wrap64 (1+m1) by rw [HLR.out,if_neg k0,if_neg k1,if_neg U,if_pos k2,<- HM2.out,HCH.out,aYo k2]);clear k2 k1 k0;go_wp2_with fail;go_ret;exact ⟨aH HF.out.symm,rfl⟩
   have t2:(x.kind == 2)=false:=aYm k2
   by_cases k3:x.kind=3
   ·have t3:(x.kind == 3)=true:=aYn k3
    have HF:=aYl (show gO ls x=s1 by rw [HLR.out,if_neg k0,if_neg k1,if_pos k3,HS2.out]);clear k3 k2 k1 k0;go_wp2_with fail;go_ret;exact ⟨aH HF.out.symm,rfl⟩
   have t3:(x.kind == 3)=false:=aYm k3;have k4:x.kind=4:=by omega
   have t4:(x.kind == 4)=true:=aYn k4;have hkp:=HBD.out k4;have HF:=aYl (show gO ls x=wrap64 (ls.getD (x.kids.getD 0 0).toNat 0+m1) by rw [HLR.out,if_neg k0,if_neg k1,if_neg k3,if_neg k2,<- HM2.out,HCH.out,aYp k2]);obtain ⟨b1,o1,rfl,-,-,g1⟩:=HX.out.get hkp;rw [Nat.add_zero] at g1;have hz:=HK.out _ (aF (d:=0) hkp);generalize x.kids.getD 0 0=z at *;obtain ⟨b2,o2,rfl,-,-,g2⟩:=HL.out.get (i:=z.toNat) U;generalize ls.getD z.toNat 0=y at *;clear k4 k3 k2 k1 k0;go_wp2_with fail;go_ret;exact ⟨aH HF.out.symm,rfl⟩
def dQ:List GV->List GV->List GV
 | [],b=>b
 | x :: xs,[]=>x :: xs
 | x :: xs,y :: ys=>if cH x y<0 then x :: dQ xs (y :: ys) else if cH x y=0 then x :: dQ xs ys else y :: dQ (x :: xs) ys
termination_by a b=>a.length+b.length
decreasing_by all_goals (simp only [List.length_cons];omega)
theorem eU (b:List GV):dQ [] b=b:=by simp [dQ]
theorem mW (a:List GV):dQ a []=a:=by cases a <;> simp [dQ]
theorem kW (x y:GV)(xs ys:List GV):dQ (x :: xs) (y :: ys)=if cH x y<0 then x :: dQ xs (y :: ys) else if cH x y=0 then x :: dQ xs ys else y :: dQ (x :: xs) ys:=by rw [dQ]
theorem fB:∀ (a b:List GV)(z:GV),z ∈ dQ a b ↔ z ∈ a∨z ∈ b
 | [],b,z=>by simp [eU]
 | x :: xs,[],z=>by simp [mW]
 | x :: xs,y :: ys,z=>by
  rw [kW]
  split
  ·rw [List.mem_cons,fB xs (y :: ys) z];simp only [List.mem_cons]
   constructor
   ·rintro (h | h | (h | h))
    ·exact .inl (.inl h)
    ·exact .inl (.inr h)
    ·exact .inr (.inl h)
    ·exact .inr (.inr h)
   ·rintro ((h | h) | (h | h))
    ·exact .inl h
    ·exact .inr (.inl h)
    ·exact .inr (.inr (.inl h))
    ·exact .inr (.inr (.inr h))
  ·split
   ·next h0 =>
    have e:=fK x y h0;subst e;rw [List.mem_cons,fB xs ys z];simp only [List.mem_cons]
    constructor
    ·rintro (h | h | h)
     ·exact .inl (.inl h)
     ·exact .inl (.inr h)
     ·exact .inr (.inr h)
    ·rintro ((h | h) | (h | h))
     ·exact .inl h
     ·exact .inr (.inl h)
     ·exact .inl h
     ·exact .inr (.inr h)
   ·rw [List.mem_cons,fB (x :: xs) ys z];simp only [List.mem_cons]
    constructor
    ·rintro (h | (h | h) | h)
     ·exact .inr (.inl h)
     ·exact .inl (.inl h)
     ·exact .inl (.inr h)
     ·exact .inr (.inr h)
    ·rintro ((h | h) | (h | h))
     ·exact .inr (.inl (.inl h))
     ·exact .inr (.inl (.inr h))
     ·exact .inl h
     ·exact .inr (.inr h)
termination_by a b=>a.length+b.length
decreasing_by all_goals (simp only [List.length_cons];omega)
theorem iF:∀ (a b:List GV),Inc a->Inc b->Inc (dQ a b)
 | [],b,_,hb=>by rw [eU];exact hb
 | x :: xs,[],ha,_=>by rw [mW];exact ha
 | x :: xs,y :: ys,ha,hb=>by
  have ha':=List.pairwise_cons.1 ha;have hb':=List.pairwise_cons.1 hb;rw [kW]
  split
  ·next h =>
   refine List.pairwise_cons.2 ⟨fun z hz=>?_,iF xs (y :: ys) ha'.2 hb⟩;rcases (fB xs (y :: ys) z).1 hz with hz | hz
   ·exact ha'.1 z hz
   ·rcases List.mem_cons.1 hz with rfl | hz
    ·exact h
    ·exact ltV.tr h (hb'.1 z hz)
  ·split
   ·next h0 =>
    have e:=fK x y h0;subst e;refine List.pairwise_cons.2 ⟨fun z hz=>?_,iF xs ys ha'.2 hb'.2⟩;rcases (fB xs ys z).1 hz with hz | hz
    ·exact ha'.1 z hz
    ·exact hb'.1 z hz
   ·next h h0 =>
    have hyx:ltV y x:=by unfold ltV;have:=mC x y;omega
    refine List.pairwise_cons.2 ⟨fun z hz=>?_,iF (x :: xs) ys ha hb'.2⟩;rcases (fB (x :: xs) ys z).1 hz with hz | hz
    ·rcases List.mem_cons.1 hz with rfl | hz
     ·exact hyx
     ·exact hyx.tr (ha'.1 z hz)
    ·exact hb'.1 z hz
termination_by a b=>a.length+b.length
decreasing_by all_goals (simp only [List.length_cons];omega)
theorem yT {a b:List GV}(ha:Inc a)(hb:Inc b):dQ a b=eN (a ++ b) :=
 Inc.ext (iF a b ha hb) (jL _) (fun z=>by rw [fB,eQ,List.mem_append])
def aTp (P:Nat->Prop)(l:List GV)(w:World)(e:Ending)(w':World):Prop :=
 ∃ A c,e=.returned (.slice A l.length c)∧bV w' (New P w.heap.size) (.slice A l.length c) l∧Ext w w'
theorem bV.tail {w:World}{P:Nat->Prop}{b off c:Nat}{x:GV}{l:List GV}(h:bV w P (.slice (some ⟨b,off,none⟩) (l.length+1) c) (x :: l)):bV w P (.slice (some ⟨b,off+4,none⟩) l.length (c - 1)) l:=by
 obtain ⟨A,c',css,e,h1,h2,h3,h4⟩:=h;injection e with e1 e2 e3;subst e1 e3;have h5:=h3.drop (k:=1) Y;have h6:=h4.drop 1;simp only [List.drop_succ_cons,List.drop_zero,Nat.one_mul,List.length_cons,Nat.add_sub_cancel] at h5 h6;simp only [List.length_cons] at h1 h2;exact ⟨_,c - 1,_,rfl,U,U,h5,h6⟩
theorem bV.nil_any (w:World)(P:Nat->Prop)(A:Option Addr)(c:Nat)(hc:c<=9223372036854775807):bV w P (.slice A 0 c) []:=⟨A,c,[],rfl,Y,⟨Y,hc⟩,⟨rfl,fun h=>absurd h Y⟩,rfl⟩
def aIf (a b:List GV)(P:Nat->Prop)(w:World)(B:Nat)(v0 v1 v5:Value)(wr:World):Prop :=
 ∃ (a' b' out:List GV) (xs:List Value),bV wr P v0 a'∧bV wr P v1 b'∧wr.ownsRow B 85 4 v5 out.length xs∧RVs wr P out xs∧Ext w wr∧out.length+a'.length+b'.length<=a.length+b.length∧dQ a b=out ++ dQ a' b'
theorem aB6 (a b:List GV)(P:Nat->Prop)(va vb:Value)(w:World)(ha:bV w P va a)(hb:bV w P vb b)(hla:a.length<=100000)(hlb:b.length<=100000)(hP:∀ b,P b->b<w.heap.size) :
  Calls Tryz.prog 217 #[va,vb] w (aTp P (dQ a b) w):=by
 have HA:=aYl ha;have HB:=aYl hb;have HPP:=aYl hP;obtain ⟨Aa,ca,ea,ha1,ha2⟩:=ha.form;obtain ⟨Ab,cb,eb,hb1,hb2⟩:=hb.form;subst ea eb;clear ha hb hP;obtain ⟨i0,hi,hz0,hz1,hz2⟩:=info_parts Tryz.info85;have HI:=aYl hi
 by_cases h0:a.length=0
 ·have hnil:a=[]:=List.length_eq_zero_iff.1 h0
  have HQ:=aYl (show dQ a b=b by rw [hnil,eU]);have t0:((a.length:Int) == 0)=true:=aYn U;have t1:(a.length == 0)=true:=aYn h0;have hle:¬ 0<a.length:=by omega
  clear hi hnil h0;go_enter Tryz.func217,Tryz.ntmps217;go_wp2_with fail;go_ret;rw [HQ.out];exact ⟨Ab,cb,rfl,HB.out.imp (fun _ _ h=>.inl h),Ext.refl _⟩
 have t0:((a.length:Int) == 0)=false:=aYm U;have t1:(a.length == 0)=false:=aYm h0
 have hmk:∀ W:World,(Instr.makeSlice 83 (.int .i64 0) (.int .i64 ((a.length:Int)+(b.length:Int)))).run Tryz.prog W=.ok (.slice (some ⟨W.heap.size,0,none⟩) 0 (a.length+b.length)) (W.alloc (.cells (madeCells (Value.agg #[.int .i64 0,.int .i64 0,.string ByteArray.empty,.slice none 0 0]).cells ((a.length+b.length)*4)) 85)):=by
  intro W;have h:=run_make (P:=Tryz.prog) W 83 85 i0 _ Tryz.underlying83 hi hz0 .i64 .i64 0 ((a.length:Int)+(b.length:Int)) (Int.le_refl _) U cu U;rw [hz1] at h;rw [h];have e:((a.length:Int)+(b.length:Int)).toNat=a.length+b.length:=by omega
  rw [e]
  rfl
 clear hi h0;go_enter Tryz.func217,Tryz.ntmps217;go_wp2_with fail;have HOW:=aYl (World.ownsRow_made (base:=w.heap.size) (e:=85) (size:=4) w (madeCells #[.int .i64 0,.int .i64 0,.string ByteArray.empty,.slice none 0 0] ((a.length+b.length)*4)) (a.length+b.length) (Nat.le_refl _) cj (size_madeCells _ _));have HE:=aYl (show Ext w (w.alloc (.cells (madeCells #[.int .i64 0,.int .i64 0,.string ByteArray.empty,.slice none 0 0] ((a.length+b.length)*4)) 85)) from (Ext.refl w).alloc' _);generalize hW:w.alloc (.cells (madeCells #[.int .i64 0,.int .i64 0,.string ByteArray.empty,.slice none 0 0] ((a.length+b.length)*4)) 85)=W at *;clear hW hmk;go_loopw [0,1,5] (fun v0 v1 v5 wr=>aIf a b P w w.heap.size v0 v1 v5 wr) (fun v0 v1 _ _=>lenOf v0+lenOf v1)
 case atStart=>exact ⟨a,b,[],[],HA.out.ext HE.out,HB.out.ext HE.out,HOW.out,rfl,HE.out,Y,rfl⟩
 case round =>
  obtain ⟨a',b',out,xs,hva,hvb,hown,hrv,hx,hle,hmv⟩:=hrel;have HVA:=aYl hva;have HVB:=aYl hvb;have HOWN:=aYl hown;have HRV:=aYl hrv;have HX:=aYl hx;have HMV:=aYl hmv;obtain ⟨A0,c0,e0,h01,h02⟩:=hva.form;obtain ⟨A1,c1,e1,h11,h12⟩:=hvb.form;obtain ⟨A5,c5,e5,-,-,-⟩:=Sl.of_own hown;subst e0 e1 e5;have hsz:=hx.size;clear hva hvb hown hrv hx hmv;rcases a' with _ | ⟨x,xs'⟩
  ·skip
   have HM2:=aYl (HMV.out.trans (by rw [eU]));obtain ⟨s0,hs0,hr0⟩:=HVA.out.slice_parts;obtain ⟨s1,hs1,hr1⟩:=HVB.out.slice_parts;have HS0:=aYl hs0;have HR0:=aYl hr0;have HS1:=aYl hs1;have HR1:=aYl hr1;clear hs0 hr0 hs1 hr1;simp only [List.length_nil] at hle h01 h02 h11 h12
   go_wp2_with (first
    | (at_builtin;refine aI _ rfl (.tmp 52) (.tmp 53) 83 al w.heap.size 85 i0 _ 4 56 Tryz.underlying83 HI.out hz0 hz1 hz2 rfl U (.slice A5 out.length c5) _ _ rfl HOWN.out P A0 [].length c0 s0 rfl HS0.out HR0.out.oneCell ab ab U ?_;intro v6 w6 ho6 hbl6)
    | (at_builtin;refine aI _ rfl (.tmp 54) (.tmp 55) 83 al w.heap.size 85 i0 _ 4 56 Tryz.underlying83 HI.out hz0 hz1 hz2 rfl U v6 _ _ rfl ho6 P A1 b'.length c1 s1 rfl (HS1.out.carry U (aB.of_below hbl6 HPP.out) (fun _ _ h=>h)) HR1.out.oneCell ab ab (by have:=hbl6.size;omega) ?_;intro v7 w7 ho7 hbl7))
   have hbw:Below w.heap.size wr w7:=hbl6.trans hbl7;have hk:aB P wr w7:=aB.of_below hbw HPP.out;have hrv7:=RVs.append (RVs.append (RVs.carry (Q:=P) hk (fun _ _ h=>h) HRV.out) (RVs.carry (Q:=P) hk (fun _ _ h=>h) HR0.out)) (RVs.carry (Q:=P) hk (fun _ _ h=>h) HR1.out);have hv7:bV w7 (New P w.heap.size) v7 (out ++ [] ++ b'):=bV.of_own (ho7.len_cast Y rfl) (RVs.carry (fun _ _ _=>rfl) (fun _ _ h=>.inl h) hrv7) ab (fun b hb=>.inr (ho7.block_ge hb));obtain ⟨A7,c7,e7,-,-⟩:=hv7.form;subst e7;have HV7:=aYl hv7;have HX7:=aYl (HX.out.trans hbw);clear hv7 hrv7 hk hbw ho6 ho7 hbl6 hbl7;go_ret;have e:dQ a b=out ++ [] ++ b':=HM2.out.trans Y;rw [e];exact ⟨A7,c7,rfl,HV7.out,HX7.out⟩
  rcases b' with _ | ⟨y,ys'⟩
  ·skip
   have HM2:=aYl (HMV.out.trans (by rw [mW]));obtain ⟨s0,hs0,hr0⟩:=HVA.out.slice_parts;obtain ⟨s1,hs1,hr1⟩:=HVB.out.slice_parts;have HS0:=aYl hs0;have HR0:=aYl hr0;have HS1:=aYl hs1;have HR1:=aYl hr1;clear hs0 hr0 hs1 hr1;simp only [List.length_nil,List.length_cons] at hle h01 h02 h11 h12
   go_wp2_with (first
    | (at_builtin;refine aI _ rfl (.tmp 52) (.tmp 53) 83 al w.heap.size 85 i0 _ 4 56 Tryz.underlying83 HI.out hz0 hz1 hz2 rfl U (.slice A5 out.length c5) _ _ rfl HOWN.out P A0 (x :: xs').length c0 s0 rfl HS0.out HR0.out.oneCell ab ab U ?_;intro v6 w6 ho6 hbl6)
    | (at_builtin;refine aI _ rfl (.tmp 54) (.tmp 55) 83 al w.heap.size 85 i0 _ 4 56 Tryz.underlying83 HI.out hz0 hz1 hz2 rfl U v6 _ _ rfl ho6 P A1 [].length c1 s1 rfl (HS1.out.carry U (aB.of_below hbl6 HPP.out) (fun _ _ h=>h)) HR1.out.oneCell ab ab (by have:=hbl6.size;omega) ?_;intro v7 w7 ho7 hbl7))
   have hbw:Below w.heap.size wr w7:=hbl6.trans hbl7;have hk:aB P wr w7:=aB.of_below hbw HPP.out;have hrv7:=RVs.append (RVs.append (RVs.carry (Q:=P) hk (fun _ _ h=>h) HRV.out) (RVs.carry (Q:=P) hk (fun _ _ h=>h) HR0.out)) (RVs.carry (Q:=P) hk (fun _ _ h=>h) HR1.out);have hv7:bV w7 (New P w.heap.size) v7 (out ++ (x :: xs') ++ []):=bV.of_own (ho7.len_cast Y rfl) (RVs.carry (fun _ _ _=>rfl) (fun _ _ h=>.inl h) hrv7) ab (fun b hb=>.inr (ho7.block_ge hb));obtain ⟨A7,c7,e7,-,-⟩:=hv7.form;subst e7;have HV7:=aYl hv7;have HX7:=aYl (HX.out.trans hbw);clear hv7 hrv7 hk hbw ho6 ho7 hbl6 hbl7;go_ret;have e:dQ a b=out ++ (x :: xs') ++ []:=HM2.out.trans Y;rw [e];exact ⟨A7,c7,rfl,HV7.out,HX7.out⟩
  simp only [List.length_cons] at hle h01 h02 h11 h12;obtain ⟨b0,o0,A2,d2,rfl,-,hvx,g00,g01,g02,g03⟩:=HVA.out.get (i:=0) Y;obtain ⟨b1,o1,A3,d3,rfl,-,hvy,g10,g11,g12,g13⟩:=HVB.out.get (i:=0) Y;simp only [Nat.zero_mul,Nat.add_zero,List.getD_cons_zero] at g00 g01 g02 g03 g10 g11 g12 g13 hvx hvy;have HVX:=aYl hvx;have HVY:=aYl hvy;have HTA:=aYl (bV.tail HVA.out);have HTB:=aYl (bV.tail HVB.out);have HMC:=aYl (HMV.out.trans (congrArg (out ++ ·) (kW x y xs' ys')));clear hvx hvy;have hl0:(0:Int)<(xs'.length:Int)+1:=by omega
  have hl1:(0:Int)<(ys'.length:Int)+1:=U
  go_wp2_with fail;go_still_tail 6,aa;go_wp2_with fail;refine (bL x y A2 A3 d2 d3 P P _ (HVX.out.ext (Ext.refl _).drew') (HVY.out.ext (Ext.refl _).drew')).mono ?_;rintro e w1 ⟨rfl,hx1⟩;have HX1:=aYl ((Ext.refl wr).drew'.trans' hx1);have hs1:=hx1.size;have k00:=aA HX1.out g00;have k01:=aA HX1.out g01;have k02:=aA HX1.out g02;have k03:=aA HX1.out g03;have k10:=aA HX1.out g10;have k11:=aA HX1.out g11;have k12:=aA HX1.out g12;have k13:=aA HX1.out g13;clear hx1 g00 g01 g02 g03 g10 g11 g12 g13;generalize cH x y=cv at *;have HO1:=aYl (HOWN.out.ext_ HX1.out);have hsw:w.heap.size<=w1.heap.size:=by have:=HX1.out.size;omega
  by_cases hneg:cv<0
  ·have t1:decide (cv<=0)=true:=aYo U
   have t2:decide (0<=cv)=false:=aYp U;have HM2:=aYl (HMC.out.trans (by rw [if_pos hneg]))
   by_cases hc0:c0=1
   ·skip
    subst hc0;obtain rfl:xs'=[]:=List.length_eq_zero_iff.1 U;go_wp2_with (at_builtin;go_must (refine aI _ rfl (.tmp 34) (.tmp 38) 83 al w.heap.size 85 i0 _ 4 56 Tryz.underlying83 HI.out hz0 hz1 hz2 rfl U (.slice A5 out.length c5) _ _ rfl (HO1.out.alloc _) (fun _=>True) (some ⟨w1.heap.size,0,none⟩) 1 1 [.int .i64 x.kind,.int .i64 x.n,.string x.s,.slice A2 x.kids.length d2] rfl (Sl.new w1 _ _ _ _ rfl) af U U ab ?_);intro v6 w6 ho6 hbl6);go_roundw
    case rel =>
     have hbw:Below w.heap.size wr w6:=((HX1.out.mono hsz).alloc hsw _).trans hbl6;have hk:aB P wr w6:=aB.of_below hbw HPP.out;refine ⟨[],(y :: ys'),out ++ [x],_,bV.nil_any _ _ _ _ U,HVB.out.carry hk (fun _ _ h=>h),ho6.len_cast Y rfl,RVs.append (RVs.carry hk (fun _ _ h=>h) HRV.out) (RVs.one ((HVX.out.carry hk (fun _ _ h=>h)).rv)),HX.out.trans hbw,ab,dr⟩
    case measure=>simp [lenOf];try omega
   ·skip
    go_wp2_with (at_builtin;go_must (refine aI _ rfl (.tmp 34) (.tmp 38) 83 al w.heap.size 85 i0 _ 4 56 Tryz.underlying83 HI.out hz0 hz1 hz2 rfl U (.slice A5 out.length c5) _ _ rfl (HO1.out.alloc _) (fun _=>True) (some ⟨w1.heap.size,0,none⟩) 1 1 [.int .i64 x.kind,.int .i64 x.n,.string x.s,.slice A2 x.kids.length d2] rfl (Sl.new w1 _ _ _ _ rfl) af U U ab ?_);intro v6 w6 ho6 hbl6);go_roundw
    case rel =>
     have hbw:Below w.heap.size wr w6:=((HX1.out.mono hsz).alloc hsw _).trans hbl6;have hk:aB P wr w6:=aB.of_below hbw HPP.out;refine ⟨xs',(y :: ys'),out ++ [x],_,HTA.out.carry hk (fun _ _ h=>h),HVB.out.carry hk (fun _ _ h=>h),ho6.len_cast Y rfl,RVs.append (RVs.carry hk (fun _ _ h=>h) HRV.out) (RVs.one ((HVX.out.carry hk (fun _ _ h=>h)).rv)),HX.out.trans hbw,ab,dr⟩
    case measure=>simp [lenOf];try omega
  by_cases hzero:cv=0
  ·have t1:decide (cv<=0)=true:=aYo U
   have t2:decide (0<=cv)=true:=aYo U;have HM2:=aYl (HMC.out.trans (by rw [if_neg hneg,if_pos hzero]));clear hzero
   by_cases hc0:c0=1
   ·by_cases hc1:c1=1
    ·skip
     subst hc0;obtain rfl:xs'=[]:=List.length_eq_zero_iff.1 U;subst hc1;obtain rfl:ys'=[]:=List.length_eq_zero_iff.1 U;go_wp2_with (at_builtin;go_must (refine aI _ rfl (.tmp 34) (.tmp 38) 83 al w.heap.size 85 i0 _ 4 56 Tryz.underlying83 HI.out hz0 hz1 hz2 rfl U (.slice A5 out.length c5) _ _ rfl (HO1.out.alloc _) (fun _=>True) (some ⟨w1.heap.size,0,none⟩) 1 1 [.int .i64 x.kind,.int .i64 x.n,.string x.s,.slice A2 x.kids.length d2] rfl (Sl.new w1 _ _ _ _ rfl) af U U ab ?_);intro v6 w6 ho6 hbl6);go_roundw
     case rel =>
      have hbw:Below w.heap.size wr w6:=((HX1.out.mono hsz).alloc hsw _).trans hbl6;have hk:aB P wr w6:=aB.of_below hbw HPP.out;refine ⟨[],[],out ++ [x],_,bV.nil_any _ _ _ _ U,bV.nil_any _ _ _ _ U,ho6.len_cast Y rfl,RVs.append (RVs.carry hk (fun _ _ h=>h) HRV.out) (RVs.one ((HVX.out.carry hk (fun _ _ h=>h)).rv)),HX.out.trans hbw,ab,dr⟩
     case measure=>simp [lenOf];try omega
    ·skip
     subst hc0;obtain rfl:xs'=[]:=List.length_eq_zero_iff.1 U;go_wp2_with (at_builtin;go_must (refine aI _ rfl (.tmp 34) (.tmp 38) 83 al w.heap.size 85 i0 _ 4 56 Tryz.underlying83 HI.out hz0 hz1 hz2 rfl U (.slice A5 out.length c5) _ _ rfl (HO1.out.alloc _) (fun _=>True) (some ⟨w1.heap.size,0,none⟩) 1 1 [.int .i64 x.kind,.int .i64 x.n,.string x.s,.slice A2 x.kids.length d2] rfl (Sl.new w1 _ _ _ _ rfl) af U U ab ?_);intro v6 w6 ho6 hbl6);go_roundw
     case rel =>
      have hbw:Below w.heap.size wr w6:=((HX1.out.mono hsz).alloc hsw _).trans hbl6;have hk:aB P wr w6:=aB.of_below hbw HPP.out;refine ⟨[],ys',out ++ [x],_,bV.nil_any _ _ _ _ U,HTB.out.carry hk (fun _ _ h=>h),ho6.len_cast Y rfl,RVs.append (RVs.carry hk (fun _ _ h=>h) HRV.out) (RVs.one ((HVX.out.carry hk (fun _ _ h=>h)).rv)),HX.out.trans hbw,ab,dr⟩
     case measure=>simp [lenOf];try omega
   ·by_cases hc1:c1=1
    ·skip
     subst hc1;obtain rfl:ys'=[]:=List.length_eq_zero_iff.1 U;go_wp2_with (at_builtin;go_must (refine aI _ rfl (.tmp 34) (.tmp 38) 83 al w.heap.size 85 i0 _ 4 56 Tryz.underlying83 HI.out hz0 hz1 hz2 rfl U (.slice A5 out.length c5) _ _ rfl (HO1.out.alloc _) (fun _=>True) (some ⟨w1.heap.size,0,none⟩) 1 1 [.int .i64 x.kind,.int .i64 x.n,.string x.s,.slice A2 x.kids.length d2] rfl (Sl.new w1 _ _ _ _ rfl) af U U ab ?_);intro v6 w6 ho6 hbl6);go_roundw
     case rel =>
      have hbw:Below w.heap.size wr w6:=((HX1.out.mono hsz).alloc hsw _).trans hbl6;have hk:aB P wr w6:=aB.of_below hbw HPP.out;refine ⟨xs',[],out ++ [x],_,HTA.out.carry hk (fun _ _ h=>h),bV.nil_any _ _ _ _ U,ho6.len_cast Y rfl,RVs.append (RVs.carry hk (fun _ _ h=>h) HRV.out) (RVs.one ((HVX.out.carry hk (fun _ _ h=>h)).rv)),HX.out.trans hbw,ab,dr⟩
     case measure=>simp [lenOf];try omega
    ·skip
     go_wp2_with (at_builtin;go_must (refine aI _ rfl (.tmp 34) (.tmp 38) 83 al w.heap.size 85 i0 _ 4 56 Tryz.underlying83 HI.out hz0 hz1 hz2 rfl U (.slice A5 out.length c5) _ _ rfl (HO1.out.alloc _) (fun _=>True) (some ⟨w1.heap.size,0,none⟩) 1 1 [.int .i64 x.kind,.int .i64 x.n,.string x.s,.slice A2 x.kids.length d2] rfl (Sl.new w1 _ _ _ _ rfl) af U U ab ?_);intro v6 w6 ho6 hbl6);go_roundw
     case rel =>
      have hbw:Below w.heap.size wr w6:=((HX1.out.mono hsz).alloc hsw _).trans hbl6;have hk:aB P wr w6:=aB.of_below hbw HPP.out;refine ⟨xs',ys',out ++ [x],_,HTA.out.carry hk (fun _ _ h=>h),HTB.out.carry hk (fun _ _ h=>h),ho6.len_cast Y rfl,RVs.append (RVs.carry hk (fun _ _ h=>h) HRV.out) (RVs.one ((HVX.out.carry hk (fun _ _ h=>h)).rv)),HX.out.trans hbw,ab,dr⟩
     case measure=>simp [lenOf];try omega
  have t1:decide (cv<=0)=false:=aYp U;have t2:decide (0<=cv)=true:=aYo U;have HM2:=aYl (HMC.out.trans (by rw [if_neg hneg,if_neg hzero]));clear hzero hneg
  by_cases hc1:c1=1
  ·skip
   subst hc1;obtain rfl:ys'=[]:=List.length_eq_zero_iff.1 U;go_wp2_with (at_builtin;go_must (refine aI _ rfl (.tmp 42) (.tmp 46) 83 al w.heap.size 85 i0 _ 4 56 Tryz.underlying83 HI.out hz0 hz1 hz2 rfl U (.slice A5 out.length c5) _ _ rfl (HO1.out.alloc _) (fun _=>True) (some ⟨w1.heap.size,0,none⟩) 1 1 [.int .i64 y.kind,.int .i64 y.n,.string y.s,.slice A3 y.kids.length d3] rfl (Sl.new w1 _ _ _ _ rfl) af U U ab ?_);intro v6 w6 ho6 hbl6);go_roundw
   case rel =>
    have hbw:Below w.heap.size wr w6:=((HX1.out.mono hsz).alloc hsw _).trans hbl6;have hk:aB P wr w6:=aB.of_below hbw HPP.out;refine ⟨(x :: xs'),[],out ++ [y],_,HVA.out.carry hk (fun _ _ h=>h),bV.nil_any _ _ _ _ U,ho6.len_cast Y rfl,RVs.append (RVs.carry hk (fun _ _ h=>h) HRV.out) (RVs.one ((HVY.out.carry hk (fun _ _ h=>h)).rv)),HX.out.trans hbw,ab,dr⟩
   case measure=>simp [lenOf];try omega
  ·skip
   go_wp2_with (at_builtin;go_must (refine aI _ rfl (.tmp 42) (.tmp 46) 83 al w.heap.size 85 i0 _ 4 56 Tryz.underlying83 HI.out hz0 hz1 hz2 rfl U (.slice A5 out.length c5) _ _ rfl (HO1.out.alloc _) (fun _=>True) (some ⟨w1.heap.size,0,none⟩) 1 1 [.int .i64 y.kind,.int .i64 y.n,.string y.s,.slice A3 y.kids.length d3] rfl (Sl.new w1 _ _ _ _ rfl) af U U ab ?_);intro v6 w6 ho6 hbl6);go_roundw
   case rel =>
    have hbw:Below w.heap.size wr w6:=((HX1.out.mono hsz).alloc hsw _).trans hbl6;have hk:aB P wr w6:=aB.of_below hbw HPP.out;refine ⟨(x :: xs'),ys',out ++ [y],_,HVA.out.carry hk (fun _ _ h=>h),HTB.out.carry hk (fun _ _ h=>h),ho6.len_cast Y rfl,RVs.append (RVs.carry hk (fun _ _ h=>h) HRV.out) (RVs.one ((HVY.out.carry hk (fun _ _ h=>h)).rv)),HX.out.trans hbw,ab,dr⟩
   case measure=>simp [lenOf];try omega
structure SA where
 s:Nat
 k:Nat
 l:Nat
 m:Nat
 X:Nat->Prop
def SA.M (g:SA):Nat->Prop:=fun b=>b=g.k∨b=g.l∨b=g.m
def SA.Q (g:SA):Nat->Prop:=fun b=>¬ g.M b∧¬ g.X b
structure qJ (t:List GN)(vn:Value)(g:SA)(kn:List Bool)(ls:List Value)(ms:List Bool)(w:World):Prop where
 hk:g.s ≠ g.k
 hl:g.s ≠ g.l
 hm:g.s ≠ g.m
 kl:g.k ≠ g.l
 km:g.k ≠ g.m
 lm:g.l ≠ g.m
 klen:kn.length=t.length
 llen:ls.length=t.length
 mlen:ms.length=t.length
 box:Blk w g.s 198 #[vn,.slice (some ⟨g.k,0,none⟩) t.length t.length,.slice (some ⟨g.l,0,none⟩) t.length t.length,.slice (some ⟨g.m,0,none⟩) t.length t.length]
 known:Blk w g.k 4 (kn.map Value.bool).toArray
 lists:Blk w g.l 83 ls.toArray
 many:Blk w g.m 4 (ms.map Value.bool).toArray
 xlt:∀ b,g.X b->b<w.heap.size
 nodes:Nds w g.Q vn t
 sl:∀ v ∈ ls,∃ A n c,v=.slice A n c
 fine:∀ j,j<t.length->kn.getD j false=true->bV w g.Q (ls.getD j default) ((aD t).getD j default).vals∧ms.getD j false=((aD t).getD j default).many
def bQ (t:List GN)(vn:Value)(g:SA)(w:World):Prop:=∃ kn ls ms,qJ t vn g kn ls ms w
def iK (t:List GN)(vn:Value)(g:SA)(r:GL)(w:World)(e:Ending)(w':World):Prop :=
 ∃ A c,e=.returned (.tuple #[.slice A r.vals.length c,.bool (!r.many)])∧bV w' g.Q (.slice A r.vals.length c) r.vals∧Fr g.M w w'∧bQ t vn g w'
def uT (t:List GN)(vn:Value)(f:Nat):Prop:=∀ (g:SA)(i:Nat)(w:World),i<f->bD t (i+1)->bQ t vn g w->Calls Tryz.prog 181 #[.pointer (some ⟨g.s,0,none⟩),↑i] w (iK t vn g ((aD t).getD i default) w)
def aBk (t:List GN)(vn:Value)(f:Nat):Prop:=∀ (g:SA)(i:Nat)(w:World),i<f->bD t (i+1)->bQ t vn g w->Calls Tryz.prog 137 #[.pointer (some ⟨g.s,0,none⟩),↑i] w (iK t vn g ((aD t).getD i default) w)
section
variable {t:List GN}{vn:Value}{g:SA}{kn:List Bool}{ls:List Value}{ms:List Bool}{w w':World}
theorem qJ.ext (h:qJ t vn g kn ls ms w)(hx:Ext w w'):qJ t vn g kn ls ms w' :=
 ⟨h.hk,h.hl,h.hm,h.kl,h.km,h.lm,h.klen,h.llen,h.mlen,h.box.ext hx,h.known.ext hx,h.lists.ext hx,h.many.ext hx,fun b hb=>Nat.lt_of_lt_of_le (h.xlt b hb) hx.size,h.nodes.ext hx,h.sl,fun j hj hk=>⟨(h.fine j hj hk).1.ext hx,(h.fine j hj hk).2⟩⟩
theorem bQ.ext (h:bQ t vn g w)(hx:Ext w w'):bQ t vn g w':=by
 obtain ⟨kn,ls,ms,h⟩:=h;exact ⟨kn,ls,ms,h.ext hx⟩
theorem bQ.more (h:bQ t vn g w){g':Nat}(hg:w.heap.size<=g'){w':World}(hx:Ext w w')(hl:g'<w'.heap.size):bQ t vn ⟨g.s,g.k,g.l,g.m,fun b=>g.X b∨b=g'⟩ w':=by
 obtain ⟨kn,ls,ms,h0⟩:=h;have h:=h0.ext hx;have hQ:∀ b,b<w.heap.size->g.Q b->(SA.mk g.s g.k g.l g.m (fun b=>g.X b∨b=g')).Q b:=fun b hb h=>⟨h.1,fun hx=>hx.elim h.2 (fun e=>by omega)⟩
 exact ⟨kn,ls,ms,h.hk,h.hl,h.hm,h.kl,h.km,h.lm,h.klen,h.llen,h.mlen,h.box,h.known,h.lists,h.many,fun b hb=>hb.elim (h.xlt b) (fun e=>by omega),h0.nodes.carry (aB.of_ext hx) hQ,h.sl,fun j hj hk=>⟨(h0.fine j hj hk).1.carry (aB.of_ext hx) hQ,(h.fine j hj hk).2⟩⟩
theorem bQ.less {X:Nat->Prop}(h:bQ t vn ⟨g.s,g.k,g.l,g.m,X⟩ w)(hX:∀ b,g.X b->X b):bQ t vn g w:=by
 obtain ⟨kn,ls,ms,h⟩:=h;have hQ:∀ b,(SA.mk g.s g.k g.l g.m X).Q b->g.Q b:=fun b h=>⟨h.1,fun hx=>h.2 (hX b hx)⟩
 exact ⟨kn,ls,ms,h.hk,h.hl,h.hm,h.kl,h.km,h.lm,h.klen,h.llen,h.mlen,h.box,h.known,h.lists,h.many,fun b hb=>h.xlt b (hX b hb),h.nodes.keep (fun _ _ _=>rfl) hQ,h.sl,fun j hj hk=>⟨(h.fine j hj hk).1.keep (fun _ _ _=>rfl) hQ,(h.fine j hj hk).2⟩⟩
theorem bQ.setX (h:bQ t vn g w){p:Addr}(hp:g.X p.block)(hs:p.block ≠ g.s)(hM:¬ g.M p.block)(u:Value):bQ t vn g (w.setCell p u):=by
 obtain ⟨kn,ls,ms,h⟩:=h;have hk:aB g.Q w (w.setCell p u):=aB.set (fun _ _ _=>rfl) u (fun h=>h.2 hp)
 exact ⟨kn,ls,ms,h.hk,h.hl,h.hm,h.kl,h.km,h.lm,h.klen,h.llen,h.mlen,h.box.far hs.symm u,h.known.far (fun e=>hM (.inl e.symm)) u,h.lists.far (fun e=>hM (.inr (.inl e.symm))) u,h.many.far (fun e=>hM (.inr (.inr e.symm))) u,fun b hb=>by simp only [World.setCell,Array.size_modify];exact h.xlt b hb,
  h.nodes.carry hk (fun _ _ h=>h),h.sl,fun j hj hkj=>⟨(h.fine j hj hkj).1.carry hk (fun _ _ h=>h),(h.fine j hj hkj).2⟩⟩
theorem qJ.learn (h:qJ t vn g kn ls ms w){i:Nat}(hi:i<t.length){A:Option Addr}{c:Nat}(hv:bV w g.Q (.slice A ((aD t).getD i default).vals.length c) ((aD t).getD i default).vals) :
  qJ t vn g (kn.set i true) (ls.set i (.slice A ((aD t).getD i default).vals.length c)) (ms.set i ((aD t).getD i default).many)
   (((w.setCell ⟨g.k,i,none⟩ (.bool true)).setCell ⟨g.l,i,none⟩ (.slice A ((aD t).getD i default).vals.length c)).setCell ⟨g.m,i,none⟩ (.bool ((aD t).getD i default).many)):=by
 have hk0:aB g.Q w w:=fun _ _ _=>rfl
 have hkp:aB g.Q w (((w.setCell ⟨g.k,i,none⟩ (.bool true)).setCell ⟨g.l,i,none⟩ (.slice A ((aD t).getD i default).vals.length c)).setCell ⟨g.m,i,none⟩ (.bool ((aD t).getD i default).many)) :=
  ((hk0.set (p:=⟨g.k,i,none⟩) _ (fun h=>h.1 (.inl rfl))).set (p:=⟨g.l,i,none⟩) _ (fun h=>h.1 (.inr (.inl rfl)))).set (p:=⟨g.m,i,none⟩) _ (fun h=>h.1 (.inr (.inr rfl)))
 refine ⟨h.hk,h.hl,h.hm,h.kl,h.km,h.lm,by simp [h.klen],by simp [h.llen],by simp [h.mlen],((h.box.far (p:=⟨g.k,i,none⟩) h.hk _).far (p:=⟨g.l,i,none⟩) h.hl _).far (p:=⟨g.m,i,none⟩) h.hm _,?_,?_,?_,fun b hb=>by simp only [World.setCell,Array.size_modify];exact h.xlt b hb,h.nodes.carry hkp (fun _ _ h=>h),?_,?_⟩
 ·have h1:=((h.known.set_ i (.bool true)).far (p:=⟨g.l,i,none⟩) h.kl (.slice A ((aD t).getD i default).vals.length c)).far (p:=⟨g.m,i,none⟩) h.km (.bool ((aD t).getD i default).many)
  simp only [List.setIfInBounds_toArray] at h1;rw [List.map_set];exact h1
 ·have h1:=((h.lists.far (p:=⟨g.k,i,none⟩) h.kl.symm (.bool true)).set_ i (.slice A ((aD t).getD i default).vals.length c)).far (p:=⟨g.m,i,none⟩) h.lm (.bool ((aD t).getD i default).many)
  simp only [List.setIfInBounds_toArray] at h1;exact h1
 ·have h1:=((h.many.far (p:=⟨g.k,i,none⟩) h.km.symm (.bool true)).far (p:=⟨g.l,i,none⟩) h.lm.symm (.slice A ((aD t).getD i default).vals.length c)).set_ i (.bool ((aD t).getD i default).many)
  simp only [List.setIfInBounds_toArray] at h1;rw [List.map_set];exact h1
 ·intro v hv'
  rcases List.mem_or_eq_of_mem_set hv' with hv' | rfl
  ·exact h.sl v hv'
  ·exact ⟨_,_,_,rfl⟩
 ·intro j hj hkj
  by_cases e:i=j
  ·subst e
   refine ⟨?_,?_⟩
   ·have e2:(ls.set i (.slice A ((aD t).getD i default).vals.length c)).getD i default=.slice A ((aD t).getD i default).vals.length c:=by simp [List.getD,h.llen,hi]
    rw [e2];exact hv.carry hkp (fun _ _ h=>h)
   ·simp [List.getD,h.mlen,hi]
  ·have e1:(kn.set i true).getD j false=kn.getD j false:=by simp [List.getD,e]
   have e2:(ls.set i (.slice A ((aD t).getD i default).vals.length c)).getD j default=ls.getD j default:=by simp [List.getD,e]
   have e3:(ms.set i ((aD t).getD i default).many).getD j false=ms.getD j false:=by simp [List.getD,e]
   rw [e1] at hkj;rw [e2,e3];exact ⟨(h.fine j hj hkj).1.carry hkp (fun _ _ h=>h),(h.fine j hj hkj).2⟩
end
theorem fM {w:World}{p:Addr}{b off:Nat}{u x:Value}(hne:¬ b=p.block)(h:w.cell? ⟨b,off,none⟩=some u):(w.setCell p x).cell? ⟨b,off,none⟩=some u:=by
 rw [<- h];exact World.cell?_of_block (w:=w) (Below.heap_setCell _ _ _ _ hne)
theorem dX {w:World}{p:Addr}{b off:Nat}{u x:Value}(hne:¬ b=p.block)(h:w.drew.cell? ⟨b,off,none⟩=some u):(w.setCell p x).drew.cell? ⟨b,off,none⟩=some u:=fM (w:=w) hne h
theorem aDx (t:List GN)(vn:Value)(f:Nat)(hF:uT t vn f):aBk t vn f:=by
 intro g i w hif hg hs;have HG:=aYl hg;have hit:i<t.length:=by have:=hg.1;omega
 obtain ⟨kn,ls,ms,h⟩:=hs;have H:=aYl h;have b1:=h.box.cell' (u:=.slice (some ⟨g.k,0,none⟩) t.length t.length) 1 rfl;have b2:=h.box.cell' (u:=.slice (some ⟨g.l,0,none⟩) t.length t.length) 2 rfl;have b3:=h.box.cell' (u:=.slice (some ⟨g.m,0,none⟩) t.length t.length) 3 rfl;have k0:=h.known.cell' (u:=.bool (kn.getD i false)) i (by simp [h.klen,hit]);have hii:(i:Int)<(t.length:Int):=by omega
 have hi0:(0:Int)<=(i:Int):=U
 have HFI:=aYl (h.fine i hit);have HLS:=aYl (show w.cell? ⟨g.l,i,none⟩=some (ls.getD i default) from h.lists.cell' i (by simp [h.llen,hit]));have HMS:=aYl (show w.cell? ⟨g.m,i,none⟩=some (.bool (ms.getD i false)) from h.many.cell' i (by simp [h.mlen,hit]));clear hg h;generalize hkk:kn.getD i false=bk at *;clear hkk
 cases bk
 ·go_enter Tryz.func137,Tryz.ntmps137
  go_wp2_with fail;refine (hF g i w hif HG.out ⟨kn,ls,ms,H.out⟩).mono ?_;rintro e w1 ⟨A,c,rfl,hv,hfr,kn1,ls1,ms1,h1⟩;have HV:=aYl hv;have HFR:=aYl hfr;have H1:=aYl h1;clear b1 b2 b3 k0;have b1:=h1.box.cell' (u:=.slice (some ⟨g.k,0,none⟩) t.length t.length) 1 rfl;have b2:=h1.box.cell' (u:=.slice (some ⟨g.l,0,none⟩) t.length t.length) 2 rfl;have b3:=h1.box.cell' (u:=.slice (some ⟨g.m,0,none⟩) t.length t.length) 3 rfl;have k0:=h1.known.cell' (u:=.bool (kn1.getD i false)) i (by simp [h1.klen,hit]);have l0:=h1.lists.cell' (u:=ls1.getD i default) i (by simp [h1.llen,hit]);have m0:=h1.many.cell' (u:=.bool (ms1.getD i false)) i (by simp [h1.mlen,hit]);have fk:=h1.known.frozen i;have fl:=h1.lists.frozen i;have fm:=h1.many.frozen i;have n1:¬ g.s=g.k:=h1.hk;have n2:¬ g.s=g.l:=h1.hl;have n3:¬ g.s=g.m:=h1.hm;have n7:¬ g.l=g.k:=fun e=>h1.kl e.symm
  have n8:¬ g.m=g.k:=fun e=>h1.km e.symm
  have n9:¬ g.m=g.l:=fun e=>h1.lm e.symm
  have HLN:=aYl (H1.out.learn hit hv);clear hv hfr h1;generalize kn1.getD i false=z1 at *;generalize ls1.getD i default=z2 at *;generalize ms1.getD i false=z3 at *;generalize (aD t).getD i default=r at *;obtain ⟨vals,many⟩:=r;go_upto_region 3 with fail
  go_region_held3 (fun w'=>w'.cell? ⟨g.s,1,none⟩=some (.slice (some ⟨g.k,0,none⟩) t.length t.length)∧w'.cell? ⟨g.s,2,none⟩=some (.slice (some ⟨g.l,0,none⟩) t.length t.length)∧w'.cell? ⟨g.s,3,none⟩=some (.slice (some ⟨g.m,0,none⟩) t.length t.length))
   (first
    | (go_split_ands
       with_reducible exact ⟨dX n1 ‹_›,dX n1 ‹_›,dX n1 ‹_›⟩)
    | (go_split_ands
       with_reducible exact ⟨dX n2 ‹_›,dX n2 ‹_›,dX n2 ‹_›⟩)
    | (go_split_ands
       with_reducible exact ⟨dX n3 ‹_›,dX n3 ‹_›,dX n3 ‹_›⟩)
    | go_keep)
   (first
    | fail)
  go_upto_region 4 with fail;have HL2:=aYl (HLN.out.ext (Ext.refl _).drew');have HF2:=aYl (((((Fr.refl g.M w1).setCell (p:=⟨g.k,i,none⟩) (.inl (.inl rfl)) (.bool true)).setCell (p:=⟨g.l,i,none⟩) (.inl (.inr (.inl rfl))) (.slice A vals.length c)).setCell (p:=⟨g.m,i,none⟩) (.inl (.inr (.inr rfl))) (.bool many))).drew
  have HV2:=aYl (show bV ((((w1.setCell ⟨g.k,i,none⟩ (.bool true)).setCell ⟨g.l,i,none⟩ (.slice A vals.length c)).setCell ⟨g.m,i,none⟩ (.bool many)).drew) g.Q (.slice A vals.length c) vals from
   (((HV.out.set (p:=⟨g.k,i,none⟩) _ (fun h=>h.1 (.inl rfl))).set (p:=⟨g.l,i,none⟩) _ (fun h=>h.1 (.inr (.inl rfl)))).set (p:=⟨g.m,i,none⟩) _ (fun h=>h.1 (.inr (.inr rfl)))).ext (Ext.refl _).drew')
  clear b1 b2 b3 k0 l0 m0 fk fl fm n1 n2 n3 n7 n8 n9 HLN;generalize hw2:(((w1.setCell ⟨g.k,i,none⟩ (.bool true)).setCell ⟨g.l,i,none⟩ (.slice A vals.length c)).setCell ⟨g.m,i,none⟩ (.bool many)).drew=w2 at *;clear hw2;have b2:=HL2.out.box.cell' (u:=.slice (some ⟨g.l,0,none⟩) t.length t.length) 2 rfl;have b3:=HL2.out.box.cell' (u:=.slice (some ⟨g.m,0,none⟩) t.length t.length) 3 rfl;have l0:=HL2.out.lists.cell' (u:=.slice A vals.length c) i (by have:=H1.out.llen;simp [this,hit]);have m0:=HL2.out.many.cell' (u:=.bool many) i (by have:=H1.out.mlen;simp [this,hit]);go_wp2_with fail;go_quiet (fail);go_wp2_with fail;go_ret2;exact ⟨A,c,rfl,HV2.out.ext ((Ext.refl _).drewN' _),(HFR.out.trans HF2.out).drewN _,⟨_,_,_,HL2.out.ext ((Ext.refl _).drewN' _)⟩⟩
 ·obtain ⟨hv,hm⟩:=HFI.out rfl
  have l0:=HLS.out;have m0:=HMS.out;obtain ⟨A,c,ev,-,-⟩:=hv.form;rw [ev] at l0 hv;rw [hm] at m0;have HV:=aYl hv;clear hv hm ev;generalize (aD t).getD i default=r at *;obtain ⟨vals,many⟩:=r;simp only at l0 m0;go_enter Tryz.func137,Tryz.ntmps137;go_wp2_with fail;go_quiet (fail);go_wp2_with fail;go_ret2;exact ⟨A,c,rfl,HV.out.ext ((Ext.refl _).drewN' _),Fr.of_ext ((Ext.refl _).drewN' _),⟨kn,ls,ms,H.out.ext ((Ext.refl _).drewN' _)⟩⟩
def xP (ls:List GL):List GV->List Int->GL
 | out,[]=>⟨out,false⟩
 | out,z :: zs=>if (ls.getD z.toNat default).many=true then ⟨[],true⟩
   else if 1024<(dQ out (ls.getD z.toNat default).vals).length then ⟨[],true⟩ else xP ls (dQ out (ls.getD z.toNat default).vals) zs
theorem bQ.lt {t:List GN}{vn:Value}{g:SA}{w:World}(h:bQ t vn g w){b:Nat}(hb:g.M b):b<w.heap.size:=by
 obtain ⟨kn,ls,ms,h⟩:=h;rcases hb with rfl | rfl | rfl
 ·exact h.known.lt
 ·exact h.lists.lt
 ·exact h.many.lt
theorem bQ.newQ {t:List GN}{vn:Value}{g:SA}{w:World}(h:bQ t vn g w){b:Nat}(hb:w.heap.size<=b):g.Q b :=
 ⟨fun hm=>by have:=h.lt hm;omega,fun hx=>by obtain ⟨kn,ls,ms,h⟩:=h;have:=h.xlt b hx;omega⟩
def aH7 (t:List GN)(vn:Value)(g:SA)(ks:List Int)(w:World)(v i:Value)(wr:World):Prop :=
 ∃ (k:Nat) (out:List GV),k<=ks.length∧i=↑k∧bV wr g.Q v out∧Inc out∧out.length<=1024∧Fr g.M w wr∧bQ t vn g wr∧xP (aD t) [] ks=xP (aD t) out (ks.drop k)
theorem iK.none_ {t:List GN}{vn:Value}{g:SA}{w w':World}(hf:Fr g.M w w')(hs:bQ t vn g w'):iK t vn g ⟨[],true⟩ w (.returned (.tuple #[.slice none 0 0,.bool false])) w' :=
 ⟨none,0,rfl,bV.nil_any _ _ _ _ U,hf,hs⟩
theorem vE (t:List GN)(vn:Value)(g:SA)(f n:Nat)(hO:aBk t vn f)(ks:List Int)(vk:Value)(w:World)(hk:aU w g.Q vk ks)(hks:∀ z ∈ ks,0<=z∧z<(n:Int))(hnf:n<=f)(hg:bD t n)(hs:bQ t vn g w) :
  Calls Tryz.prog 202 #[.pointer (some ⟨g.s,0,none⟩),vk] w (iK t vn g (xP (aD t) [] ks) w):=by
 have HK:=aYl hk;have HKS:=aYl hks;have HG:=aYl hg;have HS:=aYl hs;obtain ⟨Ak,ck,ek,hk1,hk2⟩:=hk.form;subst ek;clear hk hks hg hs;go_enter Tryz.func202,Tryz.ntmps202;go_wp2_with fail;go_loopw [6,13] (fun v i wr=>aH7 t vn g ks w v i wr) (fun _ i _=>ks.length - (intOf i).toNat)
 case atStart=>exact ⟨0,[],Nat.zero_le _,rfl,bV.nil_any _ _ _ _ U,Inc.nil,Y,Fr.refl _ _,HS.out,rfl⟩
 case round =>
  obtain ⟨k,out,hk,rfl,hv,hinc,hlen,hfr,hs,hu⟩:=hrel;have HV:=aYl hv;have HINC:=aYl hinc;have HFR:=aYl hfr;have HSR:=aYl hs;have HU:=aYl hu;obtain ⟨A6,c6,e6,h61,h62⟩:=hv.form;subst e6;have HKR:=aYl (HK.out.keep (Q:=g.Q) (aB.of_fr hfr (fun b h=>h.1)) (fun _ h=>h));clear hv hinc hfr hs hu
  by_cases hlt:k<ks.length
  ·obtain ⟨b1,o1,rfl,-,-,g1⟩:=HKR.out.get hlt
   have hz:=HKS.out _ (aF (d:=0) hlt);have HD:=aYl (HU.out.trans (by rw [aG 0 hlt,xP]));generalize ks.getD k 0=z at *;obtain ⟨zn,rfl⟩:∃ zn:Nat,z=zn:=⟨z.toNat,U⟩;have HLOK:=aYl (lX HG.out zn U);have hgz:=HG.out.mono (j:=zn+1) U;have HOZ:=aYl (hO g zn wr U hgz HSR.out);simp only [Int.toNat_natCast] at HD;clear hgz;generalize (aD t).getD zn default=r at *;obtain ⟨vals,many⟩:=r;go_wp2_with fail;refine HOZ.out.mono ?_;rintro e w1 ⟨A2,d2,rfl,hv2,hf2,hs2⟩;have HV2:=aYl hv2;have HF2:=aYl (HFR.out.trans hf2);have HS2:=aYl hs2;have HVO:=aYl (HV.out.keep (Q:=g.Q) (aB.of_fr hf2 (fun b h=>h.1)) (fun _ h=>h));clear hv2 hf2 hs2 g1
   cases many
   ·have hfew:=HLOK.out.few
    simp only at hfew;go_wp2_with fail;refine (aB6 out vals (fun b=>g.Q b∧b<w1.heap.size) _ _ _ (HVO.out.imp (fun b hb h=>⟨h,hb⟩)) (HV2.out.imp (fun b hb h=>⟨h,hb⟩)) U U (fun b h=>h.2)).mono ?_;rintro e w2 ⟨A3,d3,rfl,hv3,hx3⟩;have HV3:=aYl (hv3.imp (Q:=g.Q) (fun b hb h=>h.elim (fun h=>h.1) (fun h=>HS2.out.newQ h)));have HX3:=aYl hx3;have HI3:=aYl (iF out vals HINC.out HLOK.out.inc);clear hv3 hx3;generalize dQ out vals=mo at *;have hmo:mo.length<=d3∧(mo.length<=17592186044416∧d3<=9223372036854775807):=HV3.out.le
    by_cases hbig:1024<mo.length
    ·have tb:decide (1024<(mo.length:Int))=true:=aYo U
     have HE:=aYl (show xP (aD t) [] ks=⟨[],true⟩ from HD.out.trans (by simp [hbig]));clear hbig;go_wp2_with fail;go_ret2;rw [HE.out];exact iK.none_ (HF2.out.trans (Fr.of_ext HX3.out)) (HS2.out.ext HX3.out)
    ·have tb:decide (1024<(mo.length:Int))=false:=aYp U
     have HE:=aYl (show xP (aD t) [] ks=xP (aD t) mo (ks.drop (k+1)) from HD.out.trans (by simp [hbig]));have hb2:mo.length<=1024:=by omega
     clear hbig;go_wp2_with fail;go_roundw
     case rel=>exact ⟨k+1,mo,U,by go_num,HV3.out,HI3.out,U,HF2.out.trans (Fr.of_ext HX3.out),HS2.out.ext HX3.out,HE.out⟩
     case measure=>simp [intOf];omega
   ·have HE:=aYl (show xP (aD t) [] ks=⟨[],true⟩ from HD.out.trans Y)
    go_wp2_with fail;go_ret2;rw [HE.out];exact iK.none_ HF2.out HS2.out
  ·have HE:=aYl (show xP (aD t) [] ks=⟨out,false⟩ by rw [HU.out,drop_nil U,xP])
   go_wp2_with fail;go_ret2;rw [HE.out];exact ⟨A6,c6,rfl,HV.out,HFR.out,HSR.out⟩
def bA (lss:List (List GV)):List (List GV):=lss.foldl eS [[]]
theorem iQ (lss:List (List GV))(l:List GV):bA (lss ++ [l])=eS (bA lss) l:=by simp [bA]
theorem aB0 (rows:List (List GV))(l:List GV)(k:Nat)(hk:k<rows.length*l.length):(eS rows l).getD k []=rows.getD (k / l.length) [] ++ [l.getD (k % l.length) default]:=by
 have hl:0<l.length:=by
  rcases Nat.eq_zero_or_pos l.length with h | h
  ·rw [h] at hk;simp at hk
  ·exact h
 induction rows generalizing k with
 | nil=>simp at hk
 | cons r rs ih =>
  unfold eS;rw [List.flatMap_cons]
  by_cases hlt:k<l.length
  ·have e1:k / l.length=0:=Nat.div_eq_of_lt hlt
   have e2:k % l.length=k:=Nat.mod_eq_of_lt hlt;rw [e1,e2];simp [List.getD,List.getElem?_append,hlt]
  ·have hge:l.length<=k:=by omega
   have h1:=ih (k - l.length) (by simp only [List.length_cons,Nat.add_mul,Nat.one_mul] at hk;omega)
   have e1:k / l.length=(k - l.length) / l.length+1:=by
    rw [Nat.div_eq k l.length,if_pos ⟨hl,hge⟩]
   have e2:k % l.length=(k - l.length) % l.length:=by rw [Nat.mod_eq_sub_mod hge]
   rw [e1,e2,List.getD_cons_succ,<- h1];simp only [List.getD,eS];rw [List.getElem?_append_right ab];simp
def qY (ls:List GL)(x:GN):GL :=
 match bO ls [[]] x.kids with
 | none=>⟨[],true⟩
 | some rows=>⟨rows.map (bW x.name),false⟩
structure xM (w:World)(Q:Nat->Prop)(cells:List Value)(lss:List (List GV))(k:Nat):Prop where
 at_:∀ j,j<k->∃ A c,cells[j]?=some (.slice A (lss.getD j []).length c)∧bV w Q (.slice A (lss.getD j []).length c) (lss.getD j [])
theorem xM.keep {w w':World}{Q:Nat->Prop}{cells:List Value}{lss:List (List GV)}{k:Nat}(h:xM w Q cells lss k)(hk:aB Q w w'):xM w' Q cells lss k :=
 ⟨fun j hj=>by obtain ⟨A,c,h1,h2⟩:=h.at_ j hj;exact ⟨A,c,h1,h2.carry hk (fun _ _ h=>h)⟩⟩
theorem xM.put {w:World}{Q:Nat->Prop}{cells:List Value}{lss:List (List GV)}(h:xM w Q cells lss lss.length){l:List GV}{A:Option Addr}{c:Nat}(hv:bV w Q (.slice A l.length c) l)(hlt:lss.length<cells.length) :
  xM w Q (cells.set lss.length (.slice A l.length c)) (lss ++ [l]) (lss.length+1):=by
 refine ⟨fun j hj=>?_⟩
 by_cases e:j=lss.length
 ·subst e
  have e1:(lss ++ [l]).getD lss.length []=l:=Y
  rw [e1];exact ⟨A,c,ar,hv⟩
 ·have e1:(lss ++ [l]).getD j []=lss.getD j []:=by simp [List.getD,List.getElem?_append,show j<lss.length by omega]
  rw [e1];obtain ⟨A',c',h1,h2⟩:=h.at_ j U;exact ⟨A',c',by rw [List.getElem?_set_ne (fun h=>e h.symm)];exact h1,h2⟩
theorem eV (z:Value)(n:Nat):madeCells #[z] n=(List.replicate n z).toArray:=by rw [<- toList_madeCells_one]
theorem qU {lss:List (List GV)}:∀ (acc:List (List GV)),1<=acc.length->(∀ l ∈ lss,1<=l.length)->1<=(lss.foldl eS acc).length:=by
 induction lss with
 | nil=>intro acc h _;exact h
 | cons l ls ih =>
  intro acc h hl;refine ih _ ?_ (fun y hy=>hl y ao);rw [gE];exact Nat.mul_pos h (hl l Y)
def aT4 (t:List GN)(vn:Value)(g g':SA)(x:GN)(gL:Nat)(w:World)(tot i:Value)(wr:World):Prop :=
 ∃ (k:Nat) (lss:List (List GV)) (cells:List Value),k<=x.kids.length∧i=↑k∧tot=.int .i64 (bA lss).length∧lss.length=k∧(bA lss).length<=1024∧cells.length=x.kids.length∧Blk wr gL 83 cells.toArray∧xM wr g'.Q cells lss k ∧
  (∀ l ∈ lss,l.length<=1024∧1<=l.length)∧Fr g.M w wr∧bQ t vn g' wr∧(∀ v ∈ cells,∃ A n c,v=.slice A n c)∧bO (aD t) [[]] x.kids=bO (aD t) (bA lss) (x.kids.drop k)
def aT3 (P:Nat->Prop)(name:ByteArray)(rows:List (List GV))(w0:World)(v i:Value)(wr:World):Prop :=
 ∃ (k:Nat) (xs:List Value),k<=rows.length∧i=↑k∧wr.ownsRow w0.heap.size 85 4 v k xs∧RVs wr (Off P w0.heap.size wr v) ((rows.take k).map (bW name)) xs∧Ext w0 wr
def aQ0 (P:Nat->Prop)(lss:List (List GV))(row:List GV)(gK:Nat)(n:Nat)(w0:World)(kk i:Value)(wr:World):Prop :=
 ∃ (r k:Nat) (ii:Int) (tail:List GV) (cs:List Value),r<=n∧i=↑ii∧ii+1=r∧kk=↑k∧Blk wr gK 85 cs.toArray∧cs.length=n*4∧RVs wr P tail (cs.drop (r*4))∧row=(bA (lss.take r)).getD k [] ++ tail∧(k<(bA (lss.take r)).length∧k<=1024)∧tail.length+r=n∧Fr (fun b=>b=gK) w0 wr
theorem nQ {lss:List (List GV)}{q:Nat}(h:q<lss.length):bA (lss.take (q+1))=eS (bA (lss.take q)) (lss.getD q []):=by
 rw [aX [] h,iQ]
theorem qT {lss:List (List GV)}:∀ (acc:List (List GV))(m:Nat),(∀ r ∈ acc,r.length=m)->∀ r ∈ lss.foldl eS acc,r.length=m+lss.length:=by
 induction lss with
 | nil=>intro acc m h r hr;simpa using h r hr
 | cons l ls ih =>
  intro acc m h r hr;have:=ih (eS acc l) (m+1) (fun q hq=>by obtain ⟨q',hq',v,_,rfl⟩:=jR.1 hq;simp [h q' hq']) r hr;simp only [List.length_cons];omega
theorem aGh {w:World}{g:Nat}{t:TypeId}{cs:List Value}(h:Blk w g t cs.toArray)(q:Nat)(u0 u1 u2 u3:Value)(hq:q*4+4<=cs.length) :
  Blk ((((w.setCell ⟨g,q*4,none⟩ u0).setCell ⟨g,q*4+1,none⟩ u1).setCell ⟨g,q*4+2,none⟩ u2).setCell ⟨g,q*4+3,none⟩ u3) g t (cs.take (q*4) ++ [u0,u1,u2,u3] ++ cs.drop (q*4+4)).toArray:=by
 have h1:=(((h.set_ (q*4) u0).set_ (q*4+1) u1).set_ (q*4+2) u2).set_ (q*4+3) u3;simp only [List.setIfInBounds_toArray] at h1
 have e:((((cs.set (q*4) u0).set (q*4+1) u1).set (q*4+2) u2).set (q*4+3) u3)=cs.take (q*4) ++ [u0,u1,u2,u3] ++ cs.drop (q*4+4):=by
  apply List.ext_getElem?
  intro j;simp only [List.getElem?_set,List.length_set,List.getElem?_append,List.length_take,List.length_append,List.getElem?_take,List.getElem?_drop,List.length_cons,List.length_nil];have hm:min (q*4) cs.length=q*4:=by omega
  rw [hm]
  by_cases j0:j<q*4
  ·simp [j0,show ¬ q*4+3=j by omega,show ¬ q*4+2=j by omega,show ¬ q*4+1=j by omega,show ¬ q*4=j by omega,show j<q*4+4 by omega]
  by_cases j1:j<q*4+4
  ·have hc:j=q*4∨j=q*4+1∨j=q*4+2∨j=q*4+3:=by omega
   rcases hc with rfl | rfl | rfl | rfl
   ·simp [show q*4<cs.length by omega]
   ·simp [show q*4+1<cs.length by omega]
    intro h;omega
   ·simp [show q*4+2<cs.length by omega]
    intro h;omega
   ·simp [show q*4+3<cs.length by omega]
    intro h;omega
  ·simp [j1,show ¬ q*4+3=j by omega,show ¬ q*4+2=j by omega,show ¬ q*4+1=j by omega,show ¬ q*4=j by omega]
   congr 1
   omega
 rw [e] at h1;exact h1
theorem aHp {a b:Nat}(h:a<=1024):wrap64 ((a:Int) / (b:Int))=((a / b:Nat):Int):=by
 have h1:=Nat.div_le_self a b;rw [<- Int.natCast_ediv];generalize a / b=c at *;exact IntWalk.wrap64_in _ U
theorem aB5 {P:Nat->Prop}{lss:List (List GV)}{row:List GV}{gK n q k':Nat}{w0 wr:World}{cs:List Value}{tail:List GV}{v:GV}{A4:Option Addr}{d4:Nat}(hBK:Blk wr gK 85 cs.toArray)(hcs:cs.length=n*4)(htl:RVs wr P tail (cs.drop ((q+1)*4)))
  (hrow:row=(bA (lss.take q)).getD k' [] ++ (v :: tail))(hk2:k'<(bA (lss.take q)).length)(hk3:k'<=1024)(htr:tail.length+(q+1)=n)(hfr:Fr (fun b=>b=gK) w0 wr)(hv:VAt wr P v A4 d4)(hP:¬ P gK) :
  aQ0 P lss row gK n w0 (↑(k':Int)) (.int .i64 ((q:Int) - 1)) ((((wr.setCell ⟨gK,q*4,none⟩ (↑v.kind)).setCell ⟨gK,q*4+1,none⟩ (↑v.n)).setCell ⟨gK,q*4+2,none⟩ (.string v.s)).setCell ⟨gK,q*4+3,none⟩ (.slice A4 v.kids.length d4)).drew:=by
 have hq4:q*4+4<=cs.length:=by rw [hcs];omega
 have hb4:=(aGh hBK q (↑v.kind) (↑v.n) (.string v.s) (.slice A4 v.kids.length d4) hq4).drew;have hl4:(cs.take (q*4)).length=q*4:=by rw [List.length_take];omega
 have hdr:(cs.take (q*4) ++ [Value.int .i64 v.kind,Value.int .i64 v.n,Value.string v.s,Value.slice A4 v.kids.length d4] ++ cs.drop (q*4+4)).drop (q*4)=cellsOf v A4 d4 ++ cs.drop ((q+1)*4):=by
  rw [List.append_assoc,List.drop_left' hl4,show q*4+4=(q+1)*4 by omega]
  rfl
 have hk0:aB P wr wr:=fun _ _ _=>rfl
 have hkp:=(((hk0.set (p:=⟨gK,q*4,none⟩) (↑v.kind) hP).set (p:=⟨gK,q*4+1,none⟩) (↑v.n) hP).set (p:=⟨gK,q*4+2,none⟩) (.string v.s) hP).set (p:=⟨gK,q*4+3,none⟩) (.slice A4 v.kids.length d4) hP
 have hlen4:(cs.take (q*4) ++ [Value.int .i64 v.kind,Value.int .i64 v.n,Value.string v.s,Value.slice A4 v.kids.length d4] ++ cs.drop (q*4+4)).length=n*4:=by
  rw [List.length_append,List.length_append,hl4,List.length_drop];simp only [List.length_cons,List.length_nil];omega
 refine ⟨q,k',(q:Int) - 1,v :: tail,_,U,rfl,U,rfl,hb4,hlen4,?_,hrow,⟨hk2,hk3⟩,ab,((((hfr.setCell (p:=⟨gK,q*4,none⟩) (.inl rfl) (↑v.kind)).setCell (p:=⟨gK,q*4+1,none⟩) (.inl rfl) (↑v.n)).setCell (p:=⟨gK,q*4+2,none⟩) (.inl rfl) (.string v.s)).setCell (p:=⟨gK,q*4+3,none⟩) (.inl rfl) (.slice A4 v.kids.length d4)).drew⟩;rw [hdr]
 show RVs _ _ ([v] ++ tail) _
 exact RVs.append (RVs.one ((hv.carry hkp (fun _ _ h=>h)).ext (Ext.refl _).drew').rv) (RVs.keep (aB.of_ext (Ext.refl _).drew') (fun _ h=>h) (RVs.carry hkp (fun _ _ h=>h) htl))
theorem oP {w:World}{P Q:Nat->Prop}{g n:Nat}{cs:List Value}{row:List GV}(hB:Blk w g 85 cs.toArray)(hr:RVs w P row cs)(hl:row.length=n)(hn:n<=17592186044416)(hg:Q g)(hPQ:∀ b,P b->Q b):bV w Q (.slice (some ⟨g,0,none⟩) row.length n) row :=
 ⟨some ⟨g,0,none⟩,n,cs,rfl,U,U,⟨hr.len,fun _=>⟨g,0,rfl,hg,fun j u hu=>by rw [Nat.zero_add,hB.cell];simpa using hu⟩⟩,RVs.keep (fun _ _ _=>rfl) hPQ hr⟩
theorem wJ {P:Nat->Prop}{B:Nat}{wq w5 w6:World}{v v':Value}{done:List GV}{mv:GV}{xs:List Value}{A:Option Addr}{c k:Nat}(_:wq.ownsRow B 85 4 v k xs)(hr:RVs wq (Off P B wq v) done xs)(h5:Ext wq w5)
  (hv:VAt w5 (fun b=>(P b∨B<=b)∧some b ≠ v.ownBlock) mv A c)(hf:Fr (fun k=>some k=v.ownBlock) (w5.alloc (.cells #[↑mv.kind,↑mv.n,.string mv.s,.slice A mv.kids.length c] 85)) w6)
  (hb:v'.ownBlock=v.ownBlock∨v'.ownBlock=some (w5.alloc (.cells #[↑mv.kind,↑mv.n,.string mv.s,.slice A mv.kids.length c] 85)).heap.size):RVs w6 (Off P B w6 v') (done ++ [mv]) (xs ++ cellsOf mv A c):=by
 have hs5:=h5.size;have hs6:=hf.size;simp at hs6;have h56:Fr (fun k=>some k=v.ownBlock) w5 w6:=(Fr.of_ext ((Ext.refl w5).alloc' _)).trans hf;have hq6:Fr (fun k=>some k=v.ownBlock) wq w6:=(Fr.of_ext h5).trans h56
 have hne:∀ b,b<w5.heap.size->some b ≠ v.ownBlock->some b ≠ v'.ownBlock:=by
  intro b hb' h;rcases hb with e | e
  ·rw [e];exact h
  ·rw [e];intro e';injection e' with e';simp at e';omega
 refine RVs.append (RVs.carry (aB.off hq6) (fun b hb' h=>⟨h.1,U,hne b U h.2.2⟩) hr) (RVs.one (hv.carry (fun b hb' h=>h56.block b hb' (fun e=>h.2 e)) (fun b hb' h=>⟨h.1,U,hne b hb' h.2⟩)).rv)
theorem yO (t:List GN)(vn:Value)(g:SA)(f n:Nat)(hO:aBk t vn f)(x:GN)(a:NA)(b o:Nat)(w:World)(hx:NAt w g.Q x a)(hnc:bU w b o x a)(hbQ:g.Q b)(hks:∀ z ∈ x.kids,0<=z∧z<(n:Int))(hnf:n<=f)(hkl:x.kids.length<=2000)(hg:bD t n)(hs:bQ t vn g w) :
  Calls Tryz.prog 203 #[.pointer (some ⟨g.s,0,none⟩),.pointer (some ⟨b,o,none⟩)] w (iK t vn g (qY (aD t) x) w):=by
 have HX:=aYl hx;have HKS:=aYl hks;have HG:=aYl hg;have HS:=aYl hs;have HNC:=aYl hnc;have HBQ:=aYl hbQ;have c7:=hnc.c7;have hki:=hx.kids;have lb:=hnc.lt;obtain ⟨hk1,hk2⟩:=hx.kids.le;obtain ⟨i0,hi,hz0,hz1,hz2⟩:=info_parts Tryz.info85;have HI:=aYl hi;obtain ⟨i1,hi',hz0',hz1',hz2'⟩:=info_parts Tryz.info83
 have hmk:∀ W:World,(Instr.makeSlice 196 (.int .i64 (x.kids.length:Int)) (.int .i64 (x.kids.length:Int))).run Tryz.prog W=.ok (.slice (some ⟨W.heap.size,0,none⟩) x.kids.length x.kids.length) (W.alloc (.cells (madeCells (Value.slice none 0 0).cells (x.kids.length*1)) 83)):=by
  intro W;have h:=run_make (P:=Tryz.prog) W 196 83 i1 _ Tryz.underlying196 hi' hz0' .i64 .i64 (x.kids.length:Int) (x.kids.length:Int) U (Int.le_refl _) (by rw [hz2'];omega) U;rw [hz1'] at h;rw [h]
  rfl
 clear hx hks hg hs hnc hbQ hi hi';generalize a.kA=Ak at *;generalize a.kc=kc at *;have HKI:=aYl hki;clear hki;go_enter Tryz.func203,Tryz.ntmps203;go_wp2_with fail;have HE:=aYl (show Ext w (w.alloc (.cells (madeCells #[.slice none 0 0] x.kids.length) 83)) from (Ext.refl w).alloc' _);have HBL:=aYl (Blk.new w 83 (madeCells #[.slice none 0 0] x.kids.length));have HS':=aYl (HS.out.more (Nat.le_refl _) HE.out Y);generalize hW:w.alloc (.cells (madeCells #[.slice none 0 0] x.kids.length) 83)=W at *;clear hW hmk;obtain ⟨g',hg'⟩:∃ g',g'=SA.mk g.s g.k g.l g.m (fun b=>g.X b∨b=w.heap.size):=⟨_,rfl⟩;rw [<- hg'] at HS';have HGM:=aYl (show g'.M=g.M by rw [hg'];rfl);have HGS:=aYl (show g'.s=g.s by rw [hg']);have HGQ:=aYl (show ∀ b,g'.Q b->g.Q b∧b ≠ w.heap.size from fun b h=>by subst hg';exact ⟨⟨h.1,fun hx=>h.2 (.inl hx)⟩,fun e=>h.2 (.inr e)⟩);have HGX:=aYl (show g'.X w.heap.size by subst hg';exact .inr rfl);have HLESS:=aYl (show ∀ W',bQ t vn g' W'->bQ t vn g W' from fun W' h=>by subst hg';exact h.less (fun b hb=>.inl hb));have HGL:=aYl (show ¬ g.M w.heap.size from fun h=>by have:=HS.out.lt h;omega);have HNS:=aYl (show w.heap.size ≠ g.s from fun e=>by obtain ⟨_,_,_,h⟩:=HS.out;have:=h.box.lt;omega)
 clear hg';go_loopw [7,27] (fun tot i wr=>aT4 t vn g g' x w.heap.size w tot i wr) (fun _ i _=>x.kids.length - (intOf i).toNat)
 case atStart =>
  refine ⟨0,[],List.replicate x.kids.length (.slice none 0 0),Nat.zero_le _,rfl,rfl,rfl,by simp [bA],Y,by rw [<- eV];exact HBL.out,⟨fun j hj=>by omega⟩,Y,Fr.of_ext HE.out,HS'.out,?_,rfl⟩;intro v hv;rw [List.eq_of_mem_replicate hv];exact ⟨_,_,_,rfl⟩
 case round =>
  obtain ⟨k,lss,cells,hk,rfl,rfl,hlk,hrl,hcl,hB,hat,hls,hfr,hs,hsl,hsq⟩:=hrel;have HLK:=aYl hlk;have HCL:=aYl hcl;have HB:=aYl hB;have HAT:=aYl hat;have HLS:=aYl hls;have HFR:=aYl hfr;have HSR:=aYl hs;have HSL:=aYl hsl;have HSQ:=aYl hsq;have HKR:=aYl (HKI.out.keep (Q:=g.Q) (aB.of_fr hfr (fun b h=>h.1)) (fun _ h=>h));have hszr:=hfr.size;clear hlk hcl hB hat hls hfr hs hsl hsq
  by_cases hlt:k<x.kids.length
  ·obtain ⟨b1,o1,rfl,-,-,g1⟩:=HKR.out.get hlt
   have hz:=HKS.out _ (aF (d:=0) hlt);have HD:=aYl (HSQ.out.trans (by rw [aG 0 hlt,bO]));generalize x.kids.getD k 0=z at *;obtain ⟨zn,rfl⟩:∃ zn:Nat,z=zn:=⟨z.toNat,U⟩;have HLOK:=aYl (lX HG.out zn U);have hgz:=HG.out.mono (j:=zn+1) U;have HOZ:=aYl (hO g' zn wr U hgz HSR.out);rw [HGS.out] at HOZ;simp only [Int.toNat_natCast] at HD;clear hgz;generalize (aD t).getD zn default=r at *;obtain ⟨vals,many⟩:=r;go_wp2_with fail;refine HOZ.out.mono ?_;rintro e w1 ⟨A2,d2,rfl,hv2,hf2,hs2⟩;rw [HGM.out] at hf2;have HV2:=aYl hv2;have HF2:=aYl (HFR.out.trans hf2);have HS2:=aYl hs2;have HB2:=aYl (HB.out.fr hf2 HGL.out);have HAT2:=aYl (HAT.out.keep (aB.of_fr hf2 (fun b h=>(HGQ.out b h).1.1)));clear hv2 hf2 hs2 g1;have hfew:=HLOK.out.few;simp only at hfew
   cases many
   ·have hnn:=HLOK.out.some_ rfl
    have hpos:1<=vals.length:=List.length_pos_iff.2 hnn;clear hnn
    by_cases hp:1024<(bA lss).length*vals.length
    ·have tp:decide (1024<wrap64 (((bA lss).length:Int)*(vals.length:Int)))=true:=by rw [lT hrl hfew];exact aYo U
     have HE2:=aYl (show qY (aD t) x=⟨[],true⟩ by unfold qY;rw [HD.out,if_pos (.inr hp)]);clear hp;go_wp2_with fail;go_ret2;rw [HE2.out];exact iK.none_ HF2.out (HLESS.out _ HS2.out)
    ·have tp:decide (1024<wrap64 (((bA lss).length:Int)*(vals.length:Int)))=false:=by rw [lT hrl hfew];exact aYp U
     have HE2:=aYl (show bO (aD t) [[]] x.kids=bO (aD t) (bA (lss ++ [vals])) (x.kids.drop (k+1)) by rw [HD.out,if_neg ab,iQ]);have HMW:=aYl (show wrap64 (((bA lss).length:Int)*(vals.length:Int))=((bA (lss ++ [vals])).length:Int) by rw [lT hrl hfew,iQ,gE]);have hr2:(bA (lss ++ [vals])).length<=1024:=by rw [iQ,gE];omega
     clear hp;obtain ⟨An,nn,cn,en⟩:∃ A n c,cells.getD k default=Value.slice A n c:=HSL.out _ (aF (by rw [HCL.out];exact hlt));have l0:=HB2.out.cell' (u:=cells.getD k default) k (by have:=HCL.out;simp [this,hlt]);rw [en] at l0;have fl:=HB2.out.frozen k;have hk0:(0:Int)<=(k:Int):=by omega
     go_wp2_with fail;go_roundw
     case rel =>
      have hkl2:lss.length<cells.length:=by rw [HLK.out,HCL.out];exact hlt
      have hQL:¬ g'.Q w.heap.size:=fun h=>(HGQ.out _ h).2 rfl
      have hkp:aB g'.Q w1 (w1.setCell ⟨w.heap.size,k,none⟩ (.slice A2 vals.length d2)):=aB.set (fun _ _ _=>rfl) (p:=⟨w.heap.size,k,none⟩) _ hQL;have hB3:=HB2.out.set_ k (.slice A2 vals.length d2);simp only [List.setIfInBounds_toArray] at hB3;have hat2:=HAT2.out;rw [<- HLK.out] at hat2 hkp hB3;have hput:=(hat2.put HV2.out hkl2).keep hkp;rw [HLK.out] at hput hB3;refine ⟨k+1,lss ++ [vals],cells.set k (.slice A2 vals.length d2),U,by go_num,by rw [HMW.out],by simp [HLK.out],hr2,by simp [HCL.out],hB3,hput,?_,HF2.out.trans_new (Fr.setCell (Fr.refl _ _) (p:=⟨w.heap.size,k,none⟩) (.inl (.inr (Nat.le_refl _))) _),?_,?_,HE2.out⟩
      ·intro l hl
       rcases List.mem_append.1 hl with hl | hl
       ·exact HLS.out l hl
       ·rw [List.mem_singleton.1 hl];exact ⟨hfew,hpos⟩
      ·exact HS2.out.setX (p:=⟨w.heap.size,k,none⟩) HGX.out (by rw [HGS.out];exact HNS.out) (by rw [HGM.out];exact HGL.out) _
      ·intro v hv
       rcases List.mem_or_eq_of_mem_set hv with hv | rfl
       ·exact HSL.out v hv
       ·exact ⟨_,_,_,rfl⟩
     case measure=>simp [intOf];omega
   ·have HE2:=aYl (show qY (aD t) x=⟨[],true⟩ by unfold qY;rw [HD.out,if_pos (.inl rfl)])
    go_wp2_with fail;go_ret2;rw [HE2.out];exact iK.none_ HF2.out (HLESS.out _ HS2.out)
  ·have hkn:k=x.kids.length:=by omega
   have HLN:=aYl (show lss.length=x.kids.length by rw [HLK.out,hkn]);have HRES:=aYl (show qY (aD t) x=⟨(bA lss).map (bW x.name),false⟩ by unfold qY;rw [HSQ.out,drop_nil U,bO]);have hrp:1<=(bA lss).length:=qU [[]] Y (fun l hl=>(HLS.out l hl).2)
   have HATN:=aYl (show xM wr (fun b=>g'.Q b∧b<wr.heap.size) cells lss x.kids.length from ⟨fun j hj=>by
    obtain ⟨A,c,h1,h2⟩:=HAT.out.at_ j U;exact ⟨A,c,h1,h2.imp (fun b hb h=>⟨h,hb⟩)⟩⟩)
   have HMEM:=aYl (show ∀ r ∈ bA lss,r.length=x.kids.length from fun r hr=>by have:=qT [[]] 0 Y r hr;have:=HLN.out;omega);have HNC2:=aYl (HNC.out.keep (P:=g.Q) HBQ.out (aB.of_fr HFR.out (fun b h=>h.1)));have HNM:=aYl HX.out.name
   have hmk2:∀ W:World,(Instr.makeSlice 83 (.int .i64 0) (.int .i64 ((bA lss).length:Int))).run Tryz.prog W=.ok (.slice (some ⟨W.heap.size,0,none⟩) 0 (bA lss).length) (W.alloc (.cells (madeCells (Value.agg #[.int .i64 0,.int .i64 0,.string ByteArray.empty,.slice none 0 0]).cells ((bA lss).length*4)) 85)):=by
    intro W;have h:=run_make (P:=Tryz.prog) W 83 85 i0 _ Tryz.underlying83 HI.out hz0 .i64 .i64 0 ((bA lss).length:Int) (Int.le_refl _) U cu U;rw [hz1] at h;rw [h]
    rfl
   have hmk3:∀ W:World,(Instr.makeSlice 83 (.int .i64 (x.kids.length:Int)) (.int .i64 (x.kids.length:Int))).run Tryz.prog W=.ok (.slice (some ⟨W.heap.size,0,none⟩) x.kids.length x.kids.length) (W.alloc (.cells (madeCells (Value.agg #[.int .i64 0,.int .i64 0,.string ByteArray.empty,.slice none 0 0]).cells (x.kids.length*4)) 85)):=by
    intro W;have h:=run_make (P:=Tryz.prog) W 83 85 i0 _ Tryz.underlying83 HI.out hz0 .i64 .i64 (x.kids.length:Int) (x.kids.length:Int) U (Int.le_refl _) cu U;rw [hz1] at h;rw [h]
    rfl
   have HMK3:=aYl hmk3;clear hmk3 hkn;go_wp2_with fail;have HOW:=aYl (World.ownsRow_made (base:=wr.heap.size) (e:=85) (size:=4) wr (madeCells #[.int .i64 0,.int .i64 0,.string ByteArray.empty,.slice none 0 0] ((bA lss).length*4)) (bA lss).length (Nat.le_refl _) cj (size_madeCells _ _));have HE2:=aYl (show Ext wr (wr.alloc (.cells (madeCells #[.int .i64 0,.int .i64 0,.string ByteArray.empty,.slice none 0 0] ((bA lss).length*4)) 85)) from (Ext.refl wr).alloc' _);generalize hW2:wr.alloc (.cells (madeCells #[.int .i64 0,.int .i64 0,.string ByteArray.empty,.slice none 0 0] ((bA lss).length*4)) 85)=W2 at *;clear hW2 hmk2;obtain ⟨wo,rfl⟩:∃ wo:World,wo=wr:=⟨_,rfl⟩;have hgl0:=HB.out.lt;go_loopw [12,54] (fun v i wz=>aT3 (fun b=>g'.Q b∧b<wo.heap.size) x.name (bA lss) wo v i wz) (fun _ i _=>(bA lss).length - (intOf i).toNat)
   case atStart=>exact ⟨0,[],Nat.zero_le _,rfl,HOW.out,rfl,HE2.out⟩
   case round =>
    obtain ⟨k2,xs,hk2',rfl,hown,hrv,hx2⟩:=hrel;have HOWN:=aYl hown;have HRV:=aYl hrv;have HX2:=aYl hx2;obtain ⟨A12,c12,e12,-,-,-⟩:=Sl.of_own hown;subst e12;have hszz:=hx2.size;clear hown hrv hx2
    by_cases hlt2:k2<(bA lss).length
    ·have hmk3:=HMK3.out
     go_wp2_with fail;clear hmk3;obtain ⟨wq,rfl⟩:∃ wq:World,wq=wr:=⟨_,rfl⟩;have HEK:=aYl (show Ext wq (wq.alloc (.cells (madeCells #[.int .i64 0,.int .i64 0,.string ByteArray.empty,.slice none 0 0] (x.kids.length*4)) 85)) from (Ext.refl wq).alloc' _);have HBK:=aYl (Blk.new wq 85 (madeCells #[.int .i64 0,.int .i64 0,.string ByteArray.empty,.slice none 0 0] (x.kids.length*4)));have hszk:wq.heap.size<(wq.alloc (.cells (madeCells #[.int .i64 0,.int .i64 0,.string ByteArray.empty,.slice none 0 0] (x.kids.length*4)) 85)).heap.size:=by simp
     generalize hWk:wq.alloc (.cells (madeCells #[.int .i64 0,.int .i64 0,.string ByteArray.empty,.slice none 0 0] (x.kids.length*4)) 85)=Wk at *;clear hWk;have HROW:=aYl (HMEM.out _ (aF (d:=[]) hlt2));have HTK:=aYl (show ((bA lss).take (k2+1)).map (bW x.name)=((bA lss).take k2).map (bW x.name) ++ [bW x.name ((bA lss).getD k2 [])] by rw [aX [] hlt2,List.map_append];rfl);have HR0:=aYl (show (bA lss).getD k2 []=(bA (lss.take x.kids.length)).getD k2 [] ++ [] by rw [List.append_nil,List.take_of_length_le (by have:=HLN.out;omega)]);have HR1:=aYl (show k2<(bA (lss.take x.kids.length)).length by rw [List.take_of_length_le (by have:=HLN.out;omega)];exact hlt2);generalize (bA lss).getD k2 []=row at *;go_loopw [13,15] (fun kk i wy=>aQ0 (fun b=>g'.Q b∧b<wo.heap.size) lss row wq.heap.size x.kids.length Wk kk i wy) (fun _ i _=>(intOf i+1).toNat)
     case atStart =>
      refine ⟨x.kids.length,k2,(x.kids.length:Int) - 1,[],(madeCells #[.int .i64 0,.int .i64 0,.string ByteArray.empty,.slice none 0 0] (x.kids.length*4)).toList,Nat.le_refl _,rfl,U,rfl,HBK.out,by simp [size_madeCells],?_,HR0.out,⟨HR1.out,U⟩,Y,Fr.refl _ _⟩;rw [List.drop_eq_nil_of_le (by simp [size_madeCells])]
      rfl
     case round =>
      obtain ⟨r,kk,ii,tail,cs,hr,rfl,hii,rfl,hBK,hcs,htl,hrow,⟨hkk,hkb⟩,htr,hfr3⟩:=hrel;have HBK3:=aYl hBK;have HCS:=aYl hcs;have HTL:=aYl htl;have HROW3:=aYl hrow;have HFR3:=aYl hfr3;have HTR:=aYl htr;have hsz3:=hfr3.size;have HEW:=aYl (show Ext wo wr from Fr.new_ext ((Fr.of_ext (HX2.out.trans' HEK.out)).trans hfr3) (fun b hb=>by omega));clear hBK hcs htl hrow hfr3 htr;rcases r with _ | q
      ·obtain rfl:ii=-1:=by omega
       clear hii;have hk1:kk=0:=by simp [bA] at hkk;omega
       have HRT:=aYl (show row=tail by rw [HROW3.out,hk1];simp [bA]);have htl:=HTL.out;rw [<- HRT.out,Nat.zero_mul,List.drop_zero] at htl;have hown_lt:∀ b,(Value.slice A12 k2 c12).ownBlock=some b->wo.heap.size<=b∧b<wq.heap.size:=fun b hb=>⟨HOWN.out.block_ge hb,HOWN.out.block_lt hb⟩
       have HOL:=aYl hown_lt;have HEQ:=aYl (show Ext wq wr from Fr.new_ext ((Fr.of_ext HEK.out).trans HFR3.out) (fun b hb=>by omega));have HVR:=aYl (oP (Q:=fun b=>((g'.Q b∧b<wo.heap.size)∨wo.heap.size<=b)∧some b ≠ (Value.slice A12 k2 c12).ownBlock) HBK3.out htl HROW.out U ⟨.inr U,fun e=>by have:=hown_lt _ e.symm;omega⟩ (fun b h=>⟨.inl h,fun e=>by have h3:=hown_lt _ e.symm;have:=h.2;omega⟩));have HVM:=aYl (VAt.made HNM.out HVR.out);have HMC:=aYl (jT x a b o row (some ⟨wq.heap.size,0,none⟩) x.kids.length wr (HNC2.out.ext HEW.out));rw [HROW.out] at HMC;clear hkk hk1 htl hown_lt;go_wp2_with fail;refine HMC.out.mono ?_;rintro e w5 ⟨rfl,hx5⟩;have HX5:=aYl (HEQ.out.trans' hx5);have HVM5:=aYl (HVM.out.ext hx5);have hs5:=hx5.size;clear hx5;generalize bW x.name row=mv at *;go_wp2_with (at_builtin;go_must (refine aK _ rfl (.tmp 90) (.tmp 94) 83 al wo.heap.size 85 i0 _ 4 56 Tryz.underlying83 HI.out hz0 hz1 hz2 rfl U (.slice A12 k2 c12) _ _ rfl ((HOWN.out.ext_ HX5.out).alloc _) (fun _=>True) (some ⟨w5.heap.size,0,none⟩) 1 1 [.int .i64 mv.kind,.int .i64 mv.n,.string mv.s,.slice (some ⟨wq.heap.size,0,none⟩) mv.kids.length x.kids.length] rfl (Sl.new w5 _ _ _ _ rfl) af U U ab ?_);intro v6 w6 ho6 hf6 hb6)
       go_roundw
       case rel =>
        refine ⟨k2+1,_,U,by go_num,ho6,?_,?_⟩
        ·rw [HTK.out]
         exact wJ HOWN.out HRV.out HX5.out HVM5.out hf6 hb6
        ·exact Fr.new_ext (((Fr.of_ext (HX2.out.trans' HX5.out)).alloc _).trans hf6) (fun b hb=>(HOL.out b hb.symm).1)
       case measure=>simp [intOf];omega
      ·obtain rfl:ii=(q:Int):=by omega
       clear hii;have hql:q<lss.length:=by have:=HLN.out;omega
       have HSUC:=aYl (nQ hql);have hll:=HLS.out _ (aF (d:=[]) hql);obtain ⟨Al,cl',hce,hvl⟩:=HATN.out.at_ q U;have HVL:=aYl (hvl.ext HEW.out);have gl0:=(HB.out.ext HEW.out).cell' (u:=.slice Al (lss.getD q []).length cl') q (by simpa using hce);have HKK:=aYl (show kk<(bA (lss.take q)).length*(lss.getD q []).length by rw [<- gE,<- HSUC.out];exact hkk);clear hce hvl hkk;generalize lss.getD q []=l at *;have hmod:kk % l.length<l.length:=Nat.mod_lt _ U;obtain ⟨bl,ol,A4,d4,rfl,-,hvv,g0,g1,g2,g3⟩:=HVL.out.get hmod;have HVV:=aYl hvv;have HGD:=aYl (show row=(bA (lss.take q)).getD (kk / l.length) [] ++ (l.getD (kk % l.length) default :: tail) by rw [HROW3.out,HSUC.out,aB0 _ _ _ HKK.out];simp);have HKD:=aYl (show kk / l.length<(bA (lss.take q)).length from Nat.div_lt_of_lt_mul (by rw [Nat.mul_comm];exact HKK.out));clear hvv;generalize l.getD (kk % l.length) default=v at *;have hcl:=HCS.out;have z0:=HBK3.out.cell' (u:=cs.getD (q*4) default) (q*4) (by simp [show q*4<cs.length by omega]);have z1:=HBK3.out.cell' (u:=cs.getD (q*4+1) default) (q*4+1) (by simp [show q*4+1<cs.length by omega]);have z2:=HBK3.out.cell' (u:=cs.getD (q*4+2) default) (q*4+2) (by simp [show q*4+2<cs.length by omega])
       have z3:=HBK3.out.cell' (u:=cs.getD (q*4+3) default) (q*4+3) (by simp [show q*4+3<cs.length by omega]);have y0:=HBK3.out.frozen (q*4);have y1:=HBK3.out.frozen (q*4+1);have y2:=HBK3.out.frozen (q*4+2);have y3:=HBK3.out.frozen (q*4+3);clear hcl;have hq0:(0:Int)<=(q:Int):=by omega
       have hq1:(q:Int)<(x.kids.length:Int):=U
       have hle:¬ l=[]:=fun e=>by rw [e] at hll;simp at hll
       have hm0:(0:Int)<=Int.tmod (kk:Int) (l.length:Int):=by rw [<- Int.ofNat_tmod];omega
       have hm1:Int.tmod (kk:Int) (l.length:Int)<(l.length:Int):=by rw [<- Int.ofNat_tmod];omega
       have hmt:(Int.tmod (kk:Int) (l.length:Int)).toNat=kk % l.length:=by rw [<- Int.ofNat_tmod];rfl
       go_upto_region 22 with fail;go_still_tail 16,aa;clear hmt;go_wp2_with fail;go_roundw
       case rel =>
        rw [aHp hkb];exact aB5 HBK3.out HCS.out HTL.out HGD.out HKD.out (Nat.le_trans (Nat.div_le_self _ _) hkb) HTR.out HFR3.out HVV.out (fun h=>by have:=h.2;omega)
       case measure=>simp [intOf];try omega
    ·have HTR:=aYl (show (bA lss).take k2=bA lss from List.take_of_length_le U)
     have hkr:k2=(bA lss).length:=U
     have HKR2:=aYl hkr;clear hkr;go_wp2_with fail;go_ret2;rw [HRES.out];have ho:=HOWN.out;have hr:=HRV.out;rw [HTR.out] at hr;have hmk:((bA lss).map (bW x.name)).length=k2:=by rw [List.length_map,HKR2.out]
     refine ⟨A12,c12,by rw [hmk];rfl,?_,?_,?_⟩
     ·rw [hmk]
      refine bV.of_own (ho.len_cast hmk.symm rfl) (RVs.carry (fun _ _ _=>rfl) (fun b hb h=>?_) hr) (by rw [hmk];omega) (fun b hb=>HS.out.newQ (by have:=ho.block_ge hb;omega));rcases h.1 with h1 | h1
      ·exact (HGQ.out b h1.1).1
      ·exact HS.out.newQ U
     ·exact HFR.out.trans (Fr.of_ext HX2.out)
     ·exact HLESS.out _ (HSR.out.ext HX2.out)
end Go.Proofs.YtkoeecdjijfjnaaGreat
