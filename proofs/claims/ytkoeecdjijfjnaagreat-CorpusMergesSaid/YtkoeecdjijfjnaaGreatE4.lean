/- Contracts of functions, plain laws. Conditions: none. -/
import Derived.Test.YtkoeecdjijfjnaaGreatD7
set_option maxRecDepth 100000
set_option maxHeartbeats 8000000
namespace Go.Proofs.YtkoeecdjijfjnaaGreat
open Go.RowKit
theorem jL (x:GN)(a:NA)(b o:Nat)(kids:List GV)(A:Option Addr)(c:Nat)(w:World)(hn:bX w b o x a) :
  Calls Tryz.prog 97 #[.pointer (some ⟨b,o,none⟩),.slice A kids.length c] w fun e w'=>e=.returned (dS (bZ x.name kids) A c)∧Ext w w':=by
 have c1:=hn.c1;have lb:=hn.lt;clear hn
 by_cases he:x.name.toList=[]
 ·have he1:x.name.toList.isEmpty=true:=by simp [he]
  have HM:=aZv (show bZ x.name kids=.mk 2 0 ByteArray.empty kids by unfold bZ aY;rw [he1];rfl);go_enter Tryz.func97,Tryz.ntmps97;go_wp2_with fail;rw [HM.out];exact bodyPost_ret (v:=.agg #[.int .i64 2,.int .i64 0,.string ByteArray.empty,.slice A kids.length c]) (by simp [results,Tryz.results97,go_sem];rfl) rfl ⟨rfl,(Ext.refl _).alloc' _⟩
 ·have he1:x.name.toList.isEmpty=false:=by simpa using he
  have HM:=aZv (show bZ x.name kids=.mk 3 0 x.name kids by unfold bZ aY;rw [he1];rfl);go_enter Tryz.func97,Tryz.ntmps97;go_wp2_with fail;rw [HM.out];exact bodyPost_ret (v:=.agg #[.int .i64 3,.int .i64 0,.string x.name,.slice A kids.length c]) (by simp [results,Tryz.results97,go_sem]) rfl ⟨rfl,(Ext.refl _).alloc' _⟩
theorem oS (x:GN)(a:NA)(b o:Nat)(w:World)(hn:bX w b o x a) :
  Calls Tryz.prog 147 #[.pointer (some ⟨b,o,none⟩)] w (aLj (.int .i64 (aR x)) w):=by
 have HO:=aZv (show aR x=if x.kind=1 then wrap64 (wrap64 (x.hi - x.lo)+1) else x.kids.length from rfl);have c0:=hn.c0;have c2:=hn.c2;have c3:=hn.c3;have c7:=hn.c7;clear hn
 by_cases hk:x.kind=1
 ·have t1:(x.kind == 1)=true:=aZx hk
  have HK:=aZv hk;clear hk;go_enter Tryz.func147,Tryz.ntmps147;go_wp2_with fail;go_quiet (fail);go_wp2_with fail;go_ret;refine ⟨aL ?_,_,rfl⟩;rw [HO.out,if_pos HK.out]
 ·have t1:(x.kind == 1)=false:=aZw hk
  have HK:=aZv hk;clear hk;go_enter Tryz.func147,Tryz.ntmps147;go_wp2_with fail;go_ret;exact ⟨aL (by rw [HO.out,if_neg HK.out]),0,rfl⟩
def aP1 (ls:List Int)(x:GN)(ch:Bool)(W:World)(s m i:Value)(wr:World):Prop :=
 ∃ (k:Nat) (s1 m1:Int),k<=x.kids.length∧i=↑k∧s=↑s1∧m=↑m1∧W=wr ∧
  bV ls 0 x.kids=bV ls s1 (x.kids.drop k)∧aK ls ch 0 0 x.kids=aK ls ch k m1 (x.kids.drop k)
theorem kN (ls:List Int)(x:GN)(a:NA)(b o:Nat)(P Q:Nat->Prop)(vl:Value)(w:World)(hn:bX w b o x a)(hx:NAt w P x a)(hl:bM w Q vl ls)(hok:dL ls.length x) :
  Calls Tryz.prog 96 #[.pointer (some ⟨b,o,none⟩),vl] w fun e w'=>e=.returned (.int .i64 (fN ls x))∧w=w':=by
 have HL:=aZv hl;have hki:=hx.kids;have HK:=aZv hok.kids;have hkd:=hok.kind;have HBD:=aZv (show x.kind=4->0<x.kids.length from fun h=>by have:=hok.bind h;omega);obtain ⟨Al,cl,el,hl1,hl2⟩:=hl.form;subst el;obtain ⟨hkl1,hkl2⟩:=hx.kids.le;have c0:=hn.c0;have c7:=hn.c7;have HLR:=aZv (show fN ls x=if x.kind=0 then 0 else if x.kind=1 then 1 else if x.kind=3 then bV ls 0 x.kids else if x.kind=2 then wrap64 (1+aK ls true 0 0 x.kids) else wrap64 (ls.getD (x.kids.getD 0 0).toNat 0+aK ls false 0 0 x.kids) from rfl);clear hx hl hok hn;generalize a.kA=Ak at *;generalize a.kc=kc at *;have HX:=aZv hki;clear hki;obtain ⟨ch,hch⟩:∃ ch:Bool,ch=decide (x.kind=2):=⟨_,rfl⟩;have HCH:=aZv hch;have t2:(x.kind == 2)=ch:=by rw [hch];exact rfl
 clear hch;go_enter Tryz.func96,Tryz.ntmps96;go_wp2_with fail;go_loopw [5,6,14] (fun s m i wr=>aP1 ls x ch w s m i wr) (fun _ _ i _=>x.kids.length - (intOf i).toNat)
 case atStart=>exact ⟨0,0,0,Nat.zero_le _,rfl,rfl,rfl,rfl,rfl,rfl⟩
 case round =>
  obtain ⟨k,s1,m1,hk,rfl,rfl,rfl,rfl,hs,hm⟩:=hrel;have HS:=aZv hs;have HM:=aZv hm;clear hs hm
  by_cases hlt:k<x.kids.length
  ·obtain ⟨b1,o1,rfl,-,-,g1⟩:=HX.out.get hlt
   have hz:=HK.out _ (aD (d:=0) hlt);have HD1:=aZv (HS.out.trans (by rw [aF 0 hlt,bV]));have HD2:=aZv (show aK ls ch 0 0 x.kids=aK ls ch (k+1) (if ch=true∨0<k then (if m1<ls.getD (x.kids.getD k 0).toNat 0 then ls.getD (x.kids.getD k 0).toNat 0 else m1) else m1) (x.kids.drop (k+1)) by rw [HM.out,aF 0 hlt,aK]);generalize x.kids.getD k 0=z at *;obtain ⟨b2,o2,rfl,-,-,g2⟩:=HL.out.get (i:=z.toNat) D;generalize ls.getD z.toNat 0=y at *
   by_cases hk0:0<k
   ·have tk:decide (0<(k:Int))=true:=aZy D
    go_wp2_with fail
    all_goals
     go_roundw
     case rel=>exact ⟨k+1,_,_,D,by go_num,rfl,rfl,rfl,HD1.out,by rw [HD2.out,if_pos (.inr hk0)];try (first | rw [if_pos aw] | rw [if_neg D])⟩
     case measure=>simp [intOf];omega
   ·have tk:decide (0<(k:Int))=false:=aZz D
    cases ch
    ·go_wp2_with fail
     go_roundw
     case rel=>exact ⟨k+1,_,_,D,by go_num,rfl,rfl,rfl,HD1.out,by rw [HD2.out,if_neg aa]⟩
     case measure=>simp [intOf];omega
    ·go_wp2_with fail
     all_goals
      go_roundw
      case rel=>exact ⟨k+1,_,_,D,by go_num,rfl,rfl,rfl,HD1.out,by rw [HD2.out,if_pos (.inl rfl)];try (first | rw [if_pos aw] | rw [if_neg D])⟩
      case measure=>simp [intOf];omega
  ·have HS2:=aZv (show bV ls 0 x.kids=s1 by rw [HS.out,drop_nil D,bV])
   have HM2:=aZv (show aK ls ch 0 0 x.kids=m1 by rw [HM.out,drop_nil D,aK]);clear t2
   by_cases k0:x.kind=0
   ·have t0:(x.kind == 0)=true:=aZx k0
    have t1:(x.kind == 1)=false:=aZw D;have t2:(x.kind == 2)=false:=aZw D;have t3:(x.kind == 3)=false:=aZw D;have t4:(x.kind == 4)=false:=aZw D;have HF:=aZv (show fN ls x=0 by rw [HLR.out,if_pos k0]);clear k0;go_wp2_with fail;go_ret;exact ⟨aL HF.out.symm,rfl⟩
   by_cases k1:x.kind=1
   ·have t1:(x.kind == 1)=true:=aZx k1
    have HF:=aZv (show fN ls x=1 by rw [HLR.out,if_neg k0,if_pos k1]);clear k1 k0;go_wp2_with fail;go_ret;exact ⟨aL HF.out.symm,rfl⟩
   have t1:(x.kind == 1)=false:=aZw k1
   by_cases k2:x.kind=2
   ·have t2:(x.kind == 2)=true:=aZx k2
    have HF:=aZv (show fN ls x=wrap64 (1+m1) by rw [HLR.out,if_neg k0,if_neg k1,if_neg D,if_pos k2,<- HM2.out,HCH.out,aZy k2]);clear k2 k1 k0;go_wp2_with fail;go_ret;exact ⟨aL HF.out.symm,rfl⟩
   have t2:(x.kind == 2)=false:=aZw k2
   by_cases k3:x.kind=3
   ·have t3:(x.kind == 3)=true:=aZx k3
    have HF:=aZv (show fN ls x=s1 by rw [HLR.out,if_neg k0,if_neg k1,if_pos k3,HS2.out]);clear k3 k2 k1 k0;go_wp2_with fail;go_ret;exact ⟨aL HF.out.symm,rfl⟩
   have t3:(x.kind == 3)=false:=aZw k3;have k4:x.kind=4:=by omega
   have t4:(x.kind == 4)=true:=aZx k4;have hkp:=HBD.out k4;have HF:=aZv (show fN ls x=wrap64 (ls.getD (x.kids.getD 0 0).toNat 0+m1) by rw [HLR.out,if_neg k0,if_neg k1,if_neg k3,if_neg k2,<- HM2.out,HCH.out,aZz k2]);obtain ⟨b1,o1,rfl,-,-,g1⟩:=HX.out.get hkp;rw [Nat.add_zero] at g1;have hz:=HK.out _ (aD (d:=0) hkp);generalize x.kids.getD 0 0=z at *;obtain ⟨b2,o2,rfl,-,-,g2⟩:=HL.out.get (i:=z.toNat) D;have hk1:(0:Int)<(x.kids.length:Int):=by omega
   generalize ls.getD z.toNat 0=y at *;clear k4 k3 k2 k1 k0;go_wp2_with fail;go_ret;exact ⟨aL HF.out.symm,rfl⟩
def dQ:List GV->List GV->List GV
 | [],b=>b
 | x :: xs,[]=>x :: xs
 | x :: xs,y :: ys=>if cE x y<0 then x :: dQ xs (y :: ys) else if cE x y=0 then x :: dQ xs ys else y :: dQ (x :: xs) ys
termination_by a b=>a.length+b.length
decreasing_by all_goals (simp only [List.length_cons];omega)
theorem eW (b:List GV):dQ [] b=b:=by simp [dQ]
theorem mH (a:List GV):dQ a []=a:=by cases a <;> simp [dQ]
theorem kR (x y:GV)(xs ys:List GV):dQ (x :: xs) (y :: ys)=if cE x y<0 then x :: dQ xs (y :: ys) else if cE x y=0 then x :: dQ xs ys else y :: dQ (x :: xs) ys:=by rw [dQ]
theorem fI:∀ (a b:List GV)(z:GV),z ∈ dQ a b ↔ z ∈ a∨z ∈ b
 | [],b,z=>by simp [eW]
 | x :: xs,[],z=>by simp [mH]
 | x :: xs,y :: ys,z=>by
  rw [kR]
  split
  ·rw [List.mem_cons,fI xs (y :: ys) z];simp only [List.mem_cons]
   constructor
   ·rintro (h | h | (h | h))
    ·exact .inl (.inl h)
    ·exact .inl (.inr h)
    ·exact .inr (.inl h)
    ·exact .inr (.inr h)
   ·rintro ((h | h) | (h | h))
    ·exact .inl h
    ·exact .inr (.inl h)
    ·exact .inr (.inr (.inl h))
    ·exact .inr (.inr (.inr h))
  ·split
   ·next h0 =>
    have e:=fT x y h0;subst e;rw [List.mem_cons,fI xs ys z];simp only [List.mem_cons]
    constructor
    ·rintro (h | h | h)
     ·exact .inl (.inl h)
     ·exact .inl (.inr h)
     ·exact .inr (.inr h)
    ·rintro ((h | h) | (h | h))
     ·exact .inl h
     ·exact .inr (.inl h)
     ·exact .inl h
     ·exact .inr (.inr h)
   ·rw [List.mem_cons,fI (x :: xs) ys z];simp only [List.mem_cons]
    constructor
    ·rintro (h | (h | h) | h)
     ·exact .inr (.inl h)
     ·exact .inl (.inl h)
     ·exact .inl (.inr h)
     ·exact .inr (.inr h)
    ·rintro ((h | h) | (h | h))
     ·exact .inr (.inl (.inl h))
     ·exact .inr (.inl (.inr h))
     ·exact .inl h
     ·exact .inr (.inr h)
termination_by a b=>a.length+b.length
decreasing_by all_goals (simp only [List.length_cons];omega)
theorem iI:∀ (a b:List GV),Inc a->Inc b->Inc (dQ a b)
 | [],b,_,hb=>by rw [eW];exact hb
 | x :: xs,[],ha,_=>by rw [mH];exact ha
 | x :: xs,y :: ys,ha,hb=>by
  have ha':=List.pairwise_cons.1 ha;have hb':=List.pairwise_cons.1 hb;rw [kR]
  split
  ·next h =>
   refine List.pairwise_cons.2 ⟨fun z hz=>?_,iI xs (y :: ys) ha'.2 hb⟩;rcases (fI xs (y :: ys) z).1 hz with hz | hz
   ·exact ha'.1 z hz
   ·rcases List.mem_cons.1 hz with rfl | hz
    ·exact h
    ·exact ltV.tr h (hb'.1 z hz)
  ·split
   ·next h0 =>
    have e:=fT x y h0;subst e;refine List.pairwise_cons.2 ⟨fun z hz=>?_,iI xs ys ha'.2 hb'.2⟩;rcases (fI xs ys z).1 hz with hz | hz
    ·exact ha'.1 z hz
    ·exact hb'.1 z hz
   ·next h h0 =>
    have hyx:ltV y x:=by unfold ltV;have:=jR x y;omega
    refine List.pairwise_cons.2 ⟨fun z hz=>?_,iI (x :: xs) ys ha hb'.2⟩;rcases (fI (x :: xs) ys z).1 hz with hz | hz
    ·rcases List.mem_cons.1 hz with rfl | hz
     ·exact hyx
     ·exact hyx.tr (ha'.1 z hz)
    ·exact hb'.1 z hz
termination_by a b=>a.length+b.length
decreasing_by all_goals (simp only [List.length_cons];omega)
theorem yH {a b:List GV}(ha:Inc a)(hb:Inc b):dQ a b=eO (a ++ b) :=
 Inc.ext (iI a b ha hb) (jF _) (fun z=>by rw [fI,eR,List.mem_append])
def aW9 (P:Nat->Prop)(l:List GV)(w:World)(e:Ending)(w':World):Prop :=
 ∃ A c,e=.returned (.slice A l.length c)∧bW w' (New P w.heap.size) (.slice A l.length c) l∧Ext w w'
theorem bW.tail {w:World}{P:Nat->Prop}{b off c:Nat}{x:GV}{l:List GV}(h:bW w P (.slice (some ⟨b,off,none⟩) (l.length+1) c) (x :: l)):bW w P (.slice (some ⟨b,off+4,none⟩) l.length (c - 1)) l:=by
 obtain ⟨A,c',css,e,h1,h2,h3,h4⟩:=h;injection e with e1 e2 e3;subst e1 e3;have h5:=h3.drop (k:=1) U;have h6:=h4.drop 1;simp only [List.drop_succ_cons,List.drop_zero,Nat.one_mul,List.length_cons,Nat.add_sub_cancel] at h5 h6;simp only [List.length_cons] at h1 h2;exact ⟨_,c - 1,_,rfl,D,D,h5,h6⟩
theorem bW.nil_any (w:World)(P:Nat->Prop)(A:Option Addr)(c:Nat)(hc:c<=9223372036854775807):bW w P (.slice A 0 c) []:=⟨A,c,[],rfl,U,⟨U,hc⟩,⟨rfl,fun h=>absurd h U⟩,rfl⟩
def aJm (a b:List GV)(P:Nat->Prop)(w:World)(B:Nat)(v0 v1 v5:Value)(wr:World):Prop :=
 ∃ (a' b' out:List GV) (xs:List Value),bW wr P v0 a'∧bW wr P v1 b'∧wr.ownsRow B 85 4 v5 out.length xs∧RVs wr P out xs∧Ext w wr∧out.length+a'.length+b'.length<=a.length+b.length∧dQ a b=out ++ dQ a' b'
theorem aBt (a b:List GV)(P:Nat->Prop)(va vb:Value)(w:World)(ha:bW w P va a)(hb:bW w P vb b)(hla:a.length<=100000)(hlb:b.length<=100000)(hP:∀ b,P b->b<w.heap.size) :
  Calls Tryz.prog 217 #[va,vb] w (aW9 P (dQ a b) w):=by
 have HA:=aZv ha;have HB:=aZv hb;have HPP:=aZv hP;obtain ⟨Aa,ca,ea,ha1,ha2⟩:=ha.form;obtain ⟨Ab,cb,eb,hb1,hb2⟩:=hb.form;subst ea eb;clear ha hb hP;obtain ⟨i0,hi,hz0,hz1,hz2⟩:=info_parts Tryz.info85;have HI:=aZv hi
 by_cases h0:a.length=0
 ·have hnil:a=[]:=List.length_eq_zero_iff.1 h0
  have HQ:=aZv (show dQ a b=b by rw [hnil,eW]);have t0:((a.length:Int) == 0)=true:=aZx D;have t1:(a.length == 0)=true:=aZx h0;have hle:¬ 0<a.length:=by omega
  clear hi hnil h0;go_enter Tryz.func217,Tryz.ntmps217;go_wp2_with fail;go_ret;rw [HQ.out];exact ⟨Ab,cb,rfl,HB.out.imp (fun _ _ h=>.inl h),Ext.refl _⟩
 have t0:((a.length:Int) == 0)=false:=aZw D;have t1:(a.length == 0)=false:=aZw h0
 have hmk:∀ W:World,(Instr.makeSlice 83 (.int .i64 0) (.int .i64 ((a.length:Int)+(b.length:Int)))).run Tryz.prog W=.ok (.slice (some ⟨W.heap.size,0,none⟩) 0 (a.length+b.length)) (W.alloc (.cells (madeCells (Value.agg #[.int .i64 0,.int .i64 0,.string ByteArray.empty,.slice none 0 0]).cells ((a.length+b.length)*4)) 85)):=by
  intro W;have h:=run_make (P:=Tryz.prog) W 83 85 i0 _ Tryz.underlying83 hi hz0 .i64 .i64 0 ((a.length:Int)+(b.length:Int)) (Int.le_refl _) D du D;rw [hz1] at h;rw [h];have e:((a.length:Int)+(b.length:Int)).toNat=a.length+b.length:=by omega
  rw [e]
  rfl
 clear hi h0;go_enter Tryz.func217,Tryz.ntmps217;go_wp2_with fail;have HOW:=aZv (World.ownsRow_made (base:=w.heap.size) (e:=85) (size:=4) w (madeCells #[.int .i64 0,.int .i64 0,.string ByteArray.empty,.slice none 0 0] ((a.length+b.length)*4)) (a.length+b.length) (Nat.le_refl _) aq (size_madeCells _ _));have HE:=aZv (show Ext w (w.alloc (.cells (madeCells #[.int .i64 0,.int .i64 0,.string ByteArray.empty,.slice none 0 0] ((a.length+b.length)*4)) 85)) from (Ext.refl w).alloc' _);generalize hW:w.alloc (.cells (madeCells #[.int .i64 0,.int .i64 0,.string ByteArray.empty,.slice none 0 0] ((a.length+b.length)*4)) 85)=W at *;clear hW hmk;go_loopw [0,1,5] (fun v0 v1 v5 wr=>aJm a b P w w.heap.size v0 v1 v5 wr) (fun v0 v1 _ _=>lenOf v0+lenOf v1)
 case atStart=>exact ⟨a,b,[],[],HA.out.ext HE.out,HB.out.ext HE.out,HOW.out,rfl,HE.out,U,rfl⟩
 case round =>
  obtain ⟨a',b',out,xs,hva,hvb,hown,hrv,hx,hle,hmv⟩:=hrel;have HVA:=aZv hva;have HVB:=aZv hvb;have HOWN:=aZv hown;have HRV:=aZv hrv;have HX:=aZv hx;have HMV:=aZv hmv;obtain ⟨A0,c0,e0,h01,h02⟩:=hva.form;obtain ⟨A1,c1,e1,h11,h12⟩:=hvb.form;obtain ⟨A5,c5,e5,-,-,-⟩:=Sl.of_own hown;subst e0 e1 e5;have hsz:=hx.size;clear hva hvb hown hrv hx hmv;rcases a' with _ | ⟨x,xs'⟩
  ·skip
   have HM2:=aZv (HMV.out.trans (by rw [eW]));obtain ⟨s0,hs0,hr0⟩:=HVA.out.slice_parts;obtain ⟨s1,hs1,hr1⟩:=HVB.out.slice_parts;have HS0:=aZv hs0;have HR0:=aZv hr0;have HS1:=aZv hs1;have HR1:=aZv hr1;clear hs0 hr0 hs1 hr1;simp only [List.length_nil,List.length_cons] at hle h01 h02 h11 h12
   go_wp2_with (first
    | (at_builtin;refine aM _ rfl (.tmp 52) (.tmp 53) 83 ac w.heap.size 85 i0 _ 4 56 Tryz.underlying83 HI.out hz0 hz1 hz2 rfl D (.slice A5 out.length c5) _ _ rfl HOWN.out P A0 [].length c0 s0 rfl HS0.out HR0.out.oneCell aa aa D ?_;intro v6 w6 ho6 hbl6)
    | (at_builtin;refine aM _ rfl (.tmp 54) (.tmp 55) 83 ac w.heap.size 85 i0 _ 4 56 Tryz.underlying83 HI.out hz0 hz1 hz2 rfl D v6 _ _ rfl ho6 P A1 b'.length c1 s1 rfl (HS1.out.carry D (aB.of_below hbl6 HPP.out) (fun _ _ h=>h)) HR1.out.oneCell aa aa (by have:=hbl6.size;omega) ?_;intro v7 w7 ho7 hbl7))
   have hbw:Below w.heap.size wr w7:=hbl6.trans hbl7;have hk:aB P wr w7:=aB.of_below hbw HPP.out;have hrv7:=RVs.append (RVs.append (RVs.carry (Q:=P) hk (fun _ _ h=>h) HRV.out) (RVs.carry (Q:=P) hk (fun _ _ h=>h) HR0.out)) (RVs.carry (Q:=P) hk (fun _ _ h=>h) HR1.out);have hv7:bW w7 (New P w.heap.size) v7 (out ++ [] ++ b'):=bW.of_own (ho7.len_cast U rfl) (RVs.carry (fun _ _ _=>rfl) (fun _ _ h=>.inl h) hrv7) aa (fun b hb=>.inr (ho7.block_ge hb));obtain ⟨A7,c7,e7,-,-⟩:=hv7.form;subst e7;have HV7:=aZv hv7;have HX7:=aZv (HX.out.trans hbw);clear hv7 hrv7 hk hbw ho6 ho7 hbl6 hbl7;go_ret;have e:dQ a b=out ++ [] ++ b':=HM2.out.trans U;rw [e];exact ⟨A7,c7,rfl,HV7.out,HX7.out⟩
  rcases b' with _ | ⟨y,ys'⟩
  ·skip
   have HM2:=aZv (HMV.out.trans (by rw [mH]));obtain ⟨s0,hs0,hr0⟩:=HVA.out.slice_parts;obtain ⟨s1,hs1,hr1⟩:=HVB.out.slice_parts;have HS0:=aZv hs0;have HR0:=aZv hr0;have HS1:=aZv hs1;have HR1:=aZv hr1;clear hs0 hr0 hs1 hr1;simp only [List.length_nil,List.length_cons] at hle h01 h02 h11 h12
   go_wp2_with (first
    | (at_builtin;refine aM _ rfl (.tmp 52) (.tmp 53) 83 ac w.heap.size 85 i0 _ 4 56 Tryz.underlying83 HI.out hz0 hz1 hz2 rfl D (.slice A5 out.length c5) _ _ rfl HOWN.out P A0 (x :: xs').length c0 s0 rfl HS0.out HR0.out.oneCell aa aa D ?_;intro v6 w6 ho6 hbl6)
    | (at_builtin;refine aM _ rfl (.tmp 54) (.tmp 55) 83 ac w.heap.size 85 i0 _ 4 56 Tryz.underlying83 HI.out hz0 hz1 hz2 rfl D v6 _ _ rfl ho6 P A1 [].length c1 s1 rfl (HS1.out.carry D (aB.of_below hbl6 HPP.out) (fun _ _ h=>h)) HR1.out.oneCell aa aa (by have:=hbl6.size;omega) ?_;intro v7 w7 ho7 hbl7))
   have hbw:Below w.heap.size wr w7:=hbl6.trans hbl7;have hk:aB P wr w7:=aB.of_below hbw HPP.out;have hrv7:=RVs.append (RVs.append (RVs.carry (Q:=P) hk (fun _ _ h=>h) HRV.out) (RVs.carry (Q:=P) hk (fun _ _ h=>h) HR0.out)) (RVs.carry (Q:=P) hk (fun _ _ h=>h) HR1.out);have hv7:bW w7 (New P w.heap.size) v7 (out ++ (x :: xs') ++ []):=bW.of_own (ho7.len_cast U rfl) (RVs.carry (fun _ _ _=>rfl) (fun _ _ h=>.inl h) hrv7) aa (fun b hb=>.inr (ho7.block_ge hb));obtain ⟨A7,c7,e7,-,-⟩:=hv7.form;subst e7;have HV7:=aZv hv7;have HX7:=aZv (HX.out.trans hbw);clear hv7 hrv7 hk hbw ho6 ho7 hbl6 hbl7;go_ret;have e:dQ a b=out ++ (x :: xs') ++ []:=HM2.out.trans U;rw [e];exact ⟨A7,c7,rfl,HV7.out,HX7.out⟩
  simp only [List.length_cons] at hle h01 h02 h11 h12;obtain ⟨b0,o0,A2,d2,rfl,-,hvx,g00,g01,g02,g03⟩:=HVA.out.get (i:=0) U;obtain ⟨b1,o1,A3,d3,rfl,-,hvy,g10,g11,g12,g13⟩:=HVB.out.get (i:=0) U;simp only [Nat.zero_mul,Nat.add_zero,List.getD_cons_zero,List.length_cons] at g00 g01 g02 g03 g10 g11 g12 g13 hvx hvy;have HVX:=aZv hvx;have HVY:=aZv hvy;have HTA:=aZv (bW.tail HVA.out);have HTB:=aZv (bW.tail HVB.out);have HMC:=aZv (HMV.out.trans (congrArg (out ++ ·) (kR x y xs' ys')));clear hvx hvy;have hl0:(0:Int)<(xs'.length:Int)+1:=by omega
  have hl1:(0:Int)<(ys'.length:Int)+1:=D
  go_wp2_with fail;go_still_tail 6,Y;go_wp2_with fail;refine (bB x y A2 A3 d2 d3 P P _ (HVX.out.ext (Ext.refl _).drew') (HVY.out.ext (Ext.refl _).drew')).mono ?_;rintro e w1 ⟨rfl,hx1⟩;have HX1:=aZv ((Ext.refl wr).drew'.trans' hx1);have hs1:=hx1.size;have k00:=aA HX1.out g00;have k01:=aA HX1.out g01;have k02:=aA HX1.out g02;have k03:=aA HX1.out g03;have k10:=aA HX1.out g10;have k11:=aA HX1.out g11;have k12:=aA HX1.out g12;have k13:=aA HX1.out g13;have lb0:=aN k00;have lb1:=aN k10;clear hx1 g00 g01 g02 g03 g10 g11 g12 g13;generalize cE x y=cv at *;have HO1:=aZv (HOWN.out.ext_ HX1.out);have HRV1:=aZv (RVs.carry (Q:=P) (aB.of_ext HX1.out) (fun _ _ h=>h) HRV.out);have hsw:w.heap.size<=w1.heap.size:=by have:=HX1.out.size;omega
  by_cases hneg:cv<0
  ·have t1:decide (cv<=0)=true:=aZy D
   have t2:decide (0<=cv)=false:=aZz D;have HM2:=aZv (HMC.out.trans (by rw [if_pos hneg]))
   by_cases hc0:c0=1
   ·skip
    subst hc0;obtain rfl:xs'=[]:=List.length_eq_zero_iff.1 D;go_wp2_with (at_builtin;go_must (refine aM _ rfl (.tmp 34) (.tmp 38) 83 ac w.heap.size 85 i0 _ 4 56 Tryz.underlying83 HI.out hz0 hz1 hz2 rfl D (.slice A5 out.length c5) _ _ rfl (HO1.out.alloc _) (fun _=>True) (some ⟨w1.heap.size,0,none⟩) 1 1 [.int .i64 x.kind,.int .i64 x.n,.string x.s,.slice A2 x.kids.length d2] rfl (Sl.new w1 _ _ _ _ rfl) af D D aa ?_);intro v6 w6 ho6 hbl6);go_roundw
    case rel =>
     have hbw:Below w.heap.size wr w6:=((HX1.out.mono hsz).alloc hsw _).trans hbl6;have hk:aB P wr w6:=aB.of_below hbw HPP.out;refine ⟨[],(y :: ys'),out ++ [x],_,bW.nil_any _ _ _ _ D,HVB.out.carry hk (fun _ _ h=>h),ho6.len_cast U rfl,RVs.append (RVs.carry hk (fun _ _ h=>h) HRV.out) (RVs.one ((HVX.out.carry hk (fun _ _ h=>h)).rv)),HX.out.trans hbw,aa,dr⟩
    case measure=>simp [lenOf];try omega
   ·skip
    go_wp2_with (at_builtin;go_must (refine aM _ rfl (.tmp 34) (.tmp 38) 83 ac w.heap.size 85 i0 _ 4 56 Tryz.underlying83 HI.out hz0 hz1 hz2 rfl D (.slice A5 out.length c5) _ _ rfl (HO1.out.alloc _) (fun _=>True) (some ⟨w1.heap.size,0,none⟩) 1 1 [.int .i64 x.kind,.int .i64 x.n,.string x.s,.slice A2 x.kids.length d2] rfl (Sl.new w1 _ _ _ _ rfl) af D D aa ?_);intro v6 w6 ho6 hbl6);go_roundw
    case rel =>
     have hbw:Below w.heap.size wr w6:=((HX1.out.mono hsz).alloc hsw _).trans hbl6;have hk:aB P wr w6:=aB.of_below hbw HPP.out;refine ⟨xs',(y :: ys'),out ++ [x],_,HTA.out.carry hk (fun _ _ h=>h),HVB.out.carry hk (fun _ _ h=>h),ho6.len_cast U rfl,RVs.append (RVs.carry hk (fun _ _ h=>h) HRV.out) (RVs.one ((HVX.out.carry hk (fun _ _ h=>h)).rv)),HX.out.trans hbw,aa,dr⟩
    case measure=>simp [lenOf];try omega
  by_cases hzero:cv=0
  ·have t1:decide (cv<=0)=true:=aZy D
   have t2:decide (0<=cv)=true:=aZy D;have HM2:=aZv (HMC.out.trans (by rw [if_neg hneg,if_pos hzero]));clear hzero
   by_cases hc0:c0=1
   ·by_cases hc1:c1=1
    ·skip
     subst hc0;obtain rfl:xs'=[]:=List.length_eq_zero_iff.1 D;subst hc1;obtain rfl:ys'=[]:=List.length_eq_zero_iff.1 D;go_wp2_with (at_builtin;go_must (refine aM _ rfl (.tmp 34) (.tmp 38) 83 ac w.heap.size 85 i0 _ 4 56 Tryz.underlying83 HI.out hz0 hz1 hz2 rfl D (.slice A5 out.length c5) _ _ rfl (HO1.out.alloc _) (fun _=>True) (some ⟨w1.heap.size,0,none⟩) 1 1 [.int .i64 x.kind,.int .i64 x.n,.string x.s,.slice A2 x.kids.length d2] rfl (Sl.new w1 _ _ _ _ rfl) af D D aa ?_);intro v6 w6 ho6 hbl6);go_roundw
     case rel =>
      have hbw:Below w.heap.size wr w6:=((HX1.out.mono hsz).alloc hsw _).trans hbl6;have hk:aB P wr w6:=aB.of_below hbw HPP.out;refine ⟨[],[],out ++ [x],_,bW.nil_any _ _ _ _ D,bW.nil_any _ _ _ _ D,ho6.len_cast U rfl,RVs.append (RVs.carry hk (fun _ _ h=>h) HRV.out) (RVs.one ((HVX.out.carry hk (fun _ _ h=>h)).rv)),HX.out.trans hbw,aa,dr⟩
     case measure=>simp [lenOf];try omega
    ·skip
     subst hc0;obtain rfl:xs'=[]:=List.length_eq_zero_iff.1 D;go_wp2_with (at_builtin;go_must (refine aM _ rfl (.tmp 34) (.tmp 38) 83 ac w.heap.size 85 i0 _ 4 56 Tryz.underlying83 HI.out hz0 hz1 hz2 rfl D (.slice A5 out.length c5) _ _ rfl (HO1.out.alloc _) (fun _=>True) (some ⟨w1.heap.size,0,none⟩) 1 1 [.int .i64 x.kind,.int .i64 x.n,.string x.s,.slice A2 x.kids.length d2] rfl (Sl.new w1 _ _ _ _ rfl) af D D aa ?_);intro v6 w6 ho6 hbl6);go_roundw
     case rel =>
      have hbw:Below w.heap.size wr w6:=((HX1.out.mono hsz).alloc hsw _).trans hbl6;have hk:aB P wr w6:=aB.of_below hbw HPP.out;refine ⟨[],ys',out ++ [x],_,bW.nil_any _ _ _ _ D,HTB.out.carry hk (fun _ _ h=>h),ho6.len_cast U rfl,RVs.append (RVs.carry hk (fun _ _ h=>h) HRV.out) (RVs.one ((HVX.out.carry hk (fun _ _ h=>h)).rv)),HX.out.trans hbw,aa,dr⟩
     case measure=>simp [lenOf];try omega
   ·by_cases hc1:c1=1
    ·skip
     subst hc1;obtain rfl:ys'=[]:=List.length_eq_zero_iff.1 D;go_wp2_with (at_builtin;go_must (refine aM _ rfl (.tmp 34) (.tmp 38) 83 ac w.heap.size 85 i0 _ 4 56 Tryz.underlying83 HI.out hz0 hz1 hz2 rfl D (.slice A5 out.length c5) _ _ rfl (HO1.out.alloc _) (fun _=>True) (some ⟨w1.heap.size,0,none⟩) 1 1 [.int .i64 x.kind,.int .i64 x.n,.string x.s,.slice A2 x.kids.length d2] rfl (Sl.new w1 _ _ _ _ rfl) af D D aa ?_);intro v6 w6 ho6 hbl6);go_roundw
     case rel =>
      have hbw:Below w.heap.size wr w6:=((HX1.out.mono hsz).alloc hsw _).trans hbl6;have hk:aB P wr w6:=aB.of_below hbw HPP.out;refine ⟨xs',[],out ++ [x],_,HTA.out.carry hk (fun _ _ h=>h),bW.nil_any _ _ _ _ D,ho6.len_cast U rfl,RVs.append (RVs.carry hk (fun _ _ h=>h) HRV.out) (RVs.one ((HVX.out.carry hk (fun _ _ h=>h)).rv)),HX.out.trans hbw,aa,dr⟩
     case measure=>simp [lenOf];try omega
    ·skip
     go_wp2_with (at_builtin;go_must (refine aM _ rfl (.tmp 34) (.tmp 38) 83 ac w.heap.size 85 i0 _ 4 56 Tryz.underlying83 HI.out hz0 hz1 hz2 rfl D (.slice A5 out.length c5) _ _ rfl (HO1.out.alloc _) (fun _=>True) (some ⟨w1.heap.size,0,none⟩) 1 1 [.int .i64 x.kind,.int .i64 x.n,.string x.s,.slice A2 x.kids.length d2] rfl (Sl.new w1 _ _ _ _ rfl) af D D aa ?_);intro v6 w6 ho6 hbl6);go_roundw
     case rel =>
      have hbw:Below w.heap.size wr w6:=((HX1.out.mono hsz).alloc hsw _).trans hbl6;have hk:aB P wr w6:=aB.of_below hbw HPP.out;refine ⟨xs',ys',out ++ [x],_,HTA.out.carry hk (fun _ _ h=>h),HTB.out.carry hk (fun _ _ h=>h),ho6.len_cast U rfl,RVs.append (RVs.carry hk (fun _ _ h=>h) HRV.out) (RVs.one ((HVX.out.carry hk (fun _ _ h=>h)).rv)),HX.out.trans hbw,aa,dr⟩
     case measure=>simp [lenOf];try omega
  have t1:decide (cv<=0)=false:=aZz D;have t2:decide (0<=cv)=true:=aZy D;have HM2:=aZv (HMC.out.trans (by rw [if_neg hneg,if_neg hzero]));clear hzero hneg
  by_cases hc1:c1=1
  ·skip
   subst hc1;obtain rfl:ys'=[]:=List.length_eq_zero_iff.1 D;go_wp2_with (at_builtin;go_must (refine aM _ rfl (.tmp 42) (.tmp 46) 83 ac w.heap.size 85 i0 _ 4 56 Tryz.underlying83 HI.out hz0 hz1 hz2 rfl D (.slice A5 out.length c5) _ _ rfl (HO1.out.alloc _) (fun _=>True) (some ⟨w1.heap.size,0,none⟩) 1 1 [.int .i64 y.kind,.int .i64 y.n,.string y.s,.slice A3 y.kids.length d3] rfl (Sl.new w1 _ _ _ _ rfl) af D D aa ?_);intro v6 w6 ho6 hbl6);go_roundw
   case rel =>
    have hbw:Below w.heap.size wr w6:=((HX1.out.mono hsz).alloc hsw _).trans hbl6;have hk:aB P wr w6:=aB.of_below hbw HPP.out;refine ⟨(x :: xs'),[],out ++ [y],_,HVA.out.carry hk (fun _ _ h=>h),bW.nil_any _ _ _ _ D,ho6.len_cast U rfl,RVs.append (RVs.carry hk (fun _ _ h=>h) HRV.out) (RVs.one ((HVY.out.carry hk (fun _ _ h=>h)).rv)),HX.out.trans hbw,aa,dr⟩
   case measure=>simp [lenOf];try omega
  ·skip
   go_wp2_with (at_builtin;go_must (refine aM _ rfl (.tmp 42) (.tmp 46) 83 ac w.heap.size 85 i0 _ 4 56 Tryz.underlying83 HI.out hz0 hz1 hz2 rfl D (.slice A5 out.length c5) _ _ rfl (HO1.out.alloc _) (fun _=>True) (some ⟨w1.heap.size,0,none⟩) 1 1 [.int .i64 y.kind,.int .i64 y.n,.string y.s,.slice A3 y.kids.length d3] rfl (Sl.new w1 _ _ _ _ rfl) af D D aa ?_);intro v6 w6 ho6 hbl6);go_roundw
   case rel =>
    have hbw:Below w.heap.size wr w6:=((HX1.out.mono hsz).alloc hsw _).trans hbl6;have hk:aB P wr w6:=aB.of_below hbw HPP.out;refine ⟨(x :: xs'),ys',out ++ [y],_,HVA.out.carry hk (fun _ _ h=>h),HTB.out.carry hk (fun _ _ h=>h),ho6.len_cast U rfl,RVs.append (RVs.carry hk (fun _ _ h=>h) HRV.out) (RVs.one ((HVY.out.carry hk (fun _ _ h=>h)).rv)),HX.out.trans hbw,aa,dr⟩
   case measure=>simp [lenOf];try omega
structure SA where
 s:Nat
 k:Nat
 l:Nat
 m:Nat
 X:Nat->Prop
def SA.M (g:SA):Nat->Prop:=fun b=>b=g.k∨b=g.l∨b=g.m
def SA.Q (g:SA):Nat->Prop:=fun b=>¬ g.M b∧¬ g.X b
structure qA (t:List GN)(vn:Value)(g:SA)(kn:List Bool)(ls:List Value)(ms:List Bool)(w:World):Prop where
 hk:g.s ≠ g.k
 hl:g.s ≠ g.l
 hm:g.s ≠ g.m
 kl:g.k ≠ g.l
 km:g.k ≠ g.m
 lm:g.l ≠ g.m
 klen:kn.length=t.length
 llen:ls.length=t.length
 mlen:ms.length=t.length
 box:Blk w g.s 198 #[vn,.slice (some ⟨g.k,0,none⟩) t.length t.length,.slice (some ⟨g.l,0,none⟩) t.length t.length,.slice (some ⟨g.m,0,none⟩) t.length t.length]
 known:Blk w g.k 4 (kn.map Value.bool).toArray
 lists:Blk w g.l 83 ls.toArray
 many:Blk w g.m 4 (ms.map Value.bool).toArray
 xlt:∀ b,g.X b->b<w.heap.size
 nodes:Nds w g.Q vn t
 sl:∀ v ∈ ls,∃ A n c,v=.slice A n c
 fine:∀ j,j<t.length->kn.getD j false=true->bW w g.Q (ls.getD j default) ((aG t).getD j default).vals∧ms.getD j false=((aG t).getD j default).many
def bS (t:List GN)(vn:Value)(g:SA)(w:World):Prop:=∃ kn ls ms,qA t vn g kn ls ms w
def iL (t:List GN)(vn:Value)(g:SA)(r:GL)(w:World)(e:Ending)(w':World):Prop :=
 ∃ A c,e=.returned (.tuple #[.slice A r.vals.length c,.bool (!r.many)])∧bW w' g.Q (.slice A r.vals.length c) r.vals∧Fr g.M w w'∧bS t vn g w'
def uD (t:List GN)(vn:Value)(f:Nat):Prop:=∀ (g:SA)(i:Nat)(w:World),i<f->bD t (i+1)->bS t vn g w->Calls Tryz.prog 181 #[.pointer (some ⟨g.s,0,none⟩),↑i] w (iL t vn g ((aG t).getD i default) w)
def aAz (t:List GN)(vn:Value)(f:Nat):Prop:=∀ (g:SA)(i:Nat)(w:World),i<f->bD t (i+1)->bS t vn g w->Calls Tryz.prog 137 #[.pointer (some ⟨g.s,0,none⟩),↑i] w (iL t vn g ((aG t).getD i default) w)
section
variable {t:List GN}{vn:Value}{g:SA}{kn:List Bool}{ls:List Value}{ms:List Bool}{w w':World}
theorem qA.ext (h:qA t vn g kn ls ms w)(hx:Ext w w'):qA t vn g kn ls ms w' :=
 ⟨h.hk,h.hl,h.hm,h.kl,h.km,h.lm,h.klen,h.llen,h.mlen,h.box.ext hx,h.known.ext hx,h.lists.ext hx,h.many.ext hx,fun b hb=>Nat.lt_of_lt_of_le (h.xlt b hb) hx.size,h.nodes.ext hx,h.sl,fun j hj hk=>⟨(h.fine j hj hk).1.ext hx,(h.fine j hj hk).2⟩⟩
theorem bS.ext (h:bS t vn g w)(hx:Ext w w'):bS t vn g w':=by
 obtain ⟨kn,ls,ms,h⟩:=h;exact ⟨kn,ls,ms,h.ext hx⟩
theorem bS.more (h:bS t vn g w){g':Nat}(hg:w.heap.size<=g'){w':World}(hx:Ext w w')(hl:g'<w'.heap.size):bS t vn ⟨g.s,g.k,g.l,g.m,fun b=>g.X b∨b=g'⟩ w':=by
 obtain ⟨kn,ls,ms,h0⟩:=h;have h:=h0.ext hx;have hQ:∀ b,b<w.heap.size->g.Q b->(SA.mk g.s g.k g.l g.m (fun b=>g.X b∨b=g')).Q b:=fun b hb h=>⟨h.1,fun hx=>hx.elim h.2 (fun e=>by omega)⟩
 exact ⟨kn,ls,ms,h.hk,h.hl,h.hm,h.kl,h.km,h.lm,h.klen,h.llen,h.mlen,h.box,h.known,h.lists,h.many,fun b hb=>hb.elim (h.xlt b) (fun e=>by omega),h0.nodes.carry (aB.of_ext hx) hQ,h.sl,fun j hj hk=>⟨(h0.fine j hj hk).1.carry (aB.of_ext hx) hQ,(h.fine j hj hk).2⟩⟩
theorem bS.less {X:Nat->Prop}(h:bS t vn ⟨g.s,g.k,g.l,g.m,X⟩ w)(hX:∀ b,g.X b->X b):bS t vn g w:=by
 obtain ⟨kn,ls,ms,h⟩:=h;have hQ:∀ b,(SA.mk g.s g.k g.l g.m X).Q b->g.Q b:=fun b h=>⟨h.1,fun hx=>h.2 (hX b hx)⟩
 exact ⟨kn,ls,ms,h.hk,h.hl,h.hm,h.kl,h.km,h.lm,h.klen,h.llen,h.mlen,h.box,h.known,h.lists,h.many,fun b hb=>h.xlt b (hX b hb),h.nodes.keep (fun _ _ _=>rfl) hQ,h.sl,fun j hj hk=>⟨(h.fine j hj hk).1.keep (fun _ _ _=>rfl) hQ,(h.fine j hj hk).2⟩⟩
theorem bS.setX (h:bS t vn g w){p:Addr}(hp:g.X p.block)(hs:p.block ≠ g.s)(hM:¬ g.M p.block)(u:Value):bS t vn g (w.setCell p u):=by
 obtain ⟨kn,ls,ms,h⟩:=h;have hk:aB g.Q w (w.setCell p u):=aB.set (fun _ _ _=>rfl) u (fun h=>h.2 hp)
 exact ⟨kn,ls,ms,h.hk,h.hl,h.hm,h.kl,h.km,h.lm,h.klen,h.llen,h.mlen,h.box.far hs.symm u,h.known.far (fun e=>hM (.inl e.symm)) u,h.lists.far (fun e=>hM (.inr (.inl e.symm))) u,h.many.far (fun e=>hM (.inr (.inr e.symm))) u,fun b hb=>by simp only [World.setCell,Array.size_modify];exact h.xlt b hb,
  h.nodes.carry hk (fun _ _ h=>h),h.sl,fun j hj hkj=>⟨(h.fine j hj hkj).1.carry hk (fun _ _ h=>h),(h.fine j hj hkj).2⟩⟩
theorem qA.learn (h:qA t vn g kn ls ms w){i:Nat}(hi:i<t.length){A:Option Addr}{c:Nat}(hv:bW w g.Q (.slice A ((aG t).getD i default).vals.length c) ((aG t).getD i default).vals) :
  qA t vn g (kn.set i true) (ls.set i (.slice A ((aG t).getD i default).vals.length c)) (ms.set i ((aG t).getD i default).many)
   (((w.setCell ⟨g.k,i,none⟩ (.bool true)).setCell ⟨g.l,i,none⟩ (.slice A ((aG t).getD i default).vals.length c)).setCell ⟨g.m,i,none⟩ (.bool ((aG t).getD i default).many)):=by
 have hk0:aB g.Q w w:=fun _ _ _=>rfl
 have hkp:aB g.Q w (((w.setCell ⟨g.k,i,none⟩ (.bool true)).setCell ⟨g.l,i,none⟩ (.slice A ((aG t).getD i default).vals.length c)).setCell ⟨g.m,i,none⟩ (.bool ((aG t).getD i default).many)) :=
  ((hk0.set (p:=⟨g.k,i,none⟩) _ (fun h=>h.1 (.inl rfl))).set (p:=⟨g.l,i,none⟩) _ (fun h=>h.1 (.inr (.inl rfl)))).set (p:=⟨g.m,i,none⟩) _ (fun h=>h.1 (.inr (.inr rfl)))
 refine ⟨h.hk,h.hl,h.hm,h.kl,h.km,h.lm,by simp [h.klen],by simp [h.llen],by simp [h.mlen],((h.box.far (p:=⟨g.k,i,none⟩) h.hk _).far (p:=⟨g.l,i,none⟩) h.hl _).far (p:=⟨g.m,i,none⟩) h.hm _,?_,?_,?_,fun b hb=>by simp only [World.setCell,Array.size_modify];exact h.xlt b hb,h.nodes.carry hkp (fun _ _ h=>h),?_,?_⟩
 ·have h1:=((h.known.set_ i (.bool true)).far (p:=⟨g.l,i,none⟩) h.kl (.slice A ((aG t).getD i default).vals.length c)).far (p:=⟨g.m,i,none⟩) h.km (.bool ((aG t).getD i default).many)
  simp only [List.setIfInBounds_toArray] at h1;rw [List.map_set];exact h1
 ·have h1:=((h.lists.far (p:=⟨g.k,i,none⟩) h.kl.symm (.bool true)).set_ i (.slice A ((aG t).getD i default).vals.length c)).far (p:=⟨g.m,i,none⟩) h.lm (.bool ((aG t).getD i default).many)
  simp only [List.setIfInBounds_toArray] at h1;exact h1
 ·have h1:=((h.many.far (p:=⟨g.k,i,none⟩) h.km.symm (.bool true)).far (p:=⟨g.l,i,none⟩) h.lm.symm (.slice A ((aG t).getD i default).vals.length c)).set_ i (.bool ((aG t).getD i default).many)
  simp only [List.setIfInBounds_toArray] at h1;rw [List.map_set];exact h1
 ·intro v hv'
  rcases List.mem_or_eq_of_mem_set hv' with hv' | rfl
  ·exact h.sl v hv'
  ·exact ⟨_,_,_,rfl⟩
 ·intro j hj hkj
  by_cases e:i=j
  ·subst e
   refine ⟨?_,?_⟩
   ·have e2:(ls.set i (.slice A ((aG t).getD i default).vals.length c)).getD i default=.slice A ((aG t).getD i default).vals.length c:=by simp [List.getD,h.llen,hi]
    rw [e2];exact hv.carry hkp (fun _ _ h=>h)
   ·simp [List.getD,h.mlen,hi]
  ·have e1:(kn.set i true).getD j false=kn.getD j false:=by simp [List.getD,List.getElem?_set,e]
   have e2:(ls.set i (.slice A ((aG t).getD i default).vals.length c)).getD j default=ls.getD j default:=by simp [List.getD,List.getElem?_set,e]
   have e3:(ms.set i ((aG t).getD i default).many).getD j false=ms.getD j false:=by simp [List.getD,List.getElem?_set,e]
   rw [e1] at hkj;rw [e2,e3];exact ⟨(h.fine j hj hkj).1.carry hkp (fun _ _ h=>h),(h.fine j hj hkj).2⟩
end
theorem fV {w:World}{p:Addr}{b off:Nat}{u x:Value}(hne:¬ b=p.block)(h:w.cell? ⟨b,off,none⟩=some u):(w.setCell p x).cell? ⟨b,off,none⟩=some u:=by
 rw [<- h];exact World.cell?_of_block (w:=w) (Below.heap_setCell _ _ _ _ hne)
theorem eB {w:World}{p:Addr}{b off:Nat}{u x:Value}(hne:¬ b=p.block)(h:w.drew.cell? ⟨b,off,none⟩=some u):(w.setCell p x).drew.cell? ⟨b,off,none⟩=some u:=fV (w:=w) hne h
theorem aD8 (t:List GN)(vn:Value)(f:Nat)(hF:uD t vn f):aAz t vn f:=by
 intro g i w hif hg hs;have HG:=aZv hg;have hit:i<t.length:=by have:=hg.1;omega
 have hi4:t.length<=4096:=hg.2.1;obtain ⟨kn,ls,ms,h⟩:=hs;have H:=aZv h;have b1:=h.box.cell' (u:=.slice (some ⟨g.k,0,none⟩) t.length t.length) 1 rfl;have b2:=h.box.cell' (u:=.slice (some ⟨g.l,0,none⟩) t.length t.length) 2 rfl;have b3:=h.box.cell' (u:=.slice (some ⟨g.m,0,none⟩) t.length t.length) 3 rfl;have k0:=h.known.cell' (u:=.bool (kn.getD i false)) i (by simp [h.klen,hit]);have hii:(i:Int)<(t.length:Int):=by omega
 have hi0:(0:Int)<=(i:Int):=D
 have HFI:=aZv (h.fine i hit);have HLS:=aZv (show w.cell? ⟨g.l,i,none⟩=some (ls.getD i default) from h.lists.cell' i (by simp [h.llen,hit]));have HMS:=aZv (show w.cell? ⟨g.m,i,none⟩=some (.bool (ms.getD i false)) from h.many.cell' i (by simp [h.mlen,hit]));clear hg h;generalize hkk:kn.getD i false=bk at *;clear hkk
 cases bk
 ·go_enter Tryz.func137,Tryz.ntmps137
  go_wp2_with fail;refine (hF g i w hif HG.out ⟨kn,ls,ms,H.out⟩).mono ?_;rintro e w1 ⟨A,c,rfl,hv,hfr,kn1,ls1,ms1,h1⟩;have HV:=aZv hv;have HFR:=aZv hfr;have H1:=aZv h1;clear b1 b2 b3 k0;have b1:=h1.box.cell' (u:=.slice (some ⟨g.k,0,none⟩) t.length t.length) 1 rfl;have b2:=h1.box.cell' (u:=.slice (some ⟨g.l,0,none⟩) t.length t.length) 2 rfl;have b3:=h1.box.cell' (u:=.slice (some ⟨g.m,0,none⟩) t.length t.length) 3 rfl;have k0:=h1.known.cell' (u:=.bool (kn1.getD i false)) i (by simp [h1.klen,hit]);have l0:=h1.lists.cell' (u:=ls1.getD i default) i (by simp [h1.llen,hit]);have m0:=h1.many.cell' (u:=.bool (ms1.getD i false)) i (by simp [h1.mlen,hit]);have fk:=h1.known.frozen i;have fl:=h1.lists.frozen i;have fm:=h1.many.frozen i;have n1:¬ g.s=g.k:=h1.hk;have n2:¬ g.s=g.l:=h1.hl;have n3:¬ g.s=g.m:=h1.hm;have n4:¬ g.k=g.l:=h1.kl;have n5:¬ g.k=g.m:=h1.km;have n6:¬ g.l=g.m:=h1.lm;have n7:¬ g.l=g.k:=fun e=>h1.kl e.symm
  have n8:¬ g.m=g.k:=fun e=>h1.km e.symm
  have n9:¬ g.m=g.l:=fun e=>h1.lm e.symm
  have HLN:=aZv (H1.out.learn hit hv);clear hv hfr h1;generalize kn1.getD i false=z1 at *;generalize ls1.getD i default=z2 at *;generalize ms1.getD i false=z3 at *;generalize (aG t).getD i default=r at *;obtain ⟨vals,many⟩:=r;go_upto_region 3 with fail
  go_region_held3 (fun w'=>w'.cell? ⟨g.s,1,none⟩=some (.slice (some ⟨g.k,0,none⟩) t.length t.length)∧w'.cell? ⟨g.s,2,none⟩=some (.slice (some ⟨g.l,0,none⟩) t.length t.length)∧w'.cell? ⟨g.s,3,none⟩=some (.slice (some ⟨g.m,0,none⟩) t.length t.length))
   (first
    | (go_split_ands
       with_reducible exact ⟨eB n1 ‹_›,eB n1 ‹_›,eB n1 ‹_›⟩)
    | (go_split_ands
       with_reducible exact ⟨eB n2 ‹_›,eB n2 ‹_›,eB n2 ‹_›⟩)
    | (go_split_ands
       with_reducible exact ⟨eB n3 ‹_›,eB n3 ‹_›,eB n3 ‹_›⟩)
    | go_keep)
   (first
    | fail)
  go_upto_region 4 with fail;have HL2:=aZv (HLN.out.ext (Ext.refl _).drew');have HF2:=aZv (((((Fr.refl g.M w1).setCell (p:=⟨g.k,i,none⟩) (.inl (.inl rfl)) (.bool true)).setCell (p:=⟨g.l,i,none⟩) (.inl (.inr (.inl rfl))) (.slice A vals.length c)).setCell (p:=⟨g.m,i,none⟩) (.inl (.inr (.inr rfl))) (.bool many))).drew
  have HV2:=aZv (show bW ((((w1.setCell ⟨g.k,i,none⟩ (.bool true)).setCell ⟨g.l,i,none⟩ (.slice A vals.length c)).setCell ⟨g.m,i,none⟩ (.bool many)).drew) g.Q (.slice A vals.length c) vals from
   (((HV.out.set (p:=⟨g.k,i,none⟩) _ (fun h=>h.1 (.inl rfl))).set (p:=⟨g.l,i,none⟩) _ (fun h=>h.1 (.inr (.inl rfl)))).set (p:=⟨g.m,i,none⟩) _ (fun h=>h.1 (.inr (.inr rfl)))).ext (Ext.refl _).drew')
  clear b1 b2 b3 k0 l0 m0 fk fl fm n1 n2 n3 n4 n5 n6 n7 n8 n9 HLN;generalize hw2:(((w1.setCell ⟨g.k,i,none⟩ (.bool true)).setCell ⟨g.l,i,none⟩ (.slice A vals.length c)).setCell ⟨g.m,i,none⟩ (.bool many)).drew=w2 at *;clear hw2;have b2:=HL2.out.box.cell' (u:=.slice (some ⟨g.l,0,none⟩) t.length t.length) 2 rfl;have b3:=HL2.out.box.cell' (u:=.slice (some ⟨g.m,0,none⟩) t.length t.length) 3 rfl;have l0:=HL2.out.lists.cell' (u:=.slice A vals.length c) i (by have:=H1.out.llen;simp [this,hit]);have m0:=HL2.out.many.cell' (u:=.bool many) i (by have:=H1.out.mlen;simp [this,hit]);go_wp2_with fail;go_quiet (fail);go_wp2_with fail;go_ret2;exact ⟨A,c,rfl,HV2.out.ext ((Ext.refl _).drewN' _),(HFR.out.trans HF2.out).drewN _,⟨_,_,_,HL2.out.ext ((Ext.refl _).drewN' _)⟩⟩
 ·obtain ⟨hv,hm⟩:=HFI.out rfl
  have l0:=HLS.out;have m0:=HMS.out;obtain ⟨A,c,ev,-,-⟩:=hv.form;rw [ev] at l0 hv;rw [hm] at m0;have HV:=aZv hv;clear hv hm ev;generalize (aG t).getD i default=r at *;obtain ⟨vals,many⟩:=r;simp only at l0 m0;go_enter Tryz.func137,Tryz.ntmps137;go_wp2_with fail;go_quiet (fail);go_wp2_with fail;go_ret2;exact ⟨A,c,rfl,HV.out.ext ((Ext.refl _).drewN' _),Fr.of_ext ((Ext.refl _).drewN' _),⟨kn,ls,ms,H.out.ext ((Ext.refl _).drewN' _)⟩⟩
def xD (ls:List GL):List GV->List Int->GL
 | out,[]=>⟨out,false⟩
 | out,z :: zs=>if (ls.getD z.toNat default).many=true then ⟨[],true⟩
   else if 1024<(dQ out (ls.getD z.toNat default).vals).length then ⟨[],true⟩ else xD ls (dQ out (ls.getD z.toNat default).vals) zs
theorem bS.lt {t:List GN}{vn:Value}{g:SA}{w:World}(h:bS t vn g w){b:Nat}(hb:g.M b):b<w.heap.size:=by
 obtain ⟨kn,ls,ms,h⟩:=h;rcases hb with rfl | rfl | rfl
 ·exact h.known.lt
 ·exact h.lists.lt
 ·exact h.many.lt
theorem bS.newQ {t:List GN}{vn:Value}{g:SA}{w:World}(h:bS t vn g w){b:Nat}(hb:w.heap.size<=b):g.Q b :=
 ⟨fun hm=>by have:=h.lt hm;omega,fun hx=>by obtain ⟨kn,ls,ms,h⟩:=h;have:=h.xlt b hx;omega⟩
def aJg (t:List GN)(vn:Value)(g:SA)(ks:List Int)(w:World)(v i:Value)(wr:World):Prop :=
 ∃ (k:Nat) (out:List GV),k<=ks.length∧i=↑k∧bW wr g.Q v out∧Inc out∧out.length<=1024∧Fr g.M w wr∧bS t vn g wr∧xD (aG t) [] ks=xD (aG t) out (ks.drop k)
theorem iL.none_ {t:List GN}{vn:Value}{g:SA}{w w':World}(hf:Fr g.M w w')(hs:bS t vn g w'):iL t vn g ⟨[],true⟩ w (.returned (.tuple #[.slice none 0 0,.bool false])) w' :=
 ⟨none,0,rfl,bW.nil_any _ _ _ _ D,hf,hs⟩
theorem uO (t:List GN)(vn:Value)(g:SA)(f n:Nat)(hO:aAz t vn f)(ks:List Int)(vk:Value)(w:World)(hk:bM w g.Q vk ks)(hks:∀ z ∈ ks,0<=z∧z<(n:Int))(hnf:n<=f)(hg:bD t n)(hs:bS t vn g w) :
  Calls Tryz.prog 202 #[.pointer (some ⟨g.s,0,none⟩),vk] w (iL t vn g (xD (aG t) [] ks) w):=by
 have HK:=aZv hk;have HKS:=aZv hks;have HG:=aZv hg;have HS:=aZv hs;obtain ⟨Ak,ck,ek,hk1,hk2⟩:=hk.form;subst ek;clear hk hks hg hs;go_enter Tryz.func202,Tryz.ntmps202;go_wp2_with fail;go_loopw [6,13] (fun v i wr=>aJg t vn g ks w v i wr) (fun _ i _=>ks.length - (intOf i).toNat)
 case atStart=>exact ⟨0,[],Nat.zero_le _,rfl,bW.nil_any _ _ _ _ D,Inc.nil,U,Fr.refl _ _,HS.out,rfl⟩
 case round =>
  obtain ⟨k,out,hk,rfl,hv,hinc,hlen,hfr,hs,hu⟩:=hrel;have HV:=aZv hv;have HINC:=aZv hinc;have HFR:=aZv hfr;have HSR:=aZv hs;have HU:=aZv hu;obtain ⟨A6,c6,e6,h61,h62⟩:=hv.form;subst e6;have HKR:=aZv (HK.out.keep (Q:=g.Q) (aB.of_fr hfr (fun b h=>h.1)) (fun _ h=>h));clear hv hinc hfr hs hu
  by_cases hlt:k<ks.length
  ·obtain ⟨b1,o1,rfl,-,-,g1⟩:=HKR.out.get hlt
   have hz:=HKS.out _ (aD (d:=0) hlt);have HD:=aZv (HU.out.trans (by rw [aF 0 hlt,xD]));generalize ks.getD k 0=z at *;obtain ⟨zn,rfl⟩:∃ zn:Nat,z=zn:=⟨z.toNat,D⟩;have HLOK:=aZv (lM HG.out zn D);have hgz:=HG.out.mono (j:=zn+1) D;have HOZ:=aZv (hO g zn wr D hgz HSR.out);simp only [Int.toNat_natCast] at HD;clear hgz;generalize (aG t).getD zn default=r at *;obtain ⟨vals,many⟩:=r;go_wp2_with fail;refine HOZ.out.mono ?_;rintro e w1 ⟨A2,d2,rfl,hv2,hf2,hs2⟩;have HV2:=aZv hv2;have HF2:=aZv (HFR.out.trans hf2);have HS2:=aZv hs2;have HVO:=aZv (HV.out.keep (Q:=g.Q) (aB.of_fr hf2 (fun b h=>h.1)) (fun _ h=>h));clear hv2 hf2 hs2 g1
   cases many
   ·have hfew:=HLOK.out.few
    simp only at hfew;go_wp2_with fail;refine (aBt out vals (fun b=>g.Q b∧b<w1.heap.size) _ _ _ (HVO.out.imp (fun b hb h=>⟨h,hb⟩)) (HV2.out.imp (fun b hb h=>⟨h,hb⟩)) D D (fun b h=>h.2)).mono ?_;rintro e w2 ⟨A3,d3,rfl,hv3,hx3⟩;have HV3:=aZv (hv3.imp (Q:=g.Q) (fun b hb h=>h.elim (fun h=>h.1) (fun h=>HS2.out.newQ h)));have HX3:=aZv hx3;have HI3:=aZv (iI out vals HINC.out HLOK.out.inc);clear hv3 hx3;generalize dQ out vals=mo at *;have hmo:mo.length<=d3∧(mo.length<=17592186044416∧d3<=9223372036854775807):=HV3.out.le
    by_cases hbig:1024<mo.length
    ·have tb:decide (1024<(mo.length:Int))=true:=aZy D
     have HE:=aZv (show xD (aG t) [] ks=⟨[],true⟩ from HD.out.trans (by simp [hbig]));clear hbig;go_wp2_with fail;go_ret2;rw [HE.out];exact iL.none_ (HF2.out.trans (Fr.of_ext HX3.out)) (HS2.out.ext HX3.out)
    ·have tb:decide (1024<(mo.length:Int))=false:=aZz D
     have HE:=aZv (show xD (aG t) [] ks=xD (aG t) mo (ks.drop (k+1)) from HD.out.trans (by simp [hbig]));have hb2:mo.length<=1024:=by omega
     clear hbig;go_wp2_with fail;go_roundw
     case rel=>exact ⟨k+1,mo,D,by go_num,HV3.out,HI3.out,D,HF2.out.trans (Fr.of_ext HX3.out),HS2.out.ext HX3.out,HE.out⟩
     case measure=>simp [intOf];omega
   ·have HE:=aZv (show xD (aG t) [] ks=⟨[],true⟩ from HD.out.trans U)
    go_wp2_with fail;go_ret2;rw [HE.out];exact iL.none_ HF2.out HS2.out
  ·have HE:=aZv (show xD (aG t) [] ks=⟨out,false⟩ by rw [HU.out,drop_nil D,xD])
   go_wp2_with fail;go_ret2;rw [HE.out];exact ⟨A6,c6,rfl,HV.out,HFR.out,HSR.out⟩
end Go.Proofs.YtkoeecdjijfjnaaGreat
