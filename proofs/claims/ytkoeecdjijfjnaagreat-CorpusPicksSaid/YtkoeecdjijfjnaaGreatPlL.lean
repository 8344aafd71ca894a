/- Contracts of functions. Conditions: none. -/
import Derived.Test.YtkoeecdjijfjnaaGreatPlH
set_option maxRecDepth 100000
set_option maxHeartbeats 8000000
namespace Go.Proofs.YtkoeecdjijfjnaaGreat
open Go.RowKit
theorem uD (x y:GV)(A B:Option Addr)(c d:Nat)(P Q:Nat->Prop)(w:World)(hx:VAt w P x A c)(hy:VAt w Q y B d) :
  Calls Tryz.prog 139 #[eF x A c,eF y B d] w (dV (.bool (decide (cH x y=0))) w):=by
 have HX:=aYl hx;have HY:=aYl hy;clear hx hy;go_enter Tryz.func139,Tryz.ntmps139;go_wp2_with fail;refine (bL x y A B c d P Q _ (HX.out.ext (((Ext.refl _).alloc' _).alloc' _)) (HY.out.ext (((Ext.refl _).alloc' _).alloc' _))).mono ?_;rintro e w1 ⟨rfl,hx1⟩;have HX1:=aYl ((((Ext.refl w).alloc' _).alloc' _).trans' hx1);clear hx1;generalize cH x y=z at *;go_wp2_with fail
 all_goals
  go_ret;exact ⟨aC (by rw [Bool.eq_iff_iff];simp_all),HX1.out⟩
theorem uC (a b:List GV)(P Q:Nat->Prop)(va vb:Value)(w:World)(ha:bV w P va a)(hb:bV w Q vb b) :
  Calls Tryz.prog 138 #[va,vb,.func (.func 139) #[] #[]] w (dV (.bool (eB a b)) w):=by
 have HA:=aYl ha;have HB:=aYl hb;have HS:=aYl (show eB a b=(decide (a.length=b.length) && (a.zip b).all (fun p=>decide (cH p.1 p.2=0))) from rfl);obtain ⟨A,c,e,h1,h2⟩:=ha.form;obtain ⟨A',c',e',h1',h2'⟩:=hb.form;subst e e';clear ha hb
 by_cases hl:a.length=b.length
 ·have HS2:=aYl (show eB a b=((a.drop 0).zip (b.drop 0)).all (fun p=>decide (cH p.1 p.2=0)) by rw [HS.out,aYo hl];rfl)
  have hl1:a.length<=b.length:=U
  have hl2:b.length<=a.length:=U
  have hne:((a.length:Int) != (b.length:Int))=false:=ft
  clear hl;go_enter Tryz.func138,Tryz.ntmps138;go_wp2_with fail;go_loopw [17] (fun i wr=>aBh a b w i wr) (fun i _=>a.length - (intOf i).toNat)
  case atStart=>exact ⟨0,Nat.zero_le _,rfl,Ext.refl _,HS2.out⟩
  case round =>
   obtain ⟨k,hk,rfl,hx,ht⟩:=hrel;have HT:=aYl ht;have HX:=aYl hx;clear ht hx
   by_cases hlt:k<a.length
   ·have hlt':k<b.length:=by omega
    have HD:=aYl (show eB a b=(decide (cH (a.getD k default) (b.getD k default)=0) && ((a.drop (k+1)).zip (b.drop (k+1))).all (fun p=>decide (cH p.1 p.2=0))) by
     rw [HT.out,aG default hlt,aG default hlt']
     rfl)
    obtain ⟨b1,o1,c1,A1,d1,e1,-,-,-,hv1,g10,g11,g12,g13⟩:=(HA.out.ext HX.out).at_ hlt;obtain ⟨b2,o2,c2,A2,d2,e2,-,-,-,hv2,g20,g21,g22,g23⟩:=(HB.out.ext HX.out).at_ hlt'
    cases e1
    cases e2
    have q2:=aQ g20;have HV1:=aYl hv1;have HV2:=aYl hv2;clear hv1 hv2;generalize a.getD k default=x at *;generalize b.getD k default=y at *;go_wp2_with fail;refine (uD x y A1 A2 d1 d2 P Q _ (HV1.out.ext (((Ext.refl _).alloc' _).alloc' _)) (HV2.out.ext (((Ext.refl _).alloc' _).alloc' _))).mono ?_;rintro e w1 ⟨rfl,hx1⟩;have HX1:=aYl (HX.out.trans' ((((Ext.refl _).alloc' _).alloc' _).trans' hx1));clear hx1
    by_cases hz:cH x y=0
    ·have HZ:=aYl hz
     have tz:decide (cH x y=0)=true:=aYo hz;clear hz;generalize decide (cH x y=0)=bz at *;subst tz;go_wp2_with fail;go_roundw
     case rel=>exact ⟨k+1,U,by go_num,HX1.out,by rw [HD.out];rfl⟩
     case measure=>simp [intOf];omega
    ·have HZ:=aYl hz
     have tz:decide (cH x y=0)=false:=aYp hz;clear hz;generalize decide (cH x y=0)=bz at *;subst tz;go_wp2_with fail;go_ret;exact ⟨aC (by rw [HD.out];rfl),HX1.out⟩
   ·go_wp2_with fail
    go_ret;exact ⟨aC (by rw [HT.out,drop_nil (l:=a) U];rfl),HX.out⟩
 ·have hne:((a.length:Int) != (b.length:Int))=true:=bne_iff_ne.2 U
  have HL:=aYl hl;clear hl;go_enter Tryz.func138,Tryz.ntmps138;go_wp2_with fail;go_ret;exact ⟨aC (by rw [HS.out,aYp HL.out];rfl),Ext.refl _⟩
theorem aZ {w w':World}{M:Nat->Prop}(hf:Fr M w w'){b off:Nat}{u:Value}(hb:¬ M b)(h:w.cell? ⟨b,off,none⟩=some u):w'.cell? ⟨b,off,none⟩=some u:=by
 rw [<- h];exact World.cell?_of_block (w:=w) (hf.block b (aQ h) hb)
theorem kP {w w':World}{M:Nat->Prop}(hf:Fr M w.drew w'){b off:Nat}{u:Value}(hb:¬ M b)(h:w.cell? ⟨b,off,none⟩=some u):w'.cell? ⟨b,off,none⟩=some u:=aZ (w:=w.drew) hf hb h
def nO (t:List GN)(x:GN):Int:=if x.kind=4 then gS t x else 0
def aIc (t:List GN)(vn:Value)(g:SA)(r:Int)(w:World)(e:Ending)(w':World):Prop:=e=.returned (↑r)∧Fr g.M w w'∧bQ t vn g w'
theorem aFe (t:List GN)(vn:Value)(g:SA)(gc b o i:Nat)(x:GN)(a:NA)(w:World)(hx:NAt w g.Q x a)(hn:bU w b o x a)(hb:g.Q b)(hc3:w.cell? ⟨gc,3,none⟩=some (.pointer (some ⟨g.s,0,none⟩)))(hgc:¬ g.M gc)(hs:bQ t vn g w)
  (hok:dJ i x)(hg:bD t i) :
  Calls Tryz.prog 93 #[.pointer (some ⟨gc,0,none⟩),.pointer (some ⟨b,o,none⟩)] w (aIc t vn g (nO t x) w):=by
 have c0:=hn.c0;have c7:=hn.c7;have HN:=aYl hn;have HX:=aYl hx;have HS:=aYl hs;have HB:=aYl hb;have HGC:=aYl hgc;obtain ⟨hkl1,hkl2⟩:=hx.kids.le
 by_cases hk:x.kind=4
 ·have t4:(x.kind != 4)=false:=by rw [bne_eq_false_iff_eq];exact hk
  have hk0:0<x.kids.length:=by have:=hok.bind hk;omega
  have hz:=hok.kids _ (aF (d:=0) hk0);obtain ⟨n,hn0⟩:∃ n:Nat,x.kids.getD 0 0=(n:Int):=⟨(x.kids.getD 0 0).toNat,U⟩
  have HQ:=aYl (show nO t x=if ((aD t).getD n default).many then 4 else if eB ((aD t).getD n default).vals x.values then 0 else 1 by
   unfold nO;rw [if_pos hk];unfold gS;rw [hn0];simp)
  obtain ⟨b1,o1,e1,hb1,-,g1⟩:=hx.kids.get hk0;rw [hn0,Nat.add_zero] at g1;rw [e1] at c7;have HB1:=aYl hb1;have HOF:=aYl (show ∀ W,bQ t vn g W->Calls Tryz.prog 137 #[.pointer (some ⟨g.s,0,none⟩),↑n] W (iK t vn g ((aD t).getD n default) W) from fun W h=>aPh t vn g n W (hg.mono U) h);generalize (aD t).getD n default=gg at *;obtain ⟨vals,many⟩:=gg;clear hx hn hs hb hgc hok hg hz hn0 hb1 e1 hk;go_enter Tryz.func93,Tryz.ntmps93;go_wp2_with fail
  go_region_held3 (fun w'=>w'.cell? ⟨gc,3,none⟩=some (.pointer (some ⟨g.s,0,none⟩))∧w'.cell? ⟨b,o+7,none⟩=some (.slice (some ⟨b1,o1,none⟩) x.kids.length a.kc)∧w'.cell? ⟨b1,o1,none⟩=some (.int .i64 n))
   (first
    | go_keep
    | (go_split_ands
       exact ⟨kP hfr HGC.out ‹_›,kP hfr HB.out.1 ‹_›,kP hfr HB1.out.1 ‹_›⟩)
    | (go_split_ands
       exact ⟨aZ hfr HGC.out ‹_›,aZ hfr HB.out.1 ‹_›,aZ hfr HB1.out.1 ‹_›⟩))
   (first
    | (go_at_call 137;refine (HOF.out _ (HS.out.ext (Ext.refl _).drew')).mono ?_;rintro e w1 ⟨A,c,rfl,hv,hfr,hs1⟩))
  have HFR:=aYl ((Fr.refl g.M w).drew.trans hfr);have HV:=aYl hv;have HS1:=aYl hs1;have d6:=aZ HFR.out HB.out.1 HN.out.c6;have HVL:=aYl (HX.out.values.carry (aB.of_fr HFR.out (fun b h=>h.1)) (fun _ _ h=>h));clear hv hfr hs1
  cases many
  ·go_wp2_with fail
   refine (uC vals x.values g.Q g.Q _ _ _ HV.out HVL.out).mono ?_;rintro e w2 ⟨rfl,hx2⟩;have HX2:=aYl hx2;clear hx2;generalize eB vals x.values=bb at *
   cases bb
   ·go_wp2_with fail
    go_ret;exact ⟨aH fh,HFR.out.trans (Fr.of_ext HX2.out),HS1.out.ext HX2.out⟩
   ·go_wp2_with fail
    go_ret;exact ⟨aH fh,HFR.out.trans (Fr.of_ext HX2.out),HS1.out.ext HX2.out⟩
  ·go_wp2_with fail
   go_ret;exact ⟨aH fh,HFR.out,HS1.out⟩
 ·have t4:(x.kind != 4)=true:=bne_iff_ne.2 hk
  have HQ:=aYl (show nO t x=0 by unfold nO;rw [if_neg hk]);clear hx hn hs hb hgc hok hg;go_enter Tryz.func93,Tryz.ntmps93;go_wp2_with fail;go_ret;exact ⟨aH HQ.out.symm,Fr.refl _ _,HS.out⟩
theorem kX {a b:List Int}:∀ {zs:List Int}{s:Int},(∀ z ∈ zs,a.getD z.toNat 0=b.getD z.toNat 0)->dG a s zs=dG b s zs
 | [],_,_=>rfl
 | z :: zs,s,h=>by simp only [dG];rw [h z Y,kX (fun y hy=>h y ao)]
theorem fJ {a b:List Int}{ch:Bool}:∀ {zs:List Int}{i:Nat}{m:Int},(∀ z ∈ zs,a.getD z.toNat 0=b.getD z.toNat 0)->aW a ch i m zs=aW b ch i m zs
 | [],_,_,_=>rfl
 | z :: zs,i,m,h=>by simp only [aW];rw [h z Y,fJ (fun y hy=>h y ao)]
theorem aB8 {a b:List Int}{j:Nat}{x:GN}(hn:dJ j x)(h:∀ z ∈ x.kids,a.getD z.toNat 0=b.getD z.toNat 0):gO a x=gO b x:=by
 unfold gO;rw [kX h,fJ h,fJ h]
 by_cases k4:x.kind=4
 ·have:=hn.bind k4
  rw [h _ (aF (d:=0) U)]
 ·have hk:=hn.kind
  by_cases h0:x.kind=0
  ·simp [h0]
  ·by_cases h1:x.kind=1
   ·simp [h1]
   ·by_cases h3:x.kind=3
    ·simp [h3]
    ·simp [show x.kind=2 by omega]
theorem yI {a b:List Int}{x:GN}(h:∀ z ∈ x.kids,a.getD z.toNat 0=b.getD z.toNat 0):fO a x=fO b x:=by
 unfold fO;rw [kX h,fJ h,fJ h]
theorem vG {a b:List Int}{k i:Nat}(h:a.take k=b.take k)(hi:i<k):a.getD i 0=b.getD i 0:=by
 have:(a.take k)[i]?=(b.take k)[i]?:=by rw [h]
 simp only [List.getElem?_take,hi,if_true] at this;simp [List.getD,this]
section
variable {t:List GN}{k:Nat}{ls zs:List Int}
theorem yE (hk:k<t.length)(hn:dJ k (t.getD k default))(hl:ls.take k=(aM t).take k):gO ls (t.getD k default)=(aM t).getD k 0:=by
 rw [tQ hk]
 exact aB8 hn (fun z hz=>by
  have hz':=hn.kids z hz;rw [aAo hk hz'];exact vG hl U)
theorem zX (hg:bD t k)(hs:qI t)(hk:k<t.length)(hn:dJ k (t.getD k default))(hl:zs.take k=(bK t).take k) :
  fO zs (t.getD k default)=(bK t).getD k 0∨((t.getD k default).kind=4∧(t.getD k default).values=[]∧fO zs (t.getD k default)=1∧(bK t).getD k 0=0):=by
 have e:fO zs (t.getD k default)=fO (bK (t.take k)) (t.getD k default):=yI (fun z hz=>by
  have hz':=hn.kids z hz;rw [jO hk hz'];exact vG hl U)
 rw [e,lO hk];exact oU hn (fun z h1 h2=>by rw [jO hk ⟨h1,h2⟩];exact (sR hg hs z.toNat U).1)
theorem aK7 {i:Int}{x:GN}(h:(cM x && dC i x)=false):gV i x=1:=by rw [rM,if_pos h]
theorem yQ {i:Int}{x:GN}(h:(cM x && dC i x)=true):gV i x=if gG x=0 then (if bF x then 0 else 5) else gG x:=by rw [rM,if_neg (by rw [h];decide)]
theorem aBa (h:(cM (t.getD k default) && dC k (t.getD k default))=false):cS t k=1:=by
 unfold cS;rw [aK7 h]
 rfl
theorem aFc (h:(cM (t.getD k default) && dC k (t.getD k default))=true)(hp:¬ gG (t.getD k default)=0):cS t k=gG (t.getD k default):=by
 unfold cS;rw [yQ h,if_neg hp,if_neg hp]
theorem aLx (h:(cM (t.getD k default) && dC k (t.getD k default))=true)(hp:gG (t.getD k default)=0)(hn:bF (t.getD k default)=false):cS t k=5:=by
 unfold cS;rw [yQ h,if_pos hp,hn]
 rfl
theorem aH1 (h:(cM (t.getD k default) && dC k (t.getD k default))=true)(hp:gG (t.getD k default)=0)(hn:bF (t.getD k default)=true):dJ k (t.getD k default):=by
 rw [<- kD,yQ h,if_pos hp,if_pos hn]
theorem aH0 (hg:bD t k)(hs:qI t)(hk:k<t.length)(hn:dJ k (t.getD k default))(hl:ls.take k=(aM t).take k)(hz:zs.take k=(bK t).take k) :
  cS t k=if (decide (gO ls (t.getD k default)<=256) && decide (fO zs (t.getD k default)<=1024))=false then 4 else nO t (t.getD k default):=by
 unfold cS;rw [if_pos (kD.2 hn),yE hk hn hl]
 have hc:(256<(aM t).getD k 0∨1024<(bK t).getD k 0) ↔ (decide ((aM t).getD k 0<=256) && decide (fO zs (t.getD k default)<=1024))=false:=by
  rw [Bool.and_eq_false_iff,decide_eq_false_iff_not,decide_eq_false_iff_not];rcases zX hg hs hk hn hz with h | ⟨_,_,h1,h2⟩
  ·rw [h];omega
  ·rw [h1,h2];omega
 by_cases h:(256<(aM t).getD k 0∨1024<(bK t).getD k 0)
 ·rw [if_pos h,if_pos (hc.1 h)]
 ·rw [if_neg h,if_neg (fun h'=>h (hc.2 h'))]
  rfl
theorem aA9 (hg:bD t k)(hk:k<t.length)(hc:cS t k=0):bD t (k+1):=⟨U,hg.2.1,fun j hj=>by
 rcases Nat.lt_or_eq_of_le (Nat.le_of_lt_succ hj) with h | h
 ·exact hg.2.2 j h
 ·rw [h];exact hc⟩
theorem aAb {a b:List Int}{i:Nat}{v:Int}(h:a.take i=b.take i)(ha:i<a.length)(hb:i<b.length)(hv:v=b.getD i 0):(a.set i v).take (i+1)=b.take (i+1):=by
 rw [aX 0 hb,<- hv,List.take_succ_eq_append_getElem (by simpa using ha),List.take_set_of_le (Nat.le_refl _),h];simp
theorem aA8 (_:bD t k)(hk:k<t.length)(hc:cS t k=0)(hl:ls.take k=(aM t).take k)(hll:ls.length=t.length):(ls.set k (gO ls (t.getD k default))).take (k+1)=(aM t).take (k+1):=by
 refine aAb hl U (by unfold aM;rw [eH];simpa using hk) ?_;exact yE hk (mF.1 hc).node hl
theorem aFb (hg:bD t k)(hs:qI t)(hk:k<t.length)(hc:cS t k=0)(hl:zs.take k=(bK t).take k)(hll:zs.length=t.length):(zs.set k (fO zs (t.getD k default))).take (k+1)=(bK t).take (k+1):=by
 refine aAb hl U (by unfold bK;rw [eH];simpa using hk) ?_;rcases zX hg hs hk (mF.1 hc).node hl with h | ⟨h4,hv,_⟩
 ·exact h
 ·have:=(fE (aA9 hg hk hc) (Nat.lt_succ_self k)).2.2 h4
  rw [hv] at this;simp at this
theorem rG (hk:k<t.length)(h:cC t=cZ t k (t.length - k)):cC t=if cS t k=0 then cZ t (k+1) (t.length - (k+1)) else cS t k:=by
 have e:t.length - k=(t.length - (k+1))+1:=U
 rw [h,e]
 rfl
theorem hU (hk:k<t.length)(h:cC t=cZ t k (t.length - k)){r:Int}(hc:cS t k=r)(hr:¬ r=0):cC t=r:=by
 rw [rG hk h,if_neg (by rw [hc];exact hr),hc]
end
theorem aDh {a:List Int}(ha:∀ x ∈ a,I64 x)(x:GN):I64 (fO a x):=by
 have h1:I64 1:=aj
 unfold fO
 split
 ·exact sZ _
 ·split
  ·exact jU _ _ _ h1
  ·split
   ·exact kE _ ha _ _ _ _ h1
   ·split
    ·exact kE _ ha _ _ _ _ h1
    ·exact h1
theorem oE {a:List Int}(_:∀ x ∈ a,I64 x)(x:GN):I64 (gO a x):=by
 have h0:I64 0:=aj
 have h1:I64 1:=aj
 unfold gO
 split
 ·exact h0
 ·split
  ·exact h1
  ·split
   ·exact jU _ _ _ h0
   ·split
    ·exact nY _
    ·exact nY _
theorem oW {a:List Int}(ha:∀ x ∈ a,I64 x){i:Nat}{v:Int}(hv:I64 v):∀ x ∈ a.set i v,I64 x:=fun x hx=>by
 rcases List.mem_or_eq_of_mem_set hx with h | h
 ·exact ha x h
 ·rw [h];exact hv
end Go.Proofs.YtkoeecdjijfjnaaGreat
