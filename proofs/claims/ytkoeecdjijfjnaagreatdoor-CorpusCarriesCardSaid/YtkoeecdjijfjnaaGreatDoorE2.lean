/- Contracts and laws. Conditions: none. -/
import Derived.Test.YtkoeecdjijfjnaaGreatDoorDQ
set_option linter.all false
set_option maxRecDepth 100000
set_option maxHeartbeats 8000000
namespace Go.Proofs.YtkoeecdjijfjnaaGreatDoor
open Go.RowKit
theorem iD (x:GN)(a:NA)(b o:Nat)(kids:List GV)(A:Option Addr)(c:Nat)(w:World)(hn:aR w b o x a) :
  Calls Tryz.prog 62 #[qt b o,.slice A kids c] w fun e w'=>e=.returned (cN (cB x.name kids) A c)∧Ext w w':=by
 have c1:=hn.c1;have lb:=hn.lt;clear hn;by_cases he:x.name.toList=[]
 ·have he1:x.name.toList.isEmpty=true:=by simp [he]
  have HM:=aYf (show cB x.name kids=.mk 2 0 ByteArray.empty kids by unfold cB bF;rw [he1];rfl);go_enter Tryz.func62,Tryz.ntmps62;go_wp2_with fail;rw [HM.out];exact bodyPost_ret (v:=.agg #[.int .i64 2,qz,.string ByteArray.empty,.slice A kids c]) (by simp [results,Tryz.results62,go_sem];rfl) rfl ⟨rfl,(aq _).alloc' _⟩
 ·have he1:x.name.toList.isEmpty=false:=by simpa using he
  have HM:=aYf (show cB x.name kids=.mk 3 0 x.name kids by unfold cB bF;rw [he1];rfl);go_enter Tryz.func62,Tryz.ntmps62;go_wp2_with fail;rw [HM.out];exact bodyPost_ret (v:=.agg #[.int .i64 3,qz,x.name,.slice A kids c]) (by simp [results,Tryz.results62,go_sem]) rfl ⟨rfl,(aq _).alloc' _⟩
theorem jZ (x:GN)(a:NA)(b o:Nat)(w:World)(hn:aR w b o x a) :
  qg 90 #[qt b o] w (mr (.int .i64 (aP x)) w):=by
 have HO:=aYf (show aP x=if x.kind=1 then wrap64 (wrap64 (x.hi - x.lo)+1) else x.kids.length from rfl);have c0:=hn.c0;have c2:=hn.c2;have c3:=hn.c3;have c7:=hn.c7;clear hn;by_cases hk:x.kind=1
 ·have t1:(x.kind == 1)=true:=aYh hk
  have HK:=aYf hk;clear hk;go_enter Tryz.func90,Tryz.ntmps90;go_wp2_with fail;go_quiet (fail);go_wp2_with fail;go_ret;refine ⟨aK ?_,_,rfl⟩;rw [HO.out,if_pos HK.out]
 ·have t1:(x.kind == 1)=false:=aYg hk
  have HK:=aYf hk;clear hk;go_enter Tryz.func90,Tryz.ntmps90;go_wp2_with fail;go_ret;exact ⟨aK (by rw [HO.out,if_neg HK.out]),0,rfl⟩
def KV (ls:List Int)(x:GN)(ch:Bool)(W:World)(s m i:Value)(wr:World):Prop :=
 ∃ (k:Nat) (s1 m1:Int),k<=x.kids∧i=↑k∧s=↑s1∧m=↑m1∧W=wr ∧
  dO ls 0 x.kids=dO ls s1 (x.kids.drop k)∧bA ls ch 0 0 x.kids=bA ls ch k m1 (x.kids.drop k)
theorem lC (ls:List Int)(x:GN)(a:NA)(b o:Nat)(P Q:Nat->Prop)(vl:Value)(w:World)(hn:aR w b o x a)(hx:NAt w P x a)(hl:bL w Q vl ls)(hok:cR ls x) :
  Calls Tryz.prog 61 #[qt b o,vl] w fun e w'=>e=.returned (.int .i64 (gZ ls x))∧w=w':=by
 have HL:=aYf hl;have hki:=hx.kids;have HK:=aYf hok.kids;have hkd:=hok.kind;have HBD:=aYf (show x.kind=4->0<x.kids.length from fun h=>by have:=hok.bind h;omega);obtain ⟨Al,cl,el,hl1,hl2⟩:=hl.form;subst el;obtain ⟨hkl1,hkl2⟩:=hx.kids.le;have c0:=hn.c0;have c7:=hn.c7;have HLR:=aYf (show gZ ls x=if x.kind=0 then 0 else if x.kind=1 then 1 else if x.kind=3 then dO ls 0 x.kids else if x.kind=2 then wrap64 (1+bA ls true 0 0 x.kids) else wrap64 (ls.getD (x.kids.getD 0 0).toNat 0+bA ls false 0 0 x.kids) from rfl);clear hx hl hok hn;generalize a.kA=Ak at *;generalize a.kc=kc at *;have HX:=aYf hki;clear hki;obtain ⟨ch,hch⟩:∃ ch:Bool,ch=decide (x.kind=2):=⟨_,rfl⟩;have HCH:=aYf hch;have t2:(x.kind == 2)=ch:=by rw [hch];exact rfl
 clear hch;go_enter Tryz.func61,Tryz.ntmps61;go_wp2_with fail;go_loopw [5,6,14] (fun s m i wr=>KV ls x ch w s m i wr) (fun _ _ i _=>x.kids.length - (intOf i).toNat)
 case atStart=>exact ⟨0,0,0,af _,rfl,rfl,rfl,rfl,rfl,rfl⟩
 case round =>
  obtain ⟨k,s1,m1,hk,rfl,rfl,rfl,rfl,hs,hm⟩:=hrel;have HS:=aYf hs;have HM:=aYf hm;clear hs hm;by_cases hlt:k<x.kids
  ·obtain ⟨b1,o1,rfl,-,-,g1⟩:=HX.out.get hlt
   have hz:=HK.out _ (aC (d:=0) hlt);have HD1:=aYf (HS.out.trans (by rw [aJ 0 hlt,dO]));have HD2:=aYf (show bA ls ch 0 0 x.kids=bA ls ch (k+1) (if ch=true∨0<k then (if m1<ls.getD (x.kids.getD k 0).toNat 0 then ls.getD (x.kids.getD k 0).toNat 0 else m1) else m1) (x.kids.drop (k+1)) by rw [HM.out,aJ 0 hlt,bA]);generalize x.kids.getD k 0=z at *;obtain ⟨b2,o2,rfl,-,-,g2⟩:=HL.out.get (i:=z.toNat) I;generalize ls.getD z.toNat 0=y at *;by_cases hk0:0<k
   ·have tk:decide (0<(k:Int))=true:=aYi I
    go_wp2_with fail
    all_goals
     go_roundw
     case rel=>exact ⟨k+1,_,_,I,by go_num,rfl,rfl,rfl,HD1.out,by rw [HD2.out,if_pos (.inr hk0)];try (first | rw [if_pos dz] | rw [if_neg I])⟩
     case measure=>simp [intOf];omega
   ·have tk:decide (0<(k:Int))=false:=aYj I
    cases ch
    ·go_wp2_with fail
     go_roundw
     case rel=>exact ⟨k+1,_,_,I,by go_num,rfl,rfl,rfl,HD1.out,by rw [HD2.out,if_neg bh]⟩
     case measure=>simp [intOf];omega
    ·go_wp2_with fail
     all_goals
      go_roundw
      case rel=>exact ⟨k+1,_,_,I,by go_num,rfl,rfl,rfl,HD1.out,by rw [HD2.out,if_pos (.inl rfl)];try (first | rw [if_pos dz] | rw [if_neg I])⟩
      case measure=>simp [intOf];omega
  ·have HS2:=aYf (show dO ls 0 x.kids=s1 by rw [HS.out,drop_nil I,dO])
   have HM2:=aYf (show bA ls ch 0 0 x.kids=m1 by rw [HM.out,drop_nil I,bA]);clear t2;by_cases k0:x.kind=0
   ·have t0:(x.kind == 0)=true:=aYh k0
    have t1:(x.kind == 1)=false:=aYg I;have t2:(x.kind == 2)=false:=aYg I;have t3:(x.kind == 3)=false:=aYg I;have t4:(x.kind == 4)=false:=aYg I;have HF:=aYf (show gZ ls x=0 by rw [HLR.out,if_pos k0]);clear k0;go_wp2_with fail;go_ret;exact ⟨aK HF.out.symm,rfl⟩
   by_cases k1:x.kind=1
   ·have t1:(x.kind == 1)=true:=aYh k1
    have HF:=aYf (show gZ ls x=1 by rw [HLR.out,if_neg k0,if_pos k1]);clear k1 k0;go_wp2_with fail;go_ret;exact ⟨aK HF.out.symm,rfl⟩
   have t1:(x.kind == 1)=false:=aYg k1;by_cases k2:x.kind=2
   ·have t2:(x.kind == 2)=true:=aYh k2
    have HF:=aYf (show gZ ls x=wrap64 (1+m1) by rw [HLR.out,if_neg k0,if_neg k1,if_neg I,if_pos k2,<- HM2.out,HCH.out,aYi k2]);clear k2 k1 k0;go_wp2_with fail;go_ret;exact ⟨aK HF.out.symm,rfl⟩
   have t2:(x.kind == 2)=false:=aYg k2;by_cases k3:x.kind=3
   ·have t3:(x.kind == 3)=true:=aYh k3
    have HF:=aYf (show gZ ls x=s1 by rw [HLR.out,if_neg k0,if_neg k1,if_pos k3,HS2.out]);clear k3 k2 k1 k0;go_wp2_with fail;go_ret;exact ⟨aK HF.out.symm,rfl⟩
   have t3:(x.kind == 3)=false:=aYg k3;have k4:x.kind=4:=by omega
   have t4:(x.kind == 4)=true:=aYh k4;have hkp:=HBD.out k4;have HF:=aYf (show gZ ls x=wrap64 (ls.getD (x.kids.getD 0 0).toNat 0+m1) by rw [HLR.out,if_neg k0,if_neg k1,if_neg k3,if_neg k2,<- HM2.out,HCH.out,aYj k2]);obtain ⟨b1,o1,rfl,-,-,g1⟩:=HX.out.get hkp;rw [Nat.add_zero] at g1;have hz:=HK.out _ (aC (d:=0) hkp);generalize x.kids.getD 0 0=z at *;obtain ⟨b2,o2,rfl,-,-,g2⟩:=HL.out.get (i:=z.toNat) I;generalize ls.getD z.toNat 0=y at *;clear k4 k3 k2 k1 k0;go_wp2_with fail;go_ret;exact ⟨aK HF.out.symm,rfl⟩
def bP (t:List GN)(path:List Int):GR :=
 if (cA t path t ((t:Int) - 1) 0).stop=-1∧(cA t path t ((t:Int) - 1) 0).used<path then ⟨(cA t path t ((t:Int) - 1) 0).val,(cA t path t ((t:Int) - 1) 0).used,-2⟩
 else cA t path t ((t:Int) - 1) 0
def JA (P:Nat->Prop)(r:GR)(w:World)(e:Ending)(w':World):Prop :=
 ∃ A c sv,e=.returned (.agg (cC r A c sv))∧VAt w' (New P w) r.val A c∧(∃ A3 m c3,sv=.slice A3 m c3)∧Ext w w'
noncomputable def R98:=RG Tryz.f77
noncomputable abbrev c98:Code:=.seq (R98 0) (.seq (R98 1) (.seq (.seq (R98 2) (.cond (.tmp 22) (R98 3) .skip)) (.seq (R98 4) .ret)))
theorem b98:Tryz.f77.body=some c98:=av
theorem pJ (t:List GN)(path:List Int)(P:Nat->Prop)(vn vp:Value)(w:World)(hd:RdT t path)(hne:0<t.length)(hP:∀ b,P b->b<w)(ht:Nds w P vn t)(hvp:bL w P vp path) :
  qg 77 #[.agg #[vn],vp] w (JA P (bP t path) w):=by
 refine gD Tryz.func77 b98 rfl U (fun a Q sz df ea hQ=>?_);have e0:=ea 0 (.agg #[vn]) rfl;have e1:=ea 1 vp rfl;obtain ⟨An,cn,rfl,-⟩:=ht.form;obtain ⟨Ap,cp,rfl,-⟩:=hvp.form;have hsm:=hd.small;obtain ⟨n,hn⟩:∃ n:Nat,t.length=n+1:=⟨t.length - 1,I⟩;have hn1:(t:Int) - 1=(n:Int):=by omega
 clear hn;refine rS ?_;refine lv (w1:=w.alloc (qk #[.slice An t cn] 25)) (v:=qp w) ?_ (hrun:=by simp [execOp,go_sem, *];try rfl);obtain ⟨B1,x1,n1⟩:=nw w 25 #[.slice An t cn];generalize w.alloc (qk #[.slice An t cn] 25)=w1 at *;refine lv (w1:=w1.alloc (qk eU 146)) (v:=qp w1) ?_ (hrun:=by simp [execOp,go_sem, *];try rfl);obtain ⟨B2,x2,n2⟩:=nw w1 146 eU;generalize w1.alloc (qk eU 146)=W at *;refine lE2 a [1] 2 4 ?_;intro a1 u1 e2 e4;refine u1.c1 sz df e1 fun sz df e1=>?_
 have y0:=(B1.ext x2).cell' (u:=.slice An t cn) 0 rfl;have hX:=x1.trans' x2;refine rS ?_;iterate 4 refine lv ?_
 refine lv (w1:=W) (v:=↑(n:Int)) ?_ (hrun:=by simp [execOp,go_sem, *];try simp (disch:=omega) only [wrI]);refine lv ?_;refine lc Tryz.func109 (Cy hd t hsm n 0 P _ _ W I I (Int.le_refl _) I (fun b hb=>by have:=hP b hb;have:=hX.size;omega) (ht.ext hX) (hvp.ext hX)) ?_;rintro e w3 ⟨A,c,sv,m,xs,rfl,hv,hrow,-,hx3⟩;refine ⟨_,rfl,?_⟩;obtain ⟨As,cs,rfl,-,-,-⟩:=Sl.of_own hrow;have hRR:bP t path=if (cA t path t n 0).stop=-1∧(cA t path t n 0).used<path then ⟨(cA t path t n 0).val,(cA t path t n 0).used,-2⟩ else cA t path t n 0:=by rw [<- hn1];rfl
 generalize cA t path t n 0=r at *;refine lv (w1:=w3.alloc (qk eU 146)) (v:=qp w3) ?_ (hrun:=by simp [execOp,go_sem, *];try rfl);obtain ⟨B4,x4,n4⟩:=nw w3 146 eU;generalize w3.alloc (qk eU 146)=w4 at *;refine ls (w1:=w4.setCells w3 0 (fU r A c (.slice As m cs))) ?_ (hrun:=by simp [execOp,go_sem,B4.cell,B4.frozen,sz];try rfl);have B5:Blk (w4.setCells w3 0 (fU r A c (.slice As m cs))) w3 146 (cC r A c (.slice As m cs)):=aF (fU r A c (.slice As m cs)) (cs:=[qz,qz,qe,qn,qz,qz,qn]) 0 B4 U;have hf5:Fr (fun k=>k=w3.heap.size) w4 (w4.setCells w3 0 (fU r A c (.slice As m cs))):=(au _ w4).setCells _ 0 (.inl rfl);have x5:Ext w3 (w4.setCells w3 0 (fU r A c (.slice As m cs))):=((ar x4).trans hf5).new_ext (fun k hk=>by omega);clear B4 hf5 x4;generalize w4.setCells w3 0 (fU r A c (.slice As m cs))=w5 at *;refine lE a1 [1,4] 5 ?_;intro a5 u5 e5;refine u5.c2 sz df e1 e4 fun sz df e1 e4=>?_
 have c2:=B5.cell' (u:=↑r.used) 4 rfl;have c3:=B5.cell' (u:=↑r.stop) 5 rfl;have f3:=B5.frozen 5;have hv5:VAt w5 (fun b=>(P b∨W<=b)∧b<w3) r.val A c:=(hv.carry (Q:=fun b=>(P b∨W<=b)∧b<w3) (fun _ _ _=>rfl) (fun b hb h=>⟨h,hb⟩)).carry (aB.of_ext x5) (fun _ _ h=>h);have hx5:=hx3.trans' x5;have hs3:=hx3.size
 have hend:∀ (a6:Act) (w6:World) (s:Int),Ag [4,5] a5 a6->Blk w6 w3 146 (cC ⟨r.val,r.used,s⟩ A c (.slice As m cs))->Fr (fun k=>k=w3.heap.size) w5 w6->bP t path=⟨r.val,r.used,s⟩->qw (.seq (R98 4) .ret) Q a6 w6:=by
  intro a6 w6 s u6 B6 hf6 hr;refine u6.c2 sz df e4 e5 fun sz df e4 e5=>?_
  have B7:=((B2.ext hx5).fr hf6 I);refine rS ?_;refine lv (w1:=w6) (v:=.agg (cC ⟨r.val,r.used,s⟩ A c (.slice As m cs))) ?_ (hrun:=by simp [execOp,go_sem,B6.cell,e5];try rfl);refine ls (w1:=w6.setCells w1 0 (fU ⟨r.val,r.used,s⟩ A c (.slice As m cs))) ?_ (hrun:=by simp [execOp,go_sem,B7.cell,B7.frozen,sz,e4];try rfl);have hb:=aF (fU ⟨r.val,r.used,s⟩ A c (.slice As m cs)) (cs:=[qz,qz,qe,qn,qz,qz,qn]) 0 B7 U;have hf8:Fr (fun k=>k=w1.heap.size) w6 (w6.setCells w1 0 (fU ⟨r.val,r.used,s⟩ A c (.slice As m cs))):=(au _ w6).setCells _ 0 (.inl rfl);have hF:=(hf6.mono (N:=fun k=>k=w1.heap.size∨k=w3.heap.size) (fun _ h=>.inr h)).trans (hf8.mono fun _ h=>.inl h);have q0:=hb.cell' (u:=↑r.val.kind) 0 rfl;have q1:=hb.cell' (u:=↑r.val.n) 1 rfl;have q2:=hb.cell' (u:=r.val.s) 2 rfl;have q3:=hb.cell' (u:=.slice A r.val.kids c) 3 rfl;have q4:=hb.cell' (u:=↑r.used) 4 rfl;have q5:=hb.cell' (u:=↑s) 5 rfl;have q6:=hb.cell' (u:=.slice As m cs) 6 rfl;refine lN a6 [4] ?_;intro a7 u7
  refine wp_ret (hQ _ _ (.agg (cC ⟨r.val,r.used,s⟩ A c (.slice As m cs))) (u7.df.trans df) (by simp [results,Tryz.results77,go_sem,evT (u7.get 4 e4),q0,q1,q2,q3,q4,q5,q6]) (by rw [hr];exact ⟨A,c,_,rfl,hv5.carry (aB.of_fr hF (fun k hk h=>by
   rcases hk.1 with h' | h'
   ·have:=hP k h';omega
   ·omega)) (fun b _ h=>h.1.imp id (fun h=>by omega)),⟨_,_,_,rfl⟩,((ar (hX.trans' hx5)).trans hF).new_ext (fun k hk=>by omega)⟩))
 have key:∀ (K:Exit->Act->World->Prop),(∀ b,Ag [4,5] a5 b->qq b 22 (.bool (decide (r.stop=-1∧r.used<path)))->K .normal b w5)->qw (R98 2) K a5 w5:=by
  intro K hK;by_cases hs:r.stop=-1
  ·have ts:(r.stop == -1)=true:=aYh hs
   refine rW ?_;iterate 4 refine lv ?_
   iterate 5 refine ly ?_
   refine lv ?_;refine lE a5 [4,5] 22 ?_;intro b u e;exact hK b u (e.trans (by simp [hs]))
  ·have ts:(r.stop == -1)=false:=aYg hs
   refine rW ?_;iterate 4 refine lv ?_
   iterate 5 refine ln ?_
   refine lv ?_;refine lE a5 [4,5] 22 ?_;intro b u e;exact hK b u (e.trans (by simp [hs]))
 refine wp_seq (wp_seq (key _ (fun a6 u6 e22=>?_)));clear key;by_cases hb:r.stop=-1∧r.used<path
 ·rw [if_pos hb] at hRR
  refine wp_cond_true (e22.trans (by simp [hb])) (rW ?_);refine u6.b1 sz e5 fun sz e5=>?_
  refine lv ?_;refine ls (w1:=w5.setCell (qt w3 5) (.int .i64 (-2))) ?_ (hrun:=by simp [execOp,go_sem, *];try rfl);refine lN a6 [4,5] ?_;intro a7 u7;exact hend a7 _ (-2) (u6.trans u7) (by simpa using B5.set_ 5 (.int .i64 (-2))) ((au (fun k=>k=w3.heap.size) w5).setCell (p:=qt w3 5) (.inl rfl) _) hRR
 ·rw [if_neg hb] at hRR
  exact wp_cond_false (e22.trans (by simp [hb])) (wp_skip (hend a6 _ r.stop u6 B5 (au _ _) hRR))
def pc (w:World)(g:Nat)(a b c d e f h:Value):World :=
 ((((((w.setCell (qp g) a).setCell (qt g 1) b).setCell (qt g 2) c).setCell (qt g 3) d).setCell (qt g 4) e).setCell (qt g 5) f).setCell (qt g 6) h
theorem CB {w:World}{g:Nat}{t:TypeId}{c0 c1 c2 c3 c4 c5 c6:Value}(h:Blk w g t #[c0,c1,c2,c3,c4,c5,c6])(u0 u1 u2 u3 u4 u5 u6:Value):Blk (pc w g u0 u1 u2 u3 u4 u5 u6) g t #[u0,u1,u2,u3,u4,u5,u6]:=by
 have h1:=((((((h.set_ 0 u0).set_ 1 u1).set_ 2 u2).set_ 3 u3).set_ 4 u4).set_ 5 u5).set_ 6 u6;simp only [List.setIfInBounds_toArray,List.set_cons_zero,List.set_cons_succ] at h1;exact h1
theorem Cd {w:World}{g:Nat}{base:Nat}{e:TypeId}{size:Nat}{v:Value}{n:Nat}{xs:List Value}(h:w.ownsRow base e size v n xs)(hg:g<base)(u0 u1 u2 u3 u4 u5 u6:Value):(pc w g u0 u1 u2 u3 u4 u5 u6).ownsRow base e size v n xs :=
 ownsRow_setCell_below (ownsRow_setCell_below (ownsRow_setCell_below (ownsRow_setCell_below (ownsRow_setCell_below (ownsRow_setCell_below (ownsRow_setCell_below h (a:=qp g) hg _) (a:=qt g 1) hg _) (a:=qt g 2) hg _) (a:=qt g 3) hg _) (a:=qt g 4) hg _) (a:=qt g 5) hg _) (a:=qt g 6) hg _
theorem bL.of_own {w:World}{base:Nat}{v:Value}{l:List Int}{Q:Nat->Prop}(ho:w.ownsRow base 3 1 v l (l.map (Value.int .i64)))(h64:∀ x ∈ l,I64 x)(hl:l.length<=17592186044416)(hQ:∀ b,v.ownBlock=some b->Q b):bL w Q v l:=by
 obtain ⟨A,c,e,h1,h2,h3⟩:=Sl.of_own ho;unfold maxLen at h2;exact ⟨A,c,e,h1,⟨hl,h2⟩,h64,h3 Q hQ⟩
def lenOf:Value->Nat
 | .slice _ n _=>n
 | _=>0
theorem GI {t:List GN}{path:List Int}(hd:RdT t path)(hne:0<t.length):oF t path (t.length - 1) 0 (cA t path t ((t:Int) - 1) 0):=by
 have:=vG hd.good path hd.path t (t.length - 1) 0 I I (Int.le_refl _) I;rw [show ((t:Int) - 1)=((t.length - 1:Nat):Int) by omega];exact this
theorem H7 {t:List GN}{path:List Int}(hd:RdT t path)(hne:0<t.length)(h:0<=(bP t path).stop) :
  (bP t path).stop<t∧path.length<256∧((t.getD (bP t path).stop.toNat default).kind=1∨(t.getD (bP t path).stop.toNat default).kind=2):=by
 have hr:=GI hd hne;unfold bP at h ⊢;generalize cA t path t ((t:Int) - 1) 0=r at *;have hl:=(bJ hd.good (t.length - 1) I).bd.2;split at h
 ·exact absurd h U
 ·next hc =>
  rw [if_neg hc];rcases hr.stop with hs | hs | ⟨h1,h2,h3,h4⟩
  ·omega
  ·omega
  ·exact ⟨I,I,h3⟩
theorem AD {M:Nat->Prop}{w0 w:World}{g:Nat}(h:Fr M w0 w)(hg:M g)(u0 u1 u2 u3 u4 u5 u6:Value):Fr M w0 (pc w g u0 u1 u2 u3 u4 u5 u6) :=
 ((((((h.setCell (p:=qp g) (.inl hg) _).setCell (p:=qt g 1) (.inl hg) _).setCell (p:=qt g 2) (.inl hg) _).setCell (p:=qt g 3) (.inl hg) _).setCell (p:=qt g 4) (.inl hg) _).setCell (p:=qt g 5) (.inl hg) _).setCell (p:=qt g 6) (.inl hg) _
def dS:List GV->List GV->List GV
 | [],b=>b
 | x :: xs,[]=>x :: xs
 | x :: xs,y :: ys=>if cS x y<0 then x :: dS xs (y :: ys) else if cS x y=0 then x :: dS xs ys else y :: dS (x :: xs) ys
termination_by a b=>a.length+b
decreasing_by all_goals (simp only [ai];omega)
theorem fB (b:List GV):dS [] b=b:=by simp [dS]
theorem nI (a:List GV):dS a []=a:=by cases a <;> simp [dS]
theorem lL (x y:GV)(xs ys:List GV):dS (x :: xs) (y :: ys)=if cS x y<0 then x :: dS xs (y :: ys) else if cS x y=0 then x :: dS xs ys else y :: dS (x :: xs) ys:=by rw [dS]
theorem fJ:∀ (a b:List GV)(z:GV),z ∈ dS a b ↔ z ∈ a∨z ∈ b
 | [],b,z=>by simp [fB]
 | x :: xs,[],z=>by simp [nI]
 | x :: xs,y :: ys,z=>by
  rw [lL];split
  ·rw [ao,fJ xs (y :: ys) z];simp only [ao]
   constructor
   ·rintro (h | h | (h | h))
    ·exact .inl (.inl h)
    ·exact .inl (.inr h)
    ·exact .inr (.inl h)
    ·exact .inr (.inr h)
   ·rintro ((h | h) | (h | h))
    ·exact .inl h
    ·exact .inr (.inl h)
    ·exact .inr (.inr (.inl h))
    ·exact .inr (.inr (.inr h))
  ·split
   ·next h0 =>
    have e:=fX x y h0;subst e;rw [ao,fJ xs ys z];simp only [ao];constructor
    ·rintro (h | h | h)
     ·exact .inl (.inl h)
     ·exact .inl (.inr h)
     ·exact .inr (.inr h)
    ·rintro ((h | h) | (h | h))
     ·exact .inl h
     ·exact .inr (.inl h)
     ·exact .inl h
     ·exact .inr (.inr h)
   ·rw [ao,fJ (x :: xs) ys z];simp only [ao]
    constructor
    ·rintro (h | (h | h) | h)
     ·exact .inr (.inl h)
     ·exact .inl (.inl h)
     ·exact .inl (.inr h)
     ·exact .inr (.inr h)
    ·rintro ((h | h) | (h | h))
     ·exact .inr (.inl (.inl h))
     ·exact .inr (.inl (.inr h))
     ·exact .inl h
     ·exact .inr (.inr h)
termination_by a b=>a.length+b
decreasing_by all_goals (simp only [ai];omega)
theorem iU:∀ (a b:List GV),Inc a->Inc b->Inc (dS a b)
 | [],b,_,hb=>by rw [fB];exact hb
 | x :: xs,[],ha,_=>by rw [nI];exact ha
 | x :: xs,y :: ys,ha,hb=>by
  have ha':=List.pairwise_cons.1 ha;have hb':=List.pairwise_cons.1 hb;rw [lL];split
  ·next h =>
   refine List.pairwise_cons.2 ⟨fun z hz=>?_,iU xs (y :: ys) ha'.2 hb⟩;rcases (fJ xs (y :: ys) z).1 hz with hz | hz
   ·exact ha'.1 z hz
   ·rcases ao.1 hz with rfl | hz
    ·exact h
    ·exact ltV.tr h (hb'.1 z hz)
  ·split
   ·next h0 =>
    have e:=fX x y h0;subst e;refine List.pairwise_cons.2 ⟨fun z hz=>?_,iU xs ys ha'.2 hb'.2⟩;rcases (fJ xs ys z).1 hz with hz | hz
    ·exact ha'.1 z hz
    ·exact hb'.1 z hz
   ·next h h0 =>
    have hyx:ltV y x:=by unfold ltV;have:=mR x y;omega
    refine List.pairwise_cons.2 ⟨fun z hz=>?_,iU (x :: xs) ys ha hb'.2⟩;rcases (fJ (x :: xs) ys z).1 hz with hz | hz
    ·rcases ao.1 hz with rfl | hz
     ·exact hyx
     ·exact hyx.tr (ha'.1 z hz)
    ·exact hb'.1 z hz
termination_by a b=>a.length+b
decreasing_by all_goals (simp only [ai];omega)
theorem F4 {a b:List GV}(ha:Inc a)(hb:Inc b):dS a b=eS (a ++ b) :=
 Inc.ext (iU a b ha hb) (jS _) (fun z=>by rw [fJ,eX,ap])
def Mv (P:Nat->Prop)(l:List GV)(w:World)(e:Ending)(w':World):Prop :=
 ∃ A c,e=.returned (.slice A l c)∧bZ w' (New P w) (.slice A l c) l∧Ext w w'
theorem bZ.tail {w:World}{P:Nat->Prop}{b off c:Nat}{x:GV}{l:List GV}(h:bZ w P (.slice (qt b off) (l+1) c) (x :: l)):bZ w P (.slice (qt b (off+4)) l (c - 1)) l:=by
 obtain ⟨A,c',css,e,h1,h2,h3,h4⟩:=h;injection e with e1 e2 e3;subst e1 e3;have h5:=h3.drop (k:=1) U;have h6:=h4.drop 1;simp only [List.drop_succ_cons,List.drop_zero,Nat.one_mul,ai,Nat.add_sub_cancel] at h5 h6;simp only [ai] at h1 h2;exact ⟨_,c - 1,_,rfl,I,I,h5,h6⟩
theorem bZ.nil_any (w:World)(P:Nat->Prop)(A:Option Addr)(c:Nat)(hc:c<=9223372036854775807):bZ w P (.slice A 0 c) []:=⟨A,c,[],rfl,U,⟨U,hc⟩,⟨rfl,fun h=>absurd h U⟩,rfl⟩
def LE (a b:List GV)(P:Nat->Prop)(w:World)(B:Nat)(v0 v1 v5:Value)(wr:World):Prop :=
 ∃ (a' b' out:List GV) (xs:List Value),bZ wr P v0 a'∧bZ wr P v1 b'∧wr.ownsRow B 58 4 v5 out xs∧RVs wr P out xs∧Ext w wr∧out.length+a'+b'.length<=a+b∧dS a b=out ++ dS a' b'
theorem Kt (a b:List GV)(P:Nat->Prop)(va vb:Value)(w:World)(ha:bZ w P va a)(hb:bZ w P vb b)(hla:a.length<=100000)(hlb:b.length<=100000)(hP:∀ b,P b->b<w) :
  qg 147 #[va,vb] w (Mv P (dS a b) w):=by
 have HA:=aYf ha;have HB:=aYf hb;have HPP:=aYf hP;obtain ⟨Aa,ca,ea,ha1,ha2⟩:=ha.form;obtain ⟨Ab,cb,eb,hb1,hb2⟩:=hb.form;subst ea eb;clear ha hb hP;obtain ⟨i0,hi,hz0,hz1,hz2⟩:=info_parts Tryz.info58;have HI:=aYf hi;by_cases h0:a.length=0
 ·have hnil:a=[]:=List.length_eq_zero_iff.1 h0
  have HQ:=aYf (show dS a b=b by rw [hnil,fB]);have t0:((a:Int) == 0)=true:=aYh I;have t1:(a.length == 0)=true:=aYh h0;have hle:¬ 0<a.length:=by omega
  clear hi hnil h0;go_enter Tryz.func147,Tryz.ntmps147;go_wp2_with fail;go_ret;rw [HQ.out];exact ⟨Ab,cb,rfl,HB.out.imp (fun _ _ h=>.inl h),aq _⟩
 have t0:((a:Int) == 0)=false:=aYg I;have t1:(a.length == 0)=false:=aYg h0
 have hmk:∀ W:World,(Instr.makeSlice 56 qz (.int .i64 ((a:Int)+(b:Int)))).run Tryz.prog W=.ok (.slice (qp W) 0 (a.length+b)) (W.alloc (qk (madeCells (Value.agg #[qz,qz,.string ByteArray.empty,qn]).cells ((a.length+b)*4)) 58)):=by
  intro W;have h:=run_make (P:=Tryz.prog) W 56 58 i0 _ Tryz.underlying56 hi hz0 .i64 .i64 0 ((a:Int)+(b:Int)) (Int.le_refl _) I fp I;rw [hz1] at h;rw [h];have e:((a:Int)+(b:Int)).toNat=a+b:=by omega
  rw [e];rfl
 clear hi h0;go_enter Tryz.func147,Tryz.ntmps147;go_wp2_with fail;have HOW:=aYf (World.ownsRow_made (base:=w.heap.size) (e:=58) (size:=4) w (madeCells #[qz,qz,.string ByteArray.empty,qn] ((a.length+b)*4)) (a.length+b) (ab _) du (size_madeCells _ _));have HE:=aYf (show Ext w (w.alloc (qk (madeCells #[qz,qz,.string ByteArray.empty,qn] ((a.length+b)*4)) 58)) from (aq w).alloc' _);generalize hW:w.alloc (qk (madeCells #[qz,qz,.string ByteArray.empty,qn] ((a.length+b)*4)) 58)=W at *;clear hW hmk;go_loopw [0,1,5] (fun v0 v1 v5 wr=>LE a b P w w v0 v1 v5 wr) (fun v0 v1 _ _=>lenOf v0+lenOf v1)
 case atStart=>exact ⟨a,b,[],[],HA.out.ext HE.out,HB.out.ext HE.out,HOW.out,rfl,HE.out,U,rfl⟩
 case round =>
  obtain ⟨a',b',out,xs,hva,hvb,hown,hrv,hx,hle,hmv⟩:=hrel;have HVA:=aYf hva;have HVB:=aYf hvb;have HOWN:=aYf hown;have HRV:=aYf hrv;have HX:=aYf hx;have HMV:=aYf hmv;obtain ⟨A0,c0,e0,h01,h02⟩:=hva.form;obtain ⟨A1,c1,e1,h11,h12⟩:=hvb.form;obtain ⟨A5,c5,e5,-,-,-⟩:=Sl.of_own hown;subst e0 e1 e5;have hsz:=hx.size;clear hva hvb hown hrv hx hmv;rcases a' with _ | ⟨x,xs'⟩
  ·skip
   have HM2:=aYf (HMV.out.trans (by rw [fB]));obtain ⟨s0,hs0,hr0⟩:=HVA.out.slice_parts;obtain ⟨s1,hs1,hr1⟩:=HVB.out.slice_parts;have HS0:=aYf hs0;have HR0:=aYf hr0;have HS1:=aYf hs1;have HR1:=aYf hr1;clear hs0 hr0 hs1 hr1;simp only [List.length_nil,ai] at hle h01 h02 h11 h12
   go_wp2_with (first
    | (at_builtin;refine aM _ rfl (.tmp 52) (.tmp 53) 56 dd w 58 i0 _ 4 56 Tryz.underlying56 HI.out hz0 hz1 hz2 rfl I (.slice A5 out c5) _ _ rfl HOWN.out P A0 [].length c0 s0 rfl HS0.out HR0.out.oneCell bh bh I ?_;intro v6 w6 ho6 hbl6)
    | (at_builtin;refine aM _ rfl (.tmp 54) (.tmp 55) 56 dd w 58 i0 _ 4 56 Tryz.underlying56 HI.out hz0 hz1 hz2 rfl I v6 _ _ rfl ho6 P A1 b' c1 s1 rfl (HS1.out.carry I (aB.of_below hbl6 HPP.out) (fun _ _ h=>h)) HR1.out.oneCell bh bh (by have:=hbl6.size;omega) ?_;intro v7 w7 ho7 hbl7))
   have hbw:Below w wr w7:=hbl6.trans hbl7;have hk:aB P wr w7:=aB.of_below hbw HPP.out;have hrv7:=RVs.append (RVs.append (RVs.carry (Q:=P) hk (fun _ _ h=>h) HRV.out) (RVs.carry (Q:=P) hk (fun _ _ h=>h) HR0.out)) (RVs.carry (Q:=P) hk (fun _ _ h=>h) HR1.out);have hv7:bZ w7 (New P w) v7 (out ++ [] ++ b'):=bZ.of_own (ho7.len_cast U rfl) (RVs.carry (fun _ _ _=>rfl) (fun _ _ h=>.inl h) hrv7) bh (fun b hb=>.inr (ho7.block_ge hb));obtain ⟨A7,c7,e7,-,-⟩:=hv7.form;subst e7;have HV7:=aYf hv7;have HX7:=aYf (HX.out.trans hbw);clear hv7 hrv7 hk hbw ho6 ho7 hbl6 hbl7;go_ret;have e:dS a b=out ++ [] ++ b':=HM2.out.trans U;rw [e];exact ⟨A7,c7,rfl,HV7.out,HX7.out⟩
  rcases b' with _ | ⟨y,ys'⟩
  ·skip
   have HM2:=aYf (HMV.out.trans (by rw [nI]));obtain ⟨s0,hs0,hr0⟩:=HVA.out.slice_parts;obtain ⟨s1,hs1,hr1⟩:=HVB.out.slice_parts;have HS0:=aYf hs0;have HR0:=aYf hr0;have HS1:=aYf hs1;have HR1:=aYf hr1;clear hs0 hr0 hs1 hr1;simp only [List.length_nil,ai] at hle h01 h02 h11 h12
   go_wp2_with (first
    | (at_builtin;refine aM _ rfl (.tmp 52) (.tmp 53) 56 dd w 58 i0 _ 4 56 Tryz.underlying56 HI.out hz0 hz1 hz2 rfl I (.slice A5 out c5) _ _ rfl HOWN.out P A0 (x :: xs') c0 s0 rfl HS0.out HR0.out.oneCell bh bh I ?_;intro v6 w6 ho6 hbl6)
    | (at_builtin;refine aM _ rfl (.tmp 54) (.tmp 55) 56 dd w 58 i0 _ 4 56 Tryz.underlying56 HI.out hz0 hz1 hz2 rfl I v6 _ _ rfl ho6 P A1 [].length c1 s1 rfl (HS1.out.carry I (aB.of_below hbl6 HPP.out) (fun _ _ h=>h)) HR1.out.oneCell bh bh (by have:=hbl6.size;omega) ?_;intro v7 w7 ho7 hbl7))
   have hbw:Below w wr w7:=hbl6.trans hbl7;have hk:aB P wr w7:=aB.of_below hbw HPP.out;have hrv7:=RVs.append (RVs.append (RVs.carry (Q:=P) hk (fun _ _ h=>h) HRV.out) (RVs.carry (Q:=P) hk (fun _ _ h=>h) HR0.out)) (RVs.carry (Q:=P) hk (fun _ _ h=>h) HR1.out);have hv7:bZ w7 (New P w) v7 (out ++ (x :: xs') ++ []):=bZ.of_own (ho7.len_cast U rfl) (RVs.carry (fun _ _ _=>rfl) (fun _ _ h=>.inl h) hrv7) bh (fun b hb=>.inr (ho7.block_ge hb));obtain ⟨A7,c7,e7,-,-⟩:=hv7.form;subst e7;have HV7:=aYf hv7;have HX7:=aYf (HX.out.trans hbw);clear hv7 hrv7 hk hbw ho6 ho7 hbl6 hbl7;go_ret;have e:dS a b=out ++ (x :: xs') ++ []:=HM2.out.trans U;rw [e];exact ⟨A7,c7,rfl,HV7.out,HX7.out⟩
  simp only [ai] at hle h01 h02 h11 h12;obtain ⟨b0,o0,A2,d2,rfl,-,hvx,g00,g01,g02,g03⟩:=HVA.out.get (i:=0) U;obtain ⟨b1,o1,A3,d3,rfl,-,hvy,g10,g11,g12,g13⟩:=HVB.out.get (i:=0) U;simp only [Nat.zero_mul,Nat.add_zero,List.getD_cons_zero,ai] at g00 g01 g02 g03 g10 g11 g12 g13 hvx hvy;have HVX:=aYf hvx;have HVY:=aYf hvy;have HTA:=aYf (bZ.tail HVA.out);have HTB:=aYf (bZ.tail HVB.out);have HMC:=aYf (HMV.out.trans (congrArg (out ++ ·) (lL x y xs' ys')));clear hvx hvy;have hl0:(0:Int)<(xs':Int)+1:=by omega
  have hl1:(0:Int)<(ys':Int)+1:=I;go_wp2_with fail;go_still_tail 6,av;go_wp2_with fail;refine (bT x y A2 A3 d2 d3 P P _ (HVX.out.ext (aq _).drew') (HVY.out.ext (aq _).drew')).mono ?_;rintro e w1 ⟨rfl,hx1⟩;have HX1:=aYf ((aq wr).drew'.trans' hx1);have hs1:=hx1.size;have k00:=aA HX1.out g00;have k01:=aA HX1.out g01;have k02:=aA HX1.out g02;have k03:=aA HX1.out g03;have k10:=aA HX1.out g10;have k11:=aA HX1.out g11;have k12:=aA HX1.out g12;have k13:=aA HX1.out g13;clear hx1 g00 g01 g02 g03 g10 g11 g12 g13;generalize cS x y=cv at *;have HO1:=aYf (HOWN.out.ext_ HX1.out);have hsw:w.heap.size<=w1:=by have:=HX1.out.size;omega
  by_cases hneg:cv<0
  ·have t1:decide (cv<=0)=true:=aYi I
   have t2:decide (0<=cv)=false:=aYj I;have HM2:=aYf (HMC.out.trans (by rw [if_pos hneg]));by_cases hc0:c0=1
   ·skip
    subst hc0;obtain rfl:xs'=[]:=List.length_eq_zero_iff.1 I;go_wp2_with (at_builtin;go_must (refine aM _ rfl (.tmp 34) (.tmp 38) 56 dd w 58 i0 _ 4 56 Tryz.underlying56 HI.out hz0 hz1 hz2 rfl I (.slice A5 out c5) _ _ rfl (HO1.out.alloc _) (fun _=>True) (qp w1) 1 1 (qh x A2 d2) rfl (Sl.new w1 _ _ _ _ rfl) ci I I bh ?_);intro v6 w6 ho6 hbl6);go_roundw
    case rel =>
     have hbw:Below w wr w6:=((HX1.out.mono hsz).alloc hsw _).trans hbl6;have hk:aB P wr w6:=aB.of_below hbw HPP.out;refine ⟨[],(y :: ys'),out ++ [x],_,bZ.nil_any _ _ _ _ I,HVB.out.carry hk (fun _ _ h=>h),ho6.len_cast U rfl,RVs.append (RVs.carry hk (fun _ _ h=>h) HRV.out) (RVs.one ((HVX.out.carry hk (fun _ _ h=>h)).rv)),HX.out.trans hbw,bh,fh⟩
    case measure=>simp [lenOf];try omega
   ·skip
    go_wp2_with (at_builtin;go_must (refine aM _ rfl (.tmp 34) (.tmp 38) 56 dd w 58 i0 _ 4 56 Tryz.underlying56 HI.out hz0 hz1 hz2 rfl I (.slice A5 out c5) _ _ rfl (HO1.out.alloc _) (fun _=>True) (qp w1) 1 1 (qh x A2 d2) rfl (Sl.new w1 _ _ _ _ rfl) ci I I bh ?_);intro v6 w6 ho6 hbl6);go_roundw
    case rel =>
     have hbw:Below w wr w6:=((HX1.out.mono hsz).alloc hsw _).trans hbl6;have hk:aB P wr w6:=aB.of_below hbw HPP.out;refine ⟨xs',(y :: ys'),out ++ [x],_,HTA.out.carry hk (fun _ _ h=>h),HVB.out.carry hk (fun _ _ h=>h),ho6.len_cast U rfl,RVs.append (RVs.carry hk (fun _ _ h=>h) HRV.out) (RVs.one ((HVX.out.carry hk (fun _ _ h=>h)).rv)),HX.out.trans hbw,bh,fh⟩
    case measure=>simp [lenOf];try omega
  by_cases hzero:cv=0
  ·have t1:decide (cv<=0)=true:=aYi I
   have t2:decide (0<=cv)=true:=aYi I;have HM2:=aYf (HMC.out.trans (by rw [if_neg hneg,if_pos hzero]));clear hzero;by_cases hc0:c0=1
   ·by_cases hc1:c1=1
    ·skip
     subst hc0;obtain rfl:xs'=[]:=List.length_eq_zero_iff.1 I;subst hc1;obtain rfl:ys'=[]:=List.length_eq_zero_iff.1 I;go_wp2_with (at_builtin;go_must (refine aM _ rfl (.tmp 34) (.tmp 38) 56 dd w 58 i0 _ 4 56 Tryz.underlying56 HI.out hz0 hz1 hz2 rfl I (.slice A5 out c5) _ _ rfl (HO1.out.alloc _) (fun _=>True) (qp w1) 1 1 (qh x A2 d2) rfl (Sl.new w1 _ _ _ _ rfl) ci I I bh ?_);intro v6 w6 ho6 hbl6);go_roundw
     case rel =>
      have hbw:Below w wr w6:=((HX1.out.mono hsz).alloc hsw _).trans hbl6;have hk:aB P wr w6:=aB.of_below hbw HPP.out;refine ⟨[],[],out ++ [x],_,bZ.nil_any _ _ _ _ I,bZ.nil_any _ _ _ _ I,ho6.len_cast U rfl,RVs.append (RVs.carry hk (fun _ _ h=>h) HRV.out) (RVs.one ((HVX.out.carry hk (fun _ _ h=>h)).rv)),HX.out.trans hbw,bh,fh⟩
     case measure=>simp [lenOf];try omega
    ·skip
     subst hc0;obtain rfl:xs'=[]:=List.length_eq_zero_iff.1 I;go_wp2_with (at_builtin;go_must (refine aM _ rfl (.tmp 34) (.tmp 38) 56 dd w 58 i0 _ 4 56 Tryz.underlying56 HI.out hz0 hz1 hz2 rfl I (.slice A5 out c5) _ _ rfl (HO1.out.alloc _) (fun _=>True) (qp w1) 1 1 (qh x A2 d2) rfl (Sl.new w1 _ _ _ _ rfl) ci I I bh ?_);intro v6 w6 ho6 hbl6);go_roundw
     case rel =>
      have hbw:Below w wr w6:=((HX1.out.mono hsz).alloc hsw _).trans hbl6;have hk:aB P wr w6:=aB.of_below hbw HPP.out;refine ⟨[],ys',out ++ [x],_,bZ.nil_any _ _ _ _ I,HTB.out.carry hk (fun _ _ h=>h),ho6.len_cast U rfl,RVs.append (RVs.carry hk (fun _ _ h=>h) HRV.out) (RVs.one ((HVX.out.carry hk (fun _ _ h=>h)).rv)),HX.out.trans hbw,bh,fh⟩
     case measure=>simp [lenOf];try omega
   ·by_cases hc1:c1=1
    ·skip
     subst hc1;obtain rfl:ys'=[]:=List.length_eq_zero_iff.1 I;go_wp2_with (at_builtin;go_must (refine aM _ rfl (.tmp 34) (.tmp 38) 56 dd w 58 i0 _ 4 56 Tryz.underlying56 HI.out hz0 hz1 hz2 rfl I (.slice A5 out c5) _ _ rfl (HO1.out.alloc _) (fun _=>True) (qp w1) 1 1 (qh x A2 d2) rfl (Sl.new w1 _ _ _ _ rfl) ci I I bh ?_);intro v6 w6 ho6 hbl6);go_roundw
     case rel =>
      have hbw:Below w wr w6:=((HX1.out.mono hsz).alloc hsw _).trans hbl6;have hk:aB P wr w6:=aB.of_below hbw HPP.out;refine ⟨xs',[],out ++ [x],_,HTA.out.carry hk (fun _ _ h=>h),bZ.nil_any _ _ _ _ I,ho6.len_cast U rfl,RVs.append (RVs.carry hk (fun _ _ h=>h) HRV.out) (RVs.one ((HVX.out.carry hk (fun _ _ h=>h)).rv)),HX.out.trans hbw,bh,fh⟩
     case measure=>simp [lenOf];try omega
    ·skip
     go_wp2_with (at_builtin;go_must (refine aM _ rfl (.tmp 34) (.tmp 38) 56 dd w 58 i0 _ 4 56 Tryz.underlying56 HI.out hz0 hz1 hz2 rfl I (.slice A5 out c5) _ _ rfl (HO1.out.alloc _) (fun _=>True) (qp w1) 1 1 (qh x A2 d2) rfl (Sl.new w1 _ _ _ _ rfl) ci I I bh ?_);intro v6 w6 ho6 hbl6);go_roundw
     case rel =>
      have hbw:Below w wr w6:=((HX1.out.mono hsz).alloc hsw _).trans hbl6;have hk:aB P wr w6:=aB.of_below hbw HPP.out;refine ⟨xs',ys',out ++ [x],_,HTA.out.carry hk (fun _ _ h=>h),HTB.out.carry hk (fun _ _ h=>h),ho6.len_cast U rfl,RVs.append (RVs.carry hk (fun _ _ h=>h) HRV.out) (RVs.one ((HVX.out.carry hk (fun _ _ h=>h)).rv)),HX.out.trans hbw,bh,fh⟩
     case measure=>simp [lenOf];try omega
  have t1:decide (cv<=0)=false:=aYj I;have t2:decide (0<=cv)=true:=aYi I;have HM2:=aYf (HMC.out.trans (by rw [if_neg hneg,if_neg hzero]));clear hzero hneg;by_cases hc1:c1=1
  ·skip
   subst hc1;obtain rfl:ys'=[]:=List.length_eq_zero_iff.1 I;go_wp2_with (at_builtin;go_must (refine aM _ rfl (.tmp 42) (.tmp 46) 56 dd w 58 i0 _ 4 56 Tryz.underlying56 HI.out hz0 hz1 hz2 rfl I (.slice A5 out c5) _ _ rfl (HO1.out.alloc _) (fun _=>True) (qp w1) 1 1 (qh y A3 d3) rfl (Sl.new w1 _ _ _ _ rfl) ci I I bh ?_);intro v6 w6 ho6 hbl6);go_roundw
   case rel =>
    have hbw:Below w wr w6:=((HX1.out.mono hsz).alloc hsw _).trans hbl6;have hk:aB P wr w6:=aB.of_below hbw HPP.out;refine ⟨(x :: xs'),[],out ++ [y],_,HVA.out.carry hk (fun _ _ h=>h),bZ.nil_any _ _ _ _ I,ho6.len_cast U rfl,RVs.append (RVs.carry hk (fun _ _ h=>h) HRV.out) (RVs.one ((HVY.out.carry hk (fun _ _ h=>h)).rv)),HX.out.trans hbw,bh,fh⟩
   case measure=>simp [lenOf];try omega
  ·skip
   go_wp2_with (at_builtin;go_must (refine aM _ rfl (.tmp 42) (.tmp 46) 56 dd w 58 i0 _ 4 56 Tryz.underlying56 HI.out hz0 hz1 hz2 rfl I (.slice A5 out c5) _ _ rfl (HO1.out.alloc _) (fun _=>True) (qp w1) 1 1 (qh y A3 d3) rfl (Sl.new w1 _ _ _ _ rfl) ci I I bh ?_);intro v6 w6 ho6 hbl6);go_roundw
   case rel =>
    have hbw:Below w wr w6:=((HX1.out.mono hsz).alloc hsw _).trans hbl6;have hk:aB P wr w6:=aB.of_below hbw HPP.out;refine ⟨(x :: xs'),ys',out ++ [y],_,HVA.out.carry hk (fun _ _ h=>h),HTB.out.carry hk (fun _ _ h=>h),ho6.len_cast U rfl,RVs.append (RVs.carry hk (fun _ _ h=>h) HRV.out) (RVs.one ((HVY.out.carry hk (fun _ _ h=>h)).rv)),HX.out.trans hbw,bh,fh⟩
   case measure=>simp [lenOf];try omega
