/- Contracts and laws. Conditions: none. -/
import Derived.Test.YtkoeecdjijfjnaaGreatDoorH2
set_option linter.all false
set_option maxRecDepth 100000
set_option maxHeartbeats 8000000
namespace Go.Proofs.YtkoeecdjijfjnaaGreatDoor
open Go.RowKit
def BW (t:List GN)(vn:Value)(P:Nat->Prop)(W:World)(s:Value)(wx:World):Prop :=
 ∃ gw gs gl gf,s=↑(qp gw)∧WN t vn P W gw gs gl gf (List.replicate t 0) (pF t 0) wx
theorem iT {t:List GN}{vn:Value}{P:Nat->Prop}{W w1 wx:World}{gw gl gf:Nat}{g:SA}{mi mv:Array Value}(hmi:mi=madeCells #[qz] t)(hmv:mv=madeCells #[qz,qz,.string ByteArray.empty,qn] (t*4))(ht:Nds W P vn t)(hs:bV t vn g w1)(hx1:Ext w1 wx)(hx:Ext W wx)
  (hb:Blk wx gw 118 #[qp g.s,.slice (qp gl) t t,.slice (qp gf) t t])
  (hl:Blk wx gl 3 mi)(hf:Blk wx gf 58 mv)(n1:gw ≠ gl)(n2:gw ≠ gf)(n3:gl ≠ gf)(n4:g.s ≠ gl)(n5:g.s ≠ gf)(bw:W<=gw)(bs:W<=g.s)(bl:W<=gl)(bf:W<=gf) :
  BW t vn P W (qp gw) wx:=by
 obtain ⟨kn,ls,ms,h0⟩:=hs;have e:madeCells #[qz] t.length=nB (List.replicate t 0):=by rw [gF];simp [nB]
 rw [hmi,e] at hl;have e2:pF t 0=List.replicate t default:=by unfold pF eH;simp [jN]
 refine ⟨gw,g.s,gl,gf,rfl,hb,(h0.box.ext hx1).cell' 0 rfl,hl,⟨mv.toList,by simpa using hf,?_⟩,ht.ext hx,n1,n2,n3,n4,n5,bw,bs,bl,bf,U,by rw [e2];simp,hx⟩;rw [e2,hmv,Az];exact ti _ _ _
def oq (t:List GN)(vn:Value)(P:Nat->Prop)(W:World)(gw gs gl gf:Nat)(i:Value)(wr:World):Prop :=
 ∃ (k:Nat) (ls:List Int),k<=t∧i=↑k∧WN t vn P W gw gs gl gf ls (pF t k) wr∧ls.take k=(aI t).take k∧(∀ x ∈ ls,I64 x)
def Cc (t:List GN)(vn:Value)(P:Nat->Prop)(w:World)(e:Ending)(w':World):Prop :=
 ∃ gw gs gl gf,e=.returned (qp gw)∧dY t vn gw gs gl gf (New P w) w'∧Ext w w'∧w<=gw∧w<=gs∧w<=gl∧w<=gf
theorem Dn {t:List GN}{vn:Value}{P:Nat->Prop}{w W wr:World}{gw gs gl gf:Nat}{ls:List Int}(hx:Ext w W)(h:WN t vn P W gw gs gl gf ls (pF t t) wr)(hl:ls.take t.length=(aI t).take t)(hlen:t.length<=17592186044416):Cc t vn P w (.returned (qp gw)) wr:=by
 have hll:(aI t).length=t:=jw;rw [an (by have:=h.llen;omega),an I] at hl;obtain ⟨cs,h1,h2⟩:=h.fix;rw [pE] at h2;have hsz:=hx.size;have b1:=h.bw;have b2:=h.bs;have b3:=h.bl;have b4:=h.bf;have hfl:(oM t).length=t:=by rw [<- pE,vX (ab _)]
 refine ⟨gw,gs,gl,gf,rfl,⟨h.box,h.sets,hl ▸ h.lens,?_,h.nodes.carry (fun _ _ _=>rfl) (fun _ _ h=>.inl h),.inr I,.inr I,.inr I⟩,hx.trans' h.ext,I,I,I,I⟩;refine ⟨some ↑(qp gf),t.length,cs,by rw [hfl],I,⟨I,I⟩,⟨h2.len,fun _=>⟨gf,0,rfl,.inr I,fun j u hu=>by rw [Nat.zero_add];exact h1.cell' j fy⟩⟩,?_⟩;exact RVs.carry (fun _ _ _=>rfl) (fun b _ h=>h.1.elim .inl (fun h=>.inr I)) h2
theorem iS {t:List GN}{k:Nat}{ls:List Int}(hg:aO t t)(hk:k<t)(hl:ls.take k=(aI t).take k)(hll:ls.length=t):gZ ls (t.getD k default)=(aI t).getD k 0∧(ls.set k (gZ ls (t.getD k default))).take (k+1)=(aI t).take (k+1) :=
 ⟨pt hk (hg.at_ hk).node hl,B9 (hg.mono I) hk (hg.2.2 k hk) hl hll⟩
theorem FW {t:List GN}{vn:Value}{P:Nat->Prop}{W w2:World}{gw gs gl gf k:Nat}{ls:List Int}{v:GV}{us:List Value}(hg:aO t t)(hk:k<t)(hll:ls.length=t)(hl:ls.take k=(aI t).take k)(hI:∀ x ∈ ls,I64 x){lr:Int}(hlr:lr=gZ ls (t.getD k default))
  (h:WN t vn P W gw gs gl gf (ls.set k lr) (pF t k) w2)(hP:∀ b,P b->b<W)(hv:RV w2 (fun b=>(P b∨W<=b)∧b ≠ gl∧b ≠ gf) v us)(hf:dW (aI t) (eH t k) (t.getD k default)=v) :
  oq t vn P W gw gs gl gf (.int .i64 ((k:Int)+1)) (w2.setCells gf (k*4) us):=by
 subst hlr;refine ⟨k+1,_,I,U,?_,(iS hg hk hl hll).2,pU hI (oZ hI _)⟩;rw [<- vW hk,hf];exact h.setFix hP hk hv
theorem tB {t:List GN}{vn:Value}{P:Nat->Prop}{W w2:World}{gw gs gl gf k:Nat}{ls:List Int}{v:GV}{us:List Value}(hg:aO t t)(hk:k<t)(hll:ls.length=t)(hl:ls.take k=(aI t).take k)(hI:∀ x ∈ ls,I64 x){lr:Int}(hlr:lr=gZ ls (t.getD k default))
  (h:WN t vn P W gw gs gl gf (ls.set k lr) (pF t k) w2)(hP:∀ b,P b->b<W)(hv:RV w2 (fun b=>(P b∨W<=b)∧b ≠ gl∧b ≠ gf) v us)(hf:dW (aI t) (eH t k) (t.getD k default)=v) :
  oq t vn P W gw gs gl gf (.int .i64 ((k:Int)+1)) ((w2.setCells gf (k*4) us)).drew:=by
 subst hlr;refine ⟨k+1,_,I,U,?_,(iS hg hk hl hll).2,pU hI (oZ hI _)⟩;rw [<- vW hk,hf];exact (h.setFix hP hk hv).ext_ (aq _).drew'
theorem FS {t:List GN}{vn:Value}{P:Nat->Prop}{W w2:World}{gw gs gl gf k:Nat}{ls:List Int}(hg:aO t t)(hk:k<t)(hll:ls.length=t)(hl:ls.take k=(aI t).take k)(hI:∀ x ∈ ls,I64 x){lr:Int}(hlr:lr=gZ ls (t.getD k default))
  (h:WN t vn P W gw gs gl gf (ls.set k lr) (pF t k) w2)(h0:0<lr):oq t vn P W gw gs gl gf (.int .i64 ((k:Int)+1)) w2:=by
 subst hlr;refine ⟨k+1,_,I,U,?_,(iS hg hk hl hll).2,pU hI (oZ hI _)⟩;rw [<- Je hk]
 ·exact h
 ·unfold dW
  rw [gV I,if_pos (by rw [<- (iS hg hk hl hll).1];exact h0)]
theorem lG (t:List GN)(P:Nat->Prop)(vn:Value)(w:World)(hP:∀ b,P b->b<w)(ht:Nds w P vn t)(hg:aO t t):qg 35 #[.agg #[vn]] w (Cc t vn P w):=by
 have HP:=aYf hP;have HT:=aYf ht;have HG:=aYf hg;have hbig:t.length<=4096:=hg.2.1;obtain ⟨An,cn,en,hn1,hn2⟩:=ht.form;subst en;clear ht hP hg;obtain ⟨i3,hi3,hz0,hz1,hz2⟩:=info_parts Tryz.info3;obtain ⟨i85,hi85,hy0,hy1,hy2⟩:=info_parts Tryz.info58
 have hmki:∀ W:World,(Instr.makeSlice 22 (↑(t:Int)) (↑(t:Int))).run Tryz.prog W=.ok (.slice (qp W) t t) (W.alloc (qk (madeCells #[qz] t) 3)):=by
  intro W;have h:=run_make (P:=Tryz.prog) W 22 3 i3 _ Tryz.underlying22 hi3 hz0 .i64 .i64 (t:Int) (t:Int) I (Int.le_refl _) fp I;rw [hz1,Nat.mul_one] at h;rw [h];rfl
 have HMK:=aYf (show ∀ (m:Nat) (W:World),m<=100000->(Instr.makeSlice 56 (↑(m:Int)) (↑(m:Int))).run Tryz.prog W=.ok (.slice (qp W) m m) (W.alloc (qk (madeCells #[qz,qz,.string ByteArray.empty,qn] (m*4)) 58)) by
  intro m W hm;have h:=run_make (P:=Tryz.prog) W 56 58 i85 _ Tryz.underlying56 hi85 hy0 .i64 .i64 (m:Int) (m:Int) I (Int.le_refl _) (by rw [hy2];omega) I;rw [hy1] at h;rw [h];rfl)
 have hmkv:=fun W=>HMK.out t W I
 clear hi3 hz0 hz1 hz2 i3 hi85 hy0 hy1 hy2 i85;obtain ⟨mi,hmi⟩:∃ mi,mi=madeCells #[qz] t.length:=⟨_,rfl⟩;rw [<- hmi] at hmki;have HMI:=aYf hmi;obtain ⟨mv,hmv⟩:∃ mv,mv=madeCells #[qz,qz,.string ByteArray.empty,qn] (t*4):=⟨_,rfl⟩;rw [<- hmv] at hmkv;have HMV:=aYf hmv;clear hmi hmv;go_enter Tryz.func35,Tryz.ntmps35;go_upto_region 1 with fail;have HB0:=aYf (aw w 25 #[.slice An t cn]);have HE0:=aYf ((aq w).alloc' (qk #[.slice An t cn] 25));have hW0s:(w.alloc (qk #[.slice An t cn] 25)).heap.size=w.heap.size+1:=by simp
 have HWS:=aYf hW0s;clear hW0s;generalize w.alloc (qk #[.slice An t cn] 25)=W at *;have b0:=HB0.out.cell' (u:=.slice An t cn) 0 rfl
 have HNS:=aYf (show ∀ W',Ext w W'->qg 60 #[.agg #[.slice An t cn]] W' (mq t (.slice An t cn) (fun _=>False) W') from fun W' h =>
  qF t P _ _ W' (HT.out.ext h) (fun b hb hx=>hx) (fun b hb=>hb.elim) I)
 go_cut [3] (fun s wx=>BW t (.slice An t cn) P W s wx)
 case first =>
  go_region_held3 (fun w'=>qc w' w 0 (.slice An t cn))
   (first
    | go_keep
    | exact aA hxn ‹_›
    | exact aA (hxn.alloc' _) ‹_›)
   (first
    | (go_at_call 60;refine (HNS.out _ (by first | exact HE0.out.drew' | exact (HE0.out.alloc' _).drew' | exact ((HE0.out.alloc' _).alloc' _).drew')).mono ?_;rintro e wn ⟨g,rfl,hgX,hgs,hxn,l1,l2,l3,l4⟩))
  all_goals (go_wp2_with fail)
  all_goals (go_meet)
  all_goals
   have hws:=HWS.out;have hsz:=hxn.size;obtain ⟨kn,lk,mk,hA⟩:=id hgs;have a1:=hA.box.lt;have hMI:=HMI.out;have hMV:=HMV.out;have hTT:=HT.out.ext HE0.out;clear hA HNS HT HP hmki hmkv b0 HMK;simp at hsz l1 l2 l3 l4
  all_goals first
   | exact iT (gl:=W.heap.size) (gf:=W.heap.size+1) (gw:=wn.heap.size) hMI hMV hTT hgs ((aq wn).alloc' _) ((((((aq W).alloc' _).alloc' _).drew').trans' hxn).alloc' _) (az wn 118 _ (g:=wn.heap.size) U) ((((az W 3 mi (g:=W.heap.size) U).alloc _).drew.ext hxn).alloc _) (((az (W.alloc _) 58 mv (g:=W.heap.size+1) U).drew.ext hxn).alloc _) I I I I I I I I I
   | exact iT (gl:=W.heap.size+1) (gf:=W.heap.size) (gw:=wn.heap.size) hMI hMV hTT hgs ((aq wn).alloc' _) ((((((aq W).alloc' _).alloc' _).drew').trans' hxn).alloc' _) (az wn 118 _ (g:=wn.heap.size) U) (((az (W.alloc _) 3 mi (g:=W.heap.size+1) U).drew.ext hxn).alloc _) ((((az W 58 mv (g:=W.heap.size) U).alloc _).drew.ext hxn).alloc _) I I I I I I I I I
   | exact iT (gl:=W.heap.size) (gf:=wn.heap.size) (gw:=wn.heap.size+1) hMI hMV hTT hgs (((aq wn).alloc' _).alloc' _) ((((((aq W).alloc' _).drew').trans' hxn).alloc' _).alloc' _) (az (wn.alloc _) 118 _ (g:=wn.heap.size+1) U) ((((az W 3 mi (g:=W.heap.size) U).drew.ext hxn).alloc _).alloc _) ((az wn 58 mv (g:=wn.heap.size) U).alloc _) I I I I I I I I I
   | exact iT (gl:=wn.heap.size) (gf:=W.heap.size) (gw:=wn.heap.size+1) hMI hMV hTT hgs (((aq wn).alloc' _).alloc' _) ((((((aq W).alloc' _).drew').trans' hxn).alloc' _).alloc' _) (az (wn.alloc _) 118 _ (g:=wn.heap.size+1) U) ((az wn 3 mi (g:=wn.heap.size) U).alloc _) ((((az W 58 mv (g:=W.heap.size) U).drew.ext hxn).alloc _).alloc _) I I I I I I I I I
   | exact iT (gl:=wn.heap.size) (gf:=wn.heap.size+1) (gw:=wn.heap.size+1+1) hMI hMV hTT hgs ((((aq wn).alloc' _).alloc' _).alloc' _) ((((((aq W).drew').trans' hxn).alloc' _).alloc' _).alloc' _) (az ((wn.alloc _).alloc _) 118 _ (g:=wn.heap.size+1+1) U) (((az wn 3 mi (g:=wn.heap.size) U).alloc _).alloc _) ((az (wn.alloc _) 58 mv (g:=wn.heap.size+1) U).alloc _) I I I I I I I I I
   | exact iT (gl:=wn.heap.size+1) (gf:=wn.heap.size) (gw:=wn.heap.size+1+1) hMI hMV hTT hgs ((((aq wn).alloc' _).alloc' _).alloc' _) ((((((aq W).drew').trans' hxn).alloc' _).alloc' _).alloc' _) (az ((wn.alloc _).alloc _) 118 _ (g:=wn.heap.size+1+1) U) ((az (wn.alloc _) 3 mi (g:=wn.heap.size+1) U).alloc _) (((az wn 58 mv (g:=wn.heap.size) U).alloc _).alloc _) I I I I I I I I I
 case rest =>
  obtain ⟨gw,gs,gl,gf,rfl,hA⟩:=hcut;have HA:=aYf hA;have b1:=(HB0.out.ext hA.ext).cell' (u:=.slice An t cn) 0 rfl;have HP1:=aYf (show ∀ b,P b->b<W from fun b hb=>ac (HP.out b hb) HE0.out.size);clear hA hmki hmkv b0 HNS;go_wp2_with fail;go_loopw [24] (fun i wr=>oq t (.slice An t cn) P W gw gs gl gf i wr) (fun i _=>t.length - (intOf i).toNat)
  case atStart=>exact ⟨0,_,af _,rfl,HA.out,rfl,em⟩
  case round =>
   obtain ⟨k,ls,hk,rfl,hA,hL,hI⟩:=hrel;have HA1:=aYf hA;have HL:=aYf hL;have HI:=aYf hI;by_cases hlt:k<t
   ·have hkk:(k:Int)<(t:Int):=by omega
    have b2:qc wr w 0 (.slice An t cn):=(HB0.out.ext hA.ext).cell' (u:=.slice An t cn) 0 rfl;obtain ⟨b,off,a,rfl,hPb,hx,hn⟩:=hA.nodes.get hlt;have hcheck:=HG.out.at_ hlt;have hlenok:=bJ HG.out k hlt;have hfew:=cJ HG.out hlt;have HNL:=aYf (iS HG.out hlt hL hA.llen);obtain ⟨x,hxd⟩:∃ x,x=t.getD k default:=⟨_,rfl⟩;have HXD:=aYf hxd;have HFS:=aYf (show dW (aI t) (eH t k) (t.getD k default)=dW (aI t) (eH t k) x by rw [hxd]);rw [<- hxd] at hx hn hfew;have HLK:=aYf hlenok;have hok:cR k x:=hxd ▸ hcheck.node;have HOK:=aYf hok;have HN:=aYf hn;have HX:=aYf hx;have HPB:=aYf hPb;have hll:=hA.llen;have HNO:=aYf (show cR ls x from ⟨hok.kind,hok.unused,fun z hz=>by have:=hok.kids z hz;omega,hok.choice,hok.seq,hok.bind,hok.inc,hok.valid,hok.numbers⟩)
    have HPL:=aYf (show ∀ W,Blk W gl 3 (nB ls)->aR W b (off+k*12) x a->NAt W P x a->Calls Tryz.prog 61 #[qt b (off+k*12),.slice (qp gl) t t] W fun e w'=>e=.returned (.int .i64 (gZ ls x))∧W=w' from fun W h1 h2 h3=>by
     have h4:=bL.of_blk h1 hI I;rw [hll] at h4;exact lC ls x a b (off+k*12) P _ _ W h2 h3 h4 HNO.out)
    have hkd:=hok.kind;have k1:=hA.box.cell' (u:=.slice (qp gl) t t) 1 rfl;have g1:=hA.lens.cell' k (iE (l:=ls) I);have f1:=hA.lens.frozen k;have m1:¬ gw=gl:=hA.n1;have HLR:=aYf (show gZ ls x=gZ ls (t.getD k default) by rw [hxd]);clear hA hL hI hPb hx hn hcheck hlenok hxd hok hll b1;generalize ls.getD k 0=z0 at *;obtain ⟨lr,hlr⟩:∃ lr,lr=gZ ls x:=⟨_,rfl⟩;rw [<- hlr] at HPL HLR;clear hlr;go_upto_region 6 with fail
    go_region_held3 (fun w'=>qc w' gw 1 (.slice (qp gl) t t))
     (first
      | exact fZ (w:=wr) m1 k1
      | exact k1
      | go_keep)
     (first
      | (go_at_call 61;refine (HPL.out _ (HA1.out.lens.ext (aq _).drew') (HN.out.ext (aq _).drew') (HX.out.ext (aq _).drew')).mono ?_;rintro e w' ⟨rfl,rfl⟩))
    go_upto_region 7 with fail;have HA2:=aYf ((HA1.out.setLen HP1.out k lr).ext_ (aq _).drew');have hkeep:aB P wr (wr.setCell (qt gl k) (↑lr)).drew:=aB.set (fun _ _ _=>rfl) _ (fun h=>by have h1:=HP1.out _ h;have h2:=HA1.out.bl;simp at h1;omega);have HX2:=aYf (HX.out.carry hkeep (fun _ _ h=>h));have HN2:=aYf (HN.out.keep HPB.out hkeep);clear hkeep k1 g1 f1 m1 HPL b2;generalize (wr.setCell (qt gl k) (↑lr)).drew=W1 at *;have hll:=HA1.out.llen;have k1:=HA2.out.box.cell' (u:=.slice (qp gl) t t) 1 rfl;have k2:=HA2.out.box.cell' (u:=.slice (qp gf) t t) 2 rfl;have g1:qc W1 gl k (↑lr):=HA2.out.lens.cell' k (by rw [iE bh];simp [List.getD,hll,hlt]);have HLL:=aYf hll;clear hll
    by_cases h0:0<lr
    ·have t0:decide (0<lr)=true:=aYi h0
     have HN0:=aYf (FS HG.out hlt HLL.out HL.out HI.out HLR.out HA2.out h0);go_wp2_with fail;go_roundw
     case rel=>exact HN0.out
     case measure=>simp [intOf];omega
    ·have t0:decide (0<lr)=false:=aYj h0
     have hz:(aI t).getD k 0=0:=by
      have h1:=HNL.out.1;have h2:=HLK.out.bd.1;rw [<- HLR.out] at h1;omega
     have HZL:=aYf hz;clear hz h0;have c0:=HN2.out.c0;have c7:=HN2.out.c7;obtain ⟨⟨y0,q0⟩,⟨y1,q1⟩,⟨y2,q2⟩,⟨y3,q3⟩,f0,f1,f2,f3⟩:=HA2.out.place hlt
     have HFX:=aYf (show dW (aI t) (eH t k) x=if x.kind=0 then x.value else if x.kind=3 then cB x.name (x.kids.map (fun z=>(eH t k).getD z.toNat default)) else if x.kind=4 then (eH t k).getD (x.kids.getD 1 0).toNat default else default by
      unfold dW;rw [gV I,if_neg (by rw [HZL.out];omega)])
     have np1:¬ gw=gf:=HA2.out.n2;by_cases e0:x.kind=0
     ·have te0:(x.kind == 0)=true:=aYh e0
      have c8:=HN2.out.c8;have c9:=HN2.out.c9;have c10:=HN2.out.c10;have c11:=HN2.out.c11;have hbg:¬ b=gf:=fun e=>by have h1:=HP1.out _ HPB.out;have h2:=HA2.out.bf;omega
      have HVV:=aYf (HX2.out.value.carry (Q:=fun b=>(P b∨W<=b)∧b ≠ gl∧b ≠ gf) (fun _ _ _=>rfl) (fun b _ h=>⟨.inl h,by have h1:=HP1.out _ h;have h2:=HA2.out.bl;omega,by have h1:=HP1.out _ h;have h2:=HA2.out.bf;omega⟩));have HR:=aYf (tB HG.out hlt HLL.out HL.out HI.out HLR.out HA2.out HP1.out HVV.out.rv (by rw [HFS.out,HFX.out,if_pos e0]));clear e0 c7;generalize x.value=xv at *;go_wp2_with fail
      go_region_held3 (fun w'=>qc w' gw 2 (.slice (qp gf) t t)∧qc w' b (off+k*12+8) xv.kind∧qc w' b (off+k*12+9) xv.n∧qc w' b (off+k*12+10) xv.s∧qc w' b (off+k*12+11) (.slice a.xA xv.kids a.xc))
       (first
        | with_reducible exact ⟨eB np1 k2,eB hbg c8,eB hbg c9,eB hbg c10,eB hbg c11⟩
        | with_reducible exact ⟨fY np1 k2,fY hbg c8,fY hbg c9,fY hbg c10,fY hbg c11⟩
        | go_keep)
       (first
        | fail)
      go_wp2_with fail;go_roundw
      case rel=>exact HR.out
      case measure=>simp [intOf];omega
     have te0:(x.kind == 0)=false:=aYg e0;by_cases e3:x.kind=3
     ·have te3:(x.kind == 3)=true:=aYh e3
      have hm:x.kids.length<=100000:=by have:=hfew.1;omega
      have hmk3:=fun W=>HMK.out x.kids W hm
      have lb:=HN2.out.lt;have lw:=HA2.out.box.lt;obtain ⟨hkl1,hkl2⟩:=HX2.out.kids.le;have HKV:=aYf HX2.out.kids;have HKI:=aYf HOK.out.kids;have HFX3:=aYf (show dW (aI t) (eH t k) (t.getD k default)=cB x.name (x.kids.map (fun z=>(eH t k).getD z.toNat default)) by rw [HFS.out,HFX.out,if_neg e0,if_pos e3]);have hsz:=size_madeCells #[qz,qz,.string ByteArray.empty,qn] (x.kids*4);generalize madeCells #[qz,qz,.string ByteArray.empty,qn] (x.kids*4)=mk at *;have HMS:=aYf hsz;clear hsz e0 e3 HFX q0 q1 q2 q3 f0 f1 f2 f3;generalize a.kA=Ak at *;generalize a.kc=kc at *;go_wp2_with fail;clear k1 g1;have HE3:=aYf ((aq W1).alloc' (qk mk 58));have HBK:=aYf (aw W1 58 mk);generalize W1.alloc (qk mk 58)=W3 at *;have HLF:=aYf (show (x.kids.map (fun z=>(eH t k).getD z.toNat default)).length=x.kids.length by simp);obtain ⟨lf,hlf⟩:∃ lf,lf=x.kids.map (fun z=>(eH t k).getD z.toNat default):=⟨_,rfl⟩;rw [<- hlf] at HLF HFX3;have HLX:=aYf hlf;clear hlf hmk3;go_loopw [80] (fun i wq=>BK lf (fun b=>((P b∨W<=b)∧b ≠ gl∧b ≠ gf)∧b ≠ W1) W1 W3 i wq) (fun i _=>x.kids.length - (intOf i).toNat)
      case atStart=>exact ⟨0,mk.toList,af _,rfl,by simpa using HBK.out,by rw [HLF.out];simpa using HMS.out,j6,au _ _⟩
      case round =>
       obtain ⟨j,cs,hj,rfl,hB,hcl,hR,hF⟩:=hrel;have HB:=aYf hB;have HCL:=aYf hcl;have HR:=aYf hR;have HF:=aYf hF;have HF1:=aYf ((ar (M:=fun b=>b=W1.heap.size) HE3.out).trans hF);have hlfl:=HLF.out;have hjk:j<=x.kids:=by omega
       have HLFL:=aYf hlfl;clear hB hcl hR hF hlfl hj;by_cases hlj:j<x.kids
       ·have hki:¬ (fun b=>b=W1.heap.size) b:=fun e=>by have h1:=HN2.out.lt;omega
        obtain ⟨b3,o3,rfl,hpb3,-,g3⟩:=HKV.out.get hlj;have g3':=aH HF1.out (fun e=>by have h1:=bB g3;omega) g3;have hz:=HKI.out _ (aC (d:=0) hlj);have HZE:=aYf (show lf.getD j default=(eH t k).getD (x.kids.getD j 0).toNat default by rw [HLX.out];simp [List.getD,hlj]);generalize x.kids.getD j 0=z at *;have hzt:z.toNat<t:=by omega
        obtain ⟨A4,d4,hv4,p0,p1,p2,p3⟩:=HA2.out.getFix hzt;have HZF:=aYf (show lf.getD j default=(pF t k).getD z.toNat default by rw [HZE.out,zl I I]);have ngf:¬ (fun b=>b=W1.heap.size) gf:=fun e=>by have h1:=bB p0;omega
        have ngw:¬ (fun b=>b=W1.heap.size) gw:=fun e=>by have h1:=HA2.out.box.lt;omega
        have p0':=aH HF1.out ngf p0;have p1':=aH HF1.out ngf p1;have p2':=aH HF1.out ngf p2;have p3':=aH HF1.out ngf p3;have r2':=aH HF1.out ngw k2;have HV4:=aYf (hv4.carry (Q:=fun b=>((P b∨W<=b)∧b ≠ gl∧b ≠ gf)∧b ≠ W1) (fun b hb _=>HF1.out.block b hb (fun e=>by omega)) (fun b hb h=>⟨h,I⟩));have hzi:z<(t:Int):=by omega
        have hcl:=HCL.out;have hll:=HLFL.out;obtain ⟨s0,u0⟩:=HB.out.some_ (i:=j*4) I;obtain ⟨s1,u1⟩:=HB.out.some_ (i:=j*4+1) I;obtain ⟨s2,u2⟩:=HB.out.some_ (i:=j*4+2) I;obtain ⟨s3,u3⟩:=HB.out.some_ (i:=j*4+3) I;have v0:=HB.out.frozen (j*4);have v1:=HB.out.frozen (j*4+1);have v2:=HB.out.frozen (j*4+2);have v3:=HB.out.frozen (j*4+3);generalize (pF t k).getD z.toNat default=yv at *;have hjj:(j:Int)<(x.kids:Int):=by omega
        clear hcl hll p0 p1 p2 p3 hv4 g3 hki hpb3 ngf ngw;go_wp2_with fail;go_roundw
        case rel=>exact Kj (us:=cellsOf yv A4 d4) (fun h=>h.2 rfl) (by rw [HLFL.out];exact hlj) HB.out HCL.out HR.out HF.out (by rw [HZF.out];exact HV4.out.rv)
        case measure=>simp [intOf];omega
       ·obtain rfl:j=x.kids:=by omega
        have hcl:=HCL.out;have hll:=HLFL.out
        have HVK:=aYf (show bZ wr (fun b=>(P b∨W<=b)∧b ≠ gl∧b ≠ gf) (.slice (qp W1) lf x.kids) lf from
         pN (P:=fun b=>((P b∨W<=b)∧b ≠ gl∧b ≠ gf)∧b ≠ W1) HB.out (by have h:=HR.out;rw [an I,an I] at h;exact h) hll I ⟨.inr (by have:=HA2.out.ext.size;omega),by have:=HA2.out.lens.lt;omega,by obtain ⟨cs',hb',_⟩:=HA2.out.fix;have:=hb'.lt;omega⟩ (fun b h=>h.1))
        have HNQ:=aYf (show aR wr b (off+k*12) x a from fun i u hu=>aH HF1.out (fun e=>by have h1:=HN2.out.lt;omega) (HN2.out i u hu))
        have HMD:=aYf (show ∀ W',Ext wr W'->Calls Tryz.prog 62 #[qt b (off+k*12),.slice (qp W1) x.kids x.kids] W' fun e w'=>e=.returned (cN (cB x.name lf) (qp W1) x.kids)∧Ext W' w' from fun W' h=>by
         have h1:=iD x a b (off+k*12) lf (qp W1) x.kids W' (HNQ.out.ext h);rw [hll] at h1;exact h1)
        have HVM:=aYf (VAt.made HX2.out.name HVK.out);have r2':=aH HF1.out (fun e=>by have h1:=HA2.out.box.lt;omega) k2;have HAQ:=aYf (HA2.out.frNew HF1.out);obtain ⟨⟨y0,q0⟩,⟨y1,q1⟩,⟨y2,q2⟩,⟨y3,q3⟩,f0,f1,f2,f3⟩:=HAQ.out.place hlt;clear hcl hll k2;generalize cB x.name lf=ym at *;go_wp2_with fail;have lgf:=bB q0
        go_region_held3 (fun w'=>qc w' gw 2 (.slice (qp gf) t t))
         (first
          | with_reducible exact eB np1 (aA hx6 r2')
          | with_reducible exact fY np1 (aA hx6 r2')
          | exact aA hx6 r2'
          | exact r2'
          | go_keep)
         (first
          | (go_at_call 62;refine (HMD.out _ (aq _).drew').mono ?_;rintro e w5 ⟨rfl,hx5⟩;have hx6:Ext wr w5:=(aq wr).drew'.trans' hx5;have z0:=aA hx6 q0;have z1:=aA hx6 q1;have z2:=aA hx6 q2;have z3:=aA hx6 q3;have zf0:=(hx6.frozen (p:=qt gf (k*4)) lgf).trans f0;have zf1:=(hx6.frozen (p:=qt gf (k*4+1)) lgf).trans f1;have zf2:=(hx6.frozen (p:=qt gf (k*4+2)) lgf).trans f2;have zf3:=(hx6.frozen (p:=qt gf (k*4+3)) lgf).trans f3))
        have HX6:=aYf hx6;clear hx5 hx6 z0 z1 z2 z3 zf0 zf1 zf2 zf3 q0 q1 q2 q3 f0 f1 f2 f3 r2';go_wp2_with fail;go_roundw
        case rel=>exact FW (us:=cellsOf ym (qp W1) x.kids) HG.out hlt HLL.out HL.out HI.out HLR.out (HAQ.out.ext_ HX6.out) HP1.out (HVM.out.ext HX6.out).rv HFX3.out
        case measure=>simp [intOf];omega
     have te3:(x.kind == 3)=false:=aYg e3
     have e4:x.kind=4:=by
      have l1:=HLK.out.range;have l2:=HLK.out.choice;rw [<- HXD.out] at l1 l2;have hzz:=HZL.out;have h1:¬ x.kind=1:=fun e=>by have:=l1 e;omega
      have h2:¬ x.kind=2:=fun e=>by have:=(l2 e).1;omega
      omega
     have te4:(x.kind == 4)=true:=aYh e4;have HFX4:=aYf (show dW (aI t) (eH t k) (t.getD k default)=(eH t k).getD (x.kids.getD 1 0).toNat default by rw [HFS.out,HFX.out,if_neg e0,if_neg e3,if_pos e4]);have hb4:=HOK.out.bind e4;have hv4:=hfew.2.2 e4;have h1l:1<x.kids.length:=by omega
     obtain ⟨hkl1,hkl2⟩:=HX2.out.kids.le;obtain ⟨b3,o3,e3b,hpb3,-,g3⟩:=HX2.out.kids.get h1l;rw [e3b] at c7;have hz:=HOK.out.kids _ (aC (d:=0) h1l);generalize x.kids.getD 1 0=z at *;have hzt:z.toNat<t:=by omega
     obtain ⟨A4,d4,hvv4,p0,p1,p2,p3⟩:=HA2.out.getFix hzt;have HZF:=aYf (show dW (aI t) (eH t k) (t.getD k default)=(pF t k).getD z.toNat default by rw [HFX4.out,zl I I]);have HR:=aYf (tB HG.out hlt HLL.out HL.out HI.out HLR.out HA2.out HP1.out hvv4.rv HZF.out);have HZK:=aYf (show ¬ z.toNat=k by omega);generalize (pF t k).getD z.toNat default=yv at *;have hzi:z<(t:Int):=by omega
     have h1i:(1:Int)<(x.kids:Int):=I;have hbg:¬ b=gf:=fun e=>by have h1:=HP1.out _ HPB.out;have h2:=HA2.out.bf;omega
     have hbg3:¬ b3=gf:=fun e=>by have h1:=HP1.out _ hpb3;have h2:=HA2.out.bf;omega
     clear hvv4 e0 e3 e4 hb4 hv4 HFX HFX4 e3b;go_wp2_with fail
     go_region_held3 (fun w'=>qc w' gw 2 (.slice (qp gf) t t)∧qc w' b (off+k*12+7) (.slice (qt b3 o3) x.kids a.kc)∧qc w' b3 (o3+1) (.int .i64 z) ∧
       qc w' gf (z.toNat*4) yv.kind∧qc w' gf (z.toNat*4+1) yv.n∧qc w' gf (z.toNat*4+2) yv.s∧qc w' gf (z.toNat*4+3) (.slice A4 yv.kids d4))
      (first
       | with_reducible exact ⟨eB np1 k2,eB hbg c7,eB hbg3 g3,kU HZK.out p0 0 (by decide) rfl,kU HZK.out p1 1 (by decide) rfl,kU HZK.out p2 2 (by decide) rfl,kU HZK.out p3 3 (by decide) rfl⟩
       | go_keep)
      (first
       | fail)
     go_wp2_with fail;go_roundw
     case rel=>exact HR.out
     case measure=>simp [intOf];omega
   ·obtain rfl:k=t:=by omega
    clear hA hL hI;go_wp2_with fail;go_ret;exact Dn HE0.out HA1.out HL.out I
structure FA where
 w:Nat
 s:Nat
 l:Nat
 f:Nat
 p:Nat
 b:Nat
 a:Nat
 g:Nat
 X:Nat->Prop
def FA.M (g:FA):Nat->Prop:=fun b=>b=g.a∨b=g.g
def FA.Q (g:FA):Nat->Prop:=fun b=>¬ g.M b∧¬ g.X b
structure kf (t:List GN)(path:List Int)(vn vp:Value)(g:FA)(w:World):Prop where
 walk:dY t vn g.w g.s g.l g.f g.Q w
 pbox:qc w g.p 0 vp
 wbox:qc w g.b 0 (qp g.w)
 path:bL w g.Q vp path
 pp:g.Q g.p
 pb:g.Q g.b
 ne:g.a ≠ g.g
 xlt:∀ b,g.X b->b<w
def FSt (g:FA)(at_:Int)(good:Bool)(w:World):Prop:=Blk w g.a 3 #[↑at_]∧Blk w g.g 4 #[good]
section
variable {t:List GN}{path:List Int}{vn vp:Value}{g:FA}{w w':World}
theorem kf.fr (h:kf t path vn vp g w)(hf:Fr g.M w w'):kf t path vn vp g w':=by
 have hk:aB g.Q w w':=aB.of_fr hf (fun b h=>h.1);exact ⟨h.walk.carry hk (fun _ _ h=>h),aH hf h.pp.1 h.pbox,aH hf h.pb.1 h.wbox,h.path.carry hk (fun _ _ h=>h),h.pp,h.pb,h.ne,fun b hb=>ac (h.xlt b hb) hf.size⟩
theorem kf.ext (h:kf t path vn vp g w)(hx:Ext w w'):kf t path vn vp g w':=h.fr (ar hx)
def FA.more (g:FA)(lo hi:Nat):FA:=⟨g.w,g.s,g.l,g.f,g.p,g.b,g.a,g.g,fun b=>g.X b∨(lo<=b∧b<hi)⟩
theorem kf.more (h:kf t path vn vp g w)(hf:Fr g.M w w'):kf t path vn vp (g.more w w') w':=by
 have hQ:∀ b,b<w.heap.size->g.Q b->(g.more w w').Q b:=fun b hb hq=>⟨hq.1,fun hx=>hx.elim hq.2 (fun e=>by omega)⟩
 have hk:aB g.Q w w':=aB.of_fr hf (fun b h=>h.1);exact ⟨h.walk.carry hk hQ,aH hf h.pp.1 h.pbox,aH hf h.pb.1 h.wbox,h.path.carry hk hQ,hQ _ (bB h.pbox) h.pp,hQ _ (bB h.wbox) h.pb,h.ne,fun b hb=>hb.elim (fun h'=>ac (h.xlt b h') hf.size) (fun e=>e.2)⟩
theorem FSt.ext {at_:Int}{good:Bool}(h:FSt g at_ good w)(hx:Ext w w'):FSt g at_ good w':=⟨h.1.ext hx,h.2.ext hx⟩
end
def AW (g:FA)(r:Int × Int × Bool)(w:World)(e:Ending)(w':World):Prop:=e=.returned (.int .i64 r.1)∧Fr g.M w w'∧FSt g r.2.1 r.2.2 w'
theorem Kh (t:List GN)(path:List Int)(vn vp:Value)(g:FA)(i:Nat)(at_:Int)(good:Bool)(w:World)(hE:kf t path vn vp g w)(hS:FSt g at_ good w)(hi:i<t)(h0:0<=at_)(h1:at_<=path)(hpl:path.length<=1000000000)(htl:t.length<=100000) :
  qg 89 #[↑i,qp g.a,qp g.p,qp g.b,qp g.g] w (AW g (bD path (t.getD i default) at_ good) w):=by
 obtain ⟨n,rfl⟩:∃ n:Nat,at_=(n:Int):=⟨at_.toNat,I⟩;have HE:=aYf hE;have HS:=aYf hS;have HCH:=aYf (show bD path (t.getD i default) n good=if (path:Int)<=(n:Int)∨path.getD n 0<0∨aP (t.getD i default)<=path.getD n 0 then (0,(n:Int),false) else (path.getD n 0,(n:Int)+1,good) by unfold bD;rw [Int.toNat_natCast]);have ca:=hS.1.cell' (u:=↑n) 0 rfl;have fa:=hS.1.frozen 0;have cg:=hS.2.cell' (u:=good) 0 rfl;have fg:=hS.2.frozen 0;have cp:=hE.pbox;have cb:=hE.wbox;have cw:=hE.walk.box.cell' (u:=qp g.s) 0 rfl;have cs:=hE.walk.sets;obtain ⟨Ap,dp,ep,hp1,hp2⟩:=hE.path.form;subst ep;obtain ⟨An,dn,en,hn1,hn2⟩:=hE.walk.nodes.form;subst en;have HPA:=aYf hE.path;have HND:=aYf hE.walk.nodes;have HNE:=aYf hE.ne;have hpa:¬ g.p=g.a:=fun e=>hE.pp.1 (.inl e)
 have hpg:¬ g.p=g.g:=fun e=>hE.pp.1 (.inr e)
 clear hE hS h0;by_cases hlt:n<path
 ·obtain ⟨bp,op,rfl,hqp,-,gp⟩:=HPA.out.get hlt
  have hbpa:¬ bp=g.a:=fun e=>hqp.1 (.inl e)
  generalize hc:path.getD n 0=c at *;clear hc;have t1:decide ((path:Int)<=(n:Int))=false:=aYj I;have t1':decide (path<=n)=false:=aYj I;have hq1:(n:Int)<(path:Int):=by omega
  have hq0:(0:Int)<=(n:Int):=I;by_cases hc0:c<0
  ·have t2:decide (c<0)=true:=aYi hc0
   have HF:=aYf (HCH.out.trans (if_pos (.inr (.inl hc0))));go_enter Tryz.func89,Tryz.ntmps89;go_wp2_with fail;go_quiet (fail);go_wp2_with fail;go_ret;rw [HF.out];exact ⟨rfl,((au g.M w).setCell (p:=qp g.g) (.inl (.inr rfl)) _).drewN _,(HS.out.1.far (p:=qp g.g) HNE.out _).drewN _,(HS.out.2.set_ 0 _).drewN _⟩
  ·have t2:decide (c<0)=false:=aYj hc0
   obtain ⟨bn,on,a,rfl,hqn,hx,hn⟩:=HND.out.get hi;have HN:=aYf hn;have hii:(i:Int)<(t:Int):=by omega
   have hi0:(0:Int)<=(i:Int):=I;have HOP:=aYf (jZ (t.getD i default) a bn (on+i*12));generalize t.getD i default=x at *;by_cases hop:aP x<=c
   ·have HF:=aYf (HCH.out.trans (if_pos (.inr (.inr hop))))
    generalize aP x=ov at *;have t3:decide (ov<=c)=true:=aYi hop;clear hx hn;go_enter Tryz.func89,Tryz.ntmps89;go_wp2_with fail;go_quiet ((go_at_call 90;exact Calls.quiet_of (HOP.out _ (HN.out.ext ia))));go_wp2_with fail;go_ret;rw [HF.out];exact ⟨rfl,((au g.M w).setCell (p:=qp g.g) (.inl (.inr rfl)) _).drewN _,(HS.out.1.far (p:=qp g.g) HNE.out _).drewN _,(HS.out.2.set_ 0 _).drewN _⟩
   ·have HF:=aYf (HCH.out.trans (if_neg (fun h=>h.elim (fun h=>by omega) (fun h=>h.elim hc0 hop))))
    generalize aP x=ov at *;have t3:decide (ov<=c)=false:=aYj hop;clear hx hn;go_enter Tryz.func89,Tryz.ntmps89;go_wp2_with fail;go_quiet ((go_at_call 90;exact Calls.quiet_of (HOP.out _ (HN.out.ext ia))));go_wp2_with fail;go_ret;rw [HF.out];exact ⟨rfl,((au g.M w).setCell (p:=qp g.a) (.inl (.inl rfl)) _).drewN _,(HS.out.1.set_ 0 _).drewN _,(HS.out.2.far (p:=qp g.a) (fun e=>HNE.out e.symm) _).drewN _⟩
 ·have t1:decide ((path:Int)<=(n:Int))=true:=aYi I
  have t1':decide (path<=n)=true:=aYi I;have HF:=aYf (HCH.out.trans (if_pos (.inl I)));go_enter Tryz.func89,Tryz.ntmps89;go_wp2_with fail;go_quiet (fail);go_wp2_with fail;go_ret;rw [HF.out];exact ⟨rfl,((au g.M w).setCell (p:=qp g.g) (.inl (.inr rfl)) _).drewN _,(HS.out.1.far (p:=qp g.g) HNE.out _).drewN _,(HS.out.2.set_ 0 _).drewN _⟩
