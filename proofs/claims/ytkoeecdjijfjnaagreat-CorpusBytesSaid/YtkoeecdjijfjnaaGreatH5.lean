/- Contracts and laws. Conditions: none. -/
import Derived.Test.YtkoeecdjijfjnaaGreatH2
set_option linter.all false
set_option maxRecDepth 100000
set_option maxHeartbeats 8000000
namespace Go.Proofs.YtkoeecdjijfjnaaGreat
open Go.RowKit
def aN0 (t:List GN)(vn:Value)(P:Nat->Prop)(W:World)(s:Value)(wx:World):Prop :=
 ∃ gw gs gl gf,s=↑(qp gw)∧WN t vn P W gw gs gl gf (List.replicate t 0) (qL t 0) wx
theorem iL {t:List GN}{vn P W w1 wx gw gl gf g mi mv}(hmi:mi=madeCells #[qz] t)(hmv:mv=madeCells #[qz,qz,.string ByteArray.empty,qn] (t*4))(ht:Nds W P vn t)(hs:bM t vn g w1)(hx1:Ext w1 wx)(hx:Ext W wx)
  (hb:Blk wx gw 149 #[qp g.s,.slice (qp gl) t t,.slice (qp gf) t t])
  (hl:Blk wx gl 3 mi)(hf:Blk wx gf 85 mv)(n1:gw ≠ gl)(n2:gw ≠ gf)(n3:gl ≠ gf)(n4:g.s ≠ gl)(n5:g.s ≠ gf)(bw:W<=gw)(bs:W<=g.s)(bl:W<=gl)(bf:W<=gf) :
  aN0 t vn P W (qp gw) wx:=by
 obtain ⟨kn,ls,ms,h0⟩:=hs;have e:madeCells #[qz] t.length=oA (List.replicate t 0):=by rw [fZ];simp [oA]
 rw [hmi,e] at hl;have e2:qL t 0=List.replicate t default:=by unfold qL eC;simp [jJ]
 refine ⟨gw,g.s,gl,gf,rfl,hb,(h0.box.ext hx1).cell' 0 rfl,hl,⟨mv.toList,by simpa using hf,?_⟩,ht.ext hx,n1,n2,n3,n4,n5,bw,bs,bl,bf,O,by rw [e2];simp,hx⟩;rw [e2,hmv,aUn];exact aEo _ _ _
def aEq (t:List GN)(vn:Value)(P:Nat->Prop)(W:World)(gw gs gl gf:Nat)(i:Value)(wr:World):Prop :=
 ∃ (k:Nat) (ls:List Int),k<=t∧i=↑k∧WN t vn P W gw gs gl gf ls (qL t k) wr∧ls.take k=(aM t).take k∧(∀ x ∈ ls,I64 x)
def aVz (t:List GN)(vn:Value)(P:Nat->Prop)(w:World)(e:Ending)(w':World):Prop :=
 ∃ gw gs gl gf,e=.returned (qp gw)∧kE t vn gw gs gl gf (New P w) w'∧Ext w w'∧w<=gw∧w<=gs∧w<=gl∧w<=gf
theorem aKc {t vn P w W wr gw gs gl gf ls}(hx:Ext w W)(h:WN t vn P W gw gs gl gf ls (qL t t) wr)(hl:ls.take t.length=(aM t).take t)(hlen:t.length<=17592186044416):aVz t vn P w (.returned (qp gw)) wr:=by
 have hll:(aM t).length=t:=by unfold aM;rw [eF];simp
 rw [an (by have:=h.llen;omega),an I] at hl;obtain ⟨cs,h1,h2⟩:=h.fix;rw [xP] at h2;have hsz:=hx.size;have b1:=h.bw;have b2:=h.bs;have b3:=h.bl;have b4:=h.bf;have hfl:(uU t).length=t:=by rw [<- xP,aDr (ab _)]
 refine ⟨gw,gs,gl,gf,rfl,⟨h.box,h.sets,hl ▸ h.lens,?_,h.nodes.carry (fun _ _ _=>rfl) (fun _ _ h=>.inl h),.inr I,.inr I,.inr I⟩,hx.trans' h.ext,I,I,I,I⟩;refine ⟨some ↑(qp gf),t.length,cs,by rw [hfl],I,⟨I,I⟩,⟨h2.len,fun _=>⟨gf,0,rfl,.inr I,fun j u hu=>by rw [Nat.zero_add];exact h1.cell' j ie⟩⟩,?_⟩;exact RVs.carry (fun _ _ _=>rfl) (fun b _ h=>h.1.elim .inl (fun h=>.inr I)) h2
theorem iK {t}{k:Nat}{ls:List Int}(hg:bD t t)(hk:k<t)(hl:ls.take k=(aM t).take k)(hll:ls.length=t):gZ ls (t.getD k default)=(aM t).getD k 0∧(ls.set k (gZ ls (t.getD k default))).take (k+1)=(aM t).take (k+1) :=
 ⟨aBt hk (hg.at_ hk).node hl,aEf (hg.mono I) hk (hg.2.2 k hk) hl hll⟩
theorem aB9 {t:List GN}{vn:Value}{P:Nat->Prop}{W w2:World}{gw gs gl gf k:Nat}{ls:List Int}{v:GV}{us:List Value}(hg:bD t t)(hk:k<t)(hll:ls.length=t)(hl:ls.take k=(aM t).take k)(hI:∀ x ∈ ls,I64 x){lr:Int}(hlr:lr=gZ ls (t.getD k default))
  (h:WN t vn P W gw gs gl gf (ls.set k lr) (qL t k) w2)(hP:∀ b,P b->b<W)(hv:RV w2 (fun b=>(P b∨W<=b)∧b ≠ gl∧b ≠ gf) v us)(hf:dR (aM t) (eC t k) (t.getD k default)=v) :
  aEq t vn P W gw gs gl gf (.int .i64 ((k:Int)+1)) (w2.setCells gf (k*4) us):=by
 subst hlr;refine ⟨k+1,_,I,O,?_,(iK hg hk hl hll).2,rI hI (qH hI _)⟩;rw [<- xO hk,hf];exact h.setFix hP hk hv
theorem uP {t:List GN}{vn:Value}{P:Nat->Prop}{W w2:World}{gw gs gl gf k:Nat}{ls:List Int}{v:GV}{us:List Value}(hg:bD t t)(hk:k<t)(hll:ls.length=t)(hl:ls.take k=(aM t).take k)(hI:∀ x ∈ ls,I64 x){lr:Int}(hlr:lr=gZ ls (t.getD k default))
  (h:WN t vn P W gw gs gl gf (ls.set k lr) (qL t k) w2)(hP:∀ b,P b->b<W)(hv:RV w2 (fun b=>(P b∨W<=b)∧b ≠ gl∧b ≠ gf) v us)(hf:dR (aM t) (eC t k) (t.getD k default)=v) :
  aEq t vn P W gw gs gl gf (.int .i64 ((k:Int)+1)) ((w2.setCells gf (k*4) us)).drew:=by
 subst hlr;refine ⟨k+1,_,I,O,?_,(iK hg hk hl hll).2,rI hI (qH hI _)⟩;rw [<- xO hk,hf];exact (h.setFix hP hk hv).ext_ (aq _).drew'
theorem aB8 {t vn P W w2}{gw gs gl gf k:Nat}{ls:List Int}(hg:bD t t)(hk:k<t)(hll:ls.length=t)(hl:ls.take k=(aM t).take k)(hI:∀ x ∈ ls,I64 x){lr}(hlr:lr=gZ ls (t.getD k default))
  (h:WN t vn P W gw gs gl gf (ls.set k lr) (qL t k) w2)(h0:0<lr):aEq t vn P W gw gs gl gf (.int .i64 ((k:Int)+1)) w2:=by
 subst hlr;refine ⟨k+1,_,I,O,?_,(iK hg hk hl hll).2,rI hI (qH hI _)⟩;rw [<- aH5 hk]
 ·exact h
 ·unfold dR
  rw [gU I,if_pos (by rw [<- (iK hg hk hl hll).1];exact h0)]
theorem aBp (t)(P:Nat->Prop)(vn)(w:World)(hP:∀ b,P b->b<w)(ht:Nds w P vn t)(hg:bD t t):qg 44 #[.agg #[vn]] w (aVz t vn P w):=by
 have HP:=a4b hP;have HT:=a4b ht;have HG:=a4b hg;have hbig:t.length<=4096:=hg.2.1;obtain ⟨An,cn,en,hn1,hn2⟩:=ht.form;subst en;clear ht hP hg;obtain ⟨i3,hi3,hz0,hz1,hz2⟩:=info_parts Tryz.info3;obtain ⟨i85,hi85,hy0,hy1,hy2⟩:=info_parts Tryz.info85
 have hmki:∀ W:World,(Instr.makeSlice 22 (↑(t:Int)) (↑(t:Int))).run Tryz.prog W=.ok (.slice (qp W) t t) (W.alloc (qk (madeCells #[qz] t) 3)):=by
  intro W;have h:=run_make (P:=Tryz.prog) W 22 3 i3 _ Tryz.underlying22 hi3 hz0 .i64 .i64 (t:Int) (t:Int) I (Int.le_refl _) fo I;rw [hz1,Nat.mul_one] at h;rw [h];rfl
 have HMK:=a4b (show ∀ (m:Nat) (W:World),m<=100000->(Instr.makeSlice 83 (↑(m:Int)) (↑(m:Int))).run Tryz.prog W=.ok (.slice (qp W) m m) (W.alloc (qk (madeCells #[qz,qz,.string ByteArray.empty,qn] (m*4)) 85)) by
  intro m W hm;have h:=run_make (P:=Tryz.prog) W 83 85 i85 _ Tryz.underlying83 hi85 hy0 .i64 .i64 (m:Int) (m:Int) I (Int.le_refl _) (by rw [hy2];omega) I;rw [hy1] at h;rw [h];rfl)
 have hmkv:=fun W=>HMK.out t W I
 clear hi3 hz0 hz1 hz2 i3 hi85 hy0 hy1 hy2 i85;obtain ⟨mi,hmi⟩:∃ mi,mi=madeCells #[qz] t.length:=⟨_,rfl⟩;rw [<- hmi] at hmki;have HMI:=a4b hmi;obtain ⟨mv,hmv⟩:∃ mv,mv=madeCells #[qz,qz,.string ByteArray.empty,qn] (t*4):=⟨_,rfl⟩;rw [<- hmv] at hmkv;have HMV:=a4b hmv;clear hmi hmv;go_enter Tryz.func44,Tryz.ntmps44;go_upto_region 1 with fail;have HB0:=a4b (aw w 25 #[.slice An t cn]);have HE0:=a4b ((aq w).alloc' (qk #[.slice An t cn] 25));have hW0s:(w.alloc (qk #[.slice An t cn] 25)).heap.size=w.heap.size+1:=by simp
 have HWS:=a4b hW0s;clear hW0s;generalize w.alloc (qk #[.slice An t cn] 25)=W at *;have b0:=HB0.out.cell' (u:=.slice An t cn) 0 rfl
 have HNS:=a4b (show ∀ W',Ext w W'->qg 87 #[.agg #[.slice An t cn]] W' (aJd t (.slice An t cn) (fun _=>False) W') from fun W' h =>
  rU t P _ _ W' (HT.out.ext h) (fun b hb hx=>hx) (fun b hb=>hb.elim) I)
 go_cut [3] (fun s wx=>aN0 t (.slice An t cn) P W s wx)
 case first =>
  go_region_held3 (fun w'=>qc w' w 0 (.slice An t cn))
   (first
    | go_keep
    | exact aA hxn ‹_›
    | exact aA (hxn.alloc' _) ‹_›)
   (first
    | (go_at_call 87;refine (HNS.out _ (by first | exact HE0.out.drew' | exact (HE0.out.alloc' _).drew' | exact ((HE0.out.alloc' _).alloc' _).drew')).mono ?_;rintro e wn ⟨g,rfl,hgX,hgs,hxn,l1,l2,l3,l4⟩))
  all_goals (go_wp2_with fail)
  all_goals (go_meet)
  all_goals
   have hws:=HWS.out;have hsz:=hxn.size;obtain ⟨kn,lk,mk,hA⟩:=id hgs;have a1:=hA.box.lt;have hMI:=HMI.out;have hMV:=HMV.out;have hTT:=HT.out.ext HE0.out;clear hA HNS HT HP hmki hmkv b0 HMK;simp at hsz l1 l2 l3 l4
  all_goals first
   | exact iL (gl:=W.heap.size) (gf:=W.heap.size+1) (gw:=wn.heap.size) hMI hMV hTT hgs ((aq wn).alloc' _) ((((((aq W).alloc' _).alloc' _).drew').trans' hxn).alloc' _) (az wn 149 _ (g:=wn.heap.size) O) ((((az W 3 mi (g:=W.heap.size) O).alloc _).drew.ext hxn).alloc _) (((az (W.alloc _) 85 mv (g:=W.heap.size+1) O).drew.ext hxn).alloc _) I I I I I I I I I
   | exact iL (gl:=W.heap.size+1) (gf:=W.heap.size) (gw:=wn.heap.size) hMI hMV hTT hgs ((aq wn).alloc' _) ((((((aq W).alloc' _).alloc' _).drew').trans' hxn).alloc' _) (az wn 149 _ (g:=wn.heap.size) O) (((az (W.alloc _) 3 mi (g:=W.heap.size+1) O).drew.ext hxn).alloc _) ((((az W 85 mv (g:=W.heap.size) O).alloc _).drew.ext hxn).alloc _) I I I I I I I I I
   | exact iL (gl:=W.heap.size) (gf:=wn.heap.size) (gw:=wn.heap.size+1) hMI hMV hTT hgs (((aq wn).alloc' _).alloc' _) ((((((aq W).alloc' _).drew').trans' hxn).alloc' _).alloc' _) (az (wn.alloc _) 149 _ (g:=wn.heap.size+1) O) ((((az W 3 mi (g:=W.heap.size) O).drew.ext hxn).alloc _).alloc _) ((az wn 85 mv (g:=wn.heap.size) O).alloc _) I I I I I I I I I
   | exact iL (gl:=wn.heap.size) (gf:=W.heap.size) (gw:=wn.heap.size+1) hMI hMV hTT hgs (((aq wn).alloc' _).alloc' _) ((((((aq W).alloc' _).drew').trans' hxn).alloc' _).alloc' _) (az (wn.alloc _) 149 _ (g:=wn.heap.size+1) O) ((az wn 3 mi (g:=wn.heap.size) O).alloc _) ((((az W 85 mv (g:=W.heap.size) O).drew.ext hxn).alloc _).alloc _) I I I I I I I I I
   | exact iL (gl:=wn.heap.size) (gf:=wn.heap.size+1) (gw:=wn.heap.size+1+1) hMI hMV hTT hgs ((((aq wn).alloc' _).alloc' _).alloc' _) ((((((aq W).drew').trans' hxn).alloc' _).alloc' _).alloc' _) (az ((wn.alloc _).alloc _) 149 _ (g:=wn.heap.size+1+1) O) (((az wn 3 mi (g:=wn.heap.size) O).alloc _).alloc _) ((az (wn.alloc _) 85 mv (g:=wn.heap.size+1) O).alloc _) I I I I I I I I I
   | exact iL (gl:=wn.heap.size+1) (gf:=wn.heap.size) (gw:=wn.heap.size+1+1) hMI hMV hTT hgs ((((aq wn).alloc' _).alloc' _).alloc' _) ((((((aq W).drew').trans' hxn).alloc' _).alloc' _).alloc' _) (az ((wn.alloc _).alloc _) 149 _ (g:=wn.heap.size+1+1) O) ((az (wn.alloc _) 3 mi (g:=wn.heap.size+1) O).alloc _) (((az wn 85 mv (g:=wn.heap.size) O).alloc _).alloc _) I I I I I I I I I
 case rest =>
  obtain ⟨gw,gs,gl,gf,rfl,hA⟩:=hcut;have HA:=a4b hA;have b1:=(HB0.out.ext hA.ext).cell' (u:=.slice An t cn) 0 rfl;have HP1:=a4b (show ∀ b,P b->b<W from fun b hb=>ac (HP.out b hb) HE0.out.size);clear hA hmki hmkv b0 HNS;go_wp2_with fail;go_loopw [24] (fun i wr=>aEq t (.slice An t cn) P W gw gs gl gf i wr) (fun i _=>t.length - (intOf i).toNat)
  case atStart=>exact ⟨0,_,af _,rfl,HA.out,rfl,ei⟩
  case round =>
   obtain ⟨k,ls,hk,rfl,hA,hL,hI⟩:=hrel;have HA1:=a4b hA;have HL:=a4b hL;have HI:=a4b hI;by_cases hlt:k<t
   ·have hkk:(k:Int)<(t:Int):=by omega
    have b2:qc wr w 0 (.slice An t cn):=(HB0.out.ext hA.ext).cell' (u:=.slice An t cn) 0 rfl;obtain ⟨b,off,a,rfl,hPb,hx,hn⟩:=hA.nodes.get hlt;have hcheck:=HG.out.at_ hlt;have hlenok:=lT HG.out k hlt;have hfew:=eX HG.out hlt;have HNL:=a4b (iK HG.out hlt hL hA.llen);obtain ⟨x,hxd⟩:∃ x,x=t.getD k default:=⟨_,rfl⟩;have HXD:=a4b hxd;have HFS:=a4b (show dR (aM t) (eC t k) (t.getD k default)=dR (aM t) (eC t k) x by rw [hxd]);rw [<- hxd] at hx hn hfew;have HLK:=a4b hlenok;have hok:dV k x:=hxd ▸ hcheck.node;have HOK:=a4b hok;have HN:=a4b hn;have HX:=a4b hx;have HPB:=a4b hPb;have hll:=hA.llen;have HNO:=a4b (show dV ls x from ⟨hok.kind,hok.unused,fun z hz=>by have:=hok.kids z hz;omega,hok.choice,hok.seq,hok.bind,hok.inc,hok.valid,hok.numbers⟩)
    have HPL:=a4b (show ∀ W,Blk W gl 3 (oA ls)->bQ W b (off+k*12) x a->NAt W P x a->Calls Tryz.prog 96 #[qt b (off+k*12),.slice (qp gl) t t] W fun e w'=>e=.returned (.int .i64 (gZ ls x))∧W=w' from fun W h1 h2 h3=>by
     have h4:=Ints.of_blk h1 hI I;rw [hll] at h4;exact lH ls x a b (off+k*12) P _ _ W h2 h3 h4 HNO.out)
    have hkd:=hok.kind;have k1:=hA.box.cell' (u:=.slice (qp gl) t t) 1 rfl;have g1:=hA.lens.cell' k (kM (l:=ls) I);have f1:=hA.lens.frozen k;have m1:¬ gw=gl:=hA.n1;have HLR:=a4b (show gZ ls x=gZ ls (t.getD k default) by rw [hxd]);clear hA hL hI hPb hx hn hcheck hlenok hxd hok hll b1;generalize ls.getD k 0=z0 at *;obtain ⟨lr,hlr⟩:∃ lr,lr=gZ ls x:=⟨_,rfl⟩;rw [<- hlr] at HPL HLR;clear hlr;go_upto_region 6 with fail
    go_region_held3 (fun w'=>qc w' gw 1 (.slice (qp gl) t t))
     (first
      | exact fT (w:=wr) m1 k1
      | exact k1
      | go_keep)
     (first
      | (go_at_call 96;refine (HPL.out _ (HA1.out.lens.ext (aq _).drew') (HN.out.ext (aq _).drew') (HX.out.ext (aq _).drew')).mono ?_;rintro e w' ⟨rfl,rfl⟩))
    go_upto_region 7 with fail;have HA2:=a4b ((HA1.out.setLen HP1.out k lr).ext_ (aq _).drew');have hkeep:aB P wr (wr.setCell (qt gl k) (↑lr)).drew:=aB.set (fun _ _ _=>rfl) _ (fun h=>by have h1:=HP1.out _ h;have h2:=HA1.out.bl;simp at h1;omega);have HX2:=a4b (HX.out.carry hkeep (fun _ _ h=>h));have HN2:=a4b (HN.out.keep HPB.out hkeep);clear hkeep k1 g1 f1 m1 HPL b2;generalize (wr.setCell (qt gl k) (↑lr)).drew=W1 at *;have hll:=HA1.out.llen;have k1:=HA2.out.box.cell' (u:=.slice (qp gl) t t) 1 rfl;have k2:=HA2.out.box.cell' (u:=.slice (qp gf) t t) 2 rfl;have g1:qc W1 gl k (↑lr):=HA2.out.lens.cell' k (by rw [kM bh];simp [List.getD,hll,hlt]);have HLL:=a4b hll;clear hll
    by_cases h0:0<lr
    ·have t0:decide (0<lr)=true:=a4e h0
     have HN0:=a4b (aB8 HG.out hlt HLL.out HL.out HI.out HLR.out HA2.out h0);go_wp2_with fail;go_roundw
     case rel=>exact HN0.out
     case measure=>simp [intOf];omega
    ·have t0:decide (0<lr)=false:=a4f h0
     have hz:(aM t).getD k 0=0:=by
      have h1:=HNL.out.1;have h2:=HLK.out.bd.1;rw [<- HLR.out] at h1;omega
     have HZL:=a4b hz;clear hz h0;have c0:=HN2.out.c0;have c7:=HN2.out.c7;obtain ⟨⟨y0,q0⟩,⟨y1,q1⟩,⟨y2,q2⟩,⟨y3,q3⟩,f0,f1,f2,f3⟩:=HA2.out.place hlt
     have HFX:=a4b (show dR (aM t) (eC t k) x=if x.kind=0 then x.value else if x.kind=3 then bX x.name (x.kids.map (fun z=>(eC t k).getD z.toNat default)) else if x.kind=4 then (eC t k).getD (x.kids.getD 1 0).toNat default else default by
      unfold dR;rw [gU I,if_neg (by rw [HZL.out];omega)])
     have np1:¬ gw=gf:=HA2.out.n2;by_cases e0:x.kind=0
     ·have te0:(x.kind == 0)=true:=a4d e0
      have c8:=HN2.out.c8;have c9:=HN2.out.c9;have c10:=HN2.out.c10;have c11:=HN2.out.c11;have hbg:¬ b=gf:=fun e=>by have h1:=HP1.out _ HPB.out;have h2:=HA2.out.bf;omega
      have HVV:=a4b (HX2.out.value.carry (Q:=fun b=>(P b∨W<=b)∧b ≠ gl∧b ≠ gf) (fun _ _ _=>rfl) (fun b _ h=>⟨.inl h,by have h1:=HP1.out _ h;have h2:=HA2.out.bl;omega,by have h1:=HP1.out _ h;have h2:=HA2.out.bf;omega⟩));have HR:=a4b (uP HG.out hlt HLL.out HL.out HI.out HLR.out HA2.out HP1.out HVV.out.rv (by rw [HFS.out,HFX.out,if_pos e0]));clear e0 c7;generalize x.value=xv at *;go_wp2_with fail
      go_region_held3 (fun w'=>qc w' gw 2 (.slice (qp gf) t t)∧qc w' b (off+k*12+8) xv.kind∧qc w' b (off+k*12+9) xv.n∧qc w' b (off+k*12+10) xv.s∧qc w' b (off+k*12+11) (.slice a.xA xv.kids a.xc))
       (first
        | with_reducible exact ⟨dX np1 k2,dX hbg c8,dX hbg c9,dX hbg c10,dX hbg c11⟩
        | with_reducible exact ⟨fS np1 k2,fS hbg c8,fS hbg c9,fS hbg c10,fS hbg c11⟩
        | go_keep)
       (first
        | fail)
      go_wp2_with fail;go_roundw
      case rel=>exact HR.out
      case measure=>simp [intOf];omega
     have te0:(x.kind == 0)=false:=a4c e0;by_cases e3:x.kind=3
     ·have te3:(x.kind == 3)=true:=a4d e3
      have hm:x.kids.length<=100000:=by have:=hfew.1;omega
      have hmk3:=fun W=>HMK.out x.kids W hm
      have lb:=HN2.out.lt;have lw:=HA2.out.box.lt;obtain ⟨hkl1,hkl2⟩:=HX2.out.kids.le;have HKV:=a4b HX2.out.kids;have HKI:=a4b HOK.out.kids;have HFX3:=a4b (show dR (aM t) (eC t k) (t.getD k default)=bX x.name (x.kids.map (fun z=>(eC t k).getD z.toNat default)) by rw [HFS.out,HFX.out,if_neg e0,if_pos e3]);have hsz:=size_madeCells #[qz,qz,.string ByteArray.empty,qn] (x.kids*4);generalize madeCells #[qz,qz,.string ByteArray.empty,qn] (x.kids*4)=mk at *;have HMS:=a4b hsz;clear hsz e0 e3 HFX q0 q1 q2 q3 f0 f1 f2 f3;generalize a.kA=Ak at *;generalize a.kc=kc at *;go_wp2_with fail;clear k1 g1;have HE3:=a4b ((aq W1).alloc' (qk mk 85));have HBK:=a4b (aw W1 85 mk);generalize W1.alloc (qk mk 85)=W3 at *;have HLF:=a4b (show (x.kids.map (fun z=>(eC t k).getD z.toNat default)).length=x.kids.length by simp);obtain ⟨lf,hlf⟩:∃ lf,lf=x.kids.map (fun z=>(eC t k).getD z.toNat default):=⟨_,rfl⟩;rw [<- hlf] at HLF HFX3;have HLX:=a4b hlf;clear hlf hmk3;go_loopw [80] (fun i wq=>aWk lf (fun b=>((P b∨W<=b)∧b ≠ gl∧b ≠ gf)∧b ≠ W1) W1 W3 i wq) (fun i _=>x.kids.length - (intOf i).toNat)
      case atStart=>exact ⟨0,mk.toList,af _,rfl,by simpa using HBK.out,by rw [HLF.out];simpa using HMS.out,by simp [RVs],au _ _⟩
      case round =>
       obtain ⟨j,cs,hj,rfl,hB,hcl,hR,hF⟩:=hrel;have HB:=a4b hB;have HCL:=a4b hcl;have HR:=a4b hR;have HF:=a4b hF;have HF1:=a4b ((ar (M:=fun b=>b=W1.heap.size) HE3.out).trans hF);have hlfl:=HLF.out;have hjk:j<=x.kids:=by omega
       have HLFL:=a4b hlfl;clear hB hcl hR hF hlfl hj;by_cases hlj:j<x.kids
       ·have hki:¬ (fun b=>b=W1.heap.size) b:=fun e=>by have h1:=HN2.out.lt;omega
        obtain ⟨b3,o3,rfl,hpb3,-,g3⟩:=HKV.out.get hlj;have g3':=bA HF1.out (fun e=>by have h1:=aX g3;omega) g3;have hz:=HKI.out _ (aD (d:=0) hlj);have HZE:=a4b (show lf.getD j default=(eC t k).getD (x.kids.getD j 0).toNat default by rw [HLX.out];simp [List.getD,hlj]);generalize x.kids.getD j 0=z at *;have hzt:z.toNat<t:=by omega
        obtain ⟨A4,d4,hv4,p0,p1,p2,p3⟩:=HA2.out.getFix hzt;have HZF:=a4b (show lf.getD j default=(qL t k).getD z.toNat default by rw [HZE.out,aDs I I]);have ngf:¬ (fun b=>b=W1.heap.size) gf:=fun e=>by have h1:=aX p0;omega
        have ngw:¬ (fun b=>b=W1.heap.size) gw:=fun e=>by have h1:=HA2.out.box.lt;omega
        have p0':=bA HF1.out ngf p0;have p1':=bA HF1.out ngf p1;have p2':=bA HF1.out ngf p2;have p3':=bA HF1.out ngf p3;have r2':=bA HF1.out ngw k2;have HV4:=a4b (hv4.carry (Q:=fun b=>((P b∨W<=b)∧b ≠ gl∧b ≠ gf)∧b ≠ W1) (fun b hb _=>HF1.out.block b hb (fun e=>by omega)) (fun b hb h=>⟨h,I⟩));have hzi:z<(t:Int):=by omega
        have hcl:=HCL.out;have hll:=HLFL.out;obtain ⟨s0,u0⟩:=HB.out.some_ (i:=j*4) I;obtain ⟨s1,u1⟩:=HB.out.some_ (i:=j*4+1) I;obtain ⟨s2,u2⟩:=HB.out.some_ (i:=j*4+2) I;obtain ⟨s3,u3⟩:=HB.out.some_ (i:=j*4+3) I;have v0:=HB.out.frozen (j*4);have v1:=HB.out.frozen (j*4+1);have v2:=HB.out.frozen (j*4+2);have v3:=HB.out.frozen (j*4+3);generalize (qL t k).getD z.toNat default=yv at *;have hjj:(j:Int)<(x.kids:Int):=by omega
        clear hcl hll p0 p1 p2 p3 hv4 g3 hki hpb3 ngf ngw;go_wp2_with fail;go_roundw
        case rel=>exact aQy (us:=cellsOf yv A4 d4) (fun h=>h.2 rfl) (by rw [HLFL.out];exact hlj) HB.out HCL.out HR.out HF.out (by rw [HZF.out];exact HV4.out.rv)
        case measure=>simp [intOf];omega
       ·obtain rfl:j=x.kids:=by omega
        have hcl:=HCL.out;have hll:=HLFL.out
        have HVK:=a4b (show bT wr (fun b=>(P b∨W<=b)∧b ≠ gl∧b ≠ gf) (.slice (qp W1) lf x.kids) lf from
         qX (P:=fun b=>((P b∨W<=b)∧b ≠ gl∧b ≠ gf)∧b ≠ W1) HB.out (by have h:=HR.out;rw [an I,an I] at h;exact h) hll I ⟨.inr (by have:=HA2.out.ext.size;omega),by have:=HA2.out.lens.lt;omega,by obtain ⟨cs',hb',_⟩:=HA2.out.fix;have:=hb'.lt;omega⟩ (fun b h=>h.1))
        have HNQ:=a4b (show bQ wr b (off+k*12) x a from fun i u hu=>bA HF1.out (fun e=>by have h1:=HN2.out.lt;omega) (HN2.out i u hu))
        have HMD:=a4b (show ∀ W',Ext wr W'->Calls Tryz.prog 97 #[qt b (off+k*12),.slice (qp W1) x.kids x.kids] W' fun e w'=>e=.returned (dA (bX x.name lf) (qp W1) x.kids)∧Ext W' w' from fun W' h=>by
         have h1:=jX x a b (off+k*12) lf (qp W1) x.kids W' (HNQ.out.ext h);rw [hll] at h1;exact h1)
        have HVM:=a4b (VAt.made HX2.out.name HVK.out);have r2':=bA HF1.out (fun e=>by have h1:=HA2.out.box.lt;omega) k2;have HAQ:=a4b (HA2.out.frNew HF1.out);obtain ⟨⟨y0,q0⟩,⟨y1,q1⟩,⟨y2,q2⟩,⟨y3,q3⟩,f0,f1,f2,f3⟩:=HAQ.out.place hlt;clear hcl hll k2;generalize bX x.name lf=ym at *;go_wp2_with fail;have lgf:=aX q0
        go_region_held3 (fun w'=>qc w' gw 2 (.slice (qp gf) t t))
         (first
          | with_reducible exact dX np1 (aA hx6 r2')
          | with_reducible exact fS np1 (aA hx6 r2')
          | exact aA hx6 r2'
          | exact r2'
          | go_keep)
         (first
          | (go_at_call 97;refine (HMD.out _ (aq _).drew').mono ?_;rintro e w5 ⟨rfl,hx5⟩;have hx6:Ext wr w5:=(aq wr).drew'.trans' hx5;have z0:=aA hx6 q0;have z1:=aA hx6 q1;have z2:=aA hx6 q2;have z3:=aA hx6 q3;have zf0:=(hx6.frozen (p:=qt gf (k*4)) lgf).trans f0;have zf1:=(hx6.frozen (p:=qt gf (k*4+1)) lgf).trans f1;have zf2:=(hx6.frozen (p:=qt gf (k*4+2)) lgf).trans f2;have zf3:=(hx6.frozen (p:=qt gf (k*4+3)) lgf).trans f3))
        have HX6:=a4b hx6;clear hx5 hx6 z0 z1 z2 z3 zf0 zf1 zf2 zf3 q0 q1 q2 q3 f0 f1 f2 f3 r2';go_wp2_with fail;go_roundw
        case rel=>exact aB9 (us:=cellsOf ym (qp W1) x.kids) HG.out hlt HLL.out HL.out HI.out HLR.out (HAQ.out.ext_ HX6.out) HP1.out (HVM.out.ext HX6.out).rv HFX3.out
        case measure=>simp [intOf];omega
     have te3:(x.kind == 3)=false:=a4c e3
     have e4:x.kind=4:=by
      have l1:=HLK.out.range;have l2:=HLK.out.choice;rw [<- HXD.out] at l1 l2;have hzz:=HZL.out;have h1:¬ x.kind=1:=fun e=>by have:=l1 e;omega
      have h2:¬ x.kind=2:=fun e=>by have:=(l2 e).1;omega
      omega
     have te4:(x.kind == 4)=true:=a4d e4;have HFX4:=a4b (show dR (aM t) (eC t k) (t.getD k default)=(eC t k).getD (x.kids.getD 1 0).toNat default by rw [HFS.out,HFX.out,if_neg e0,if_neg e3,if_pos e4]);have hb4:=HOK.out.bind e4;have hv4:=hfew.2.2 e4;have h1l:1<x.kids.length:=by omega
     obtain ⟨hkl1,hkl2⟩:=HX2.out.kids.le;obtain ⟨b3,o3,e3b,hpb3,-,g3⟩:=HX2.out.kids.get h1l;rw [e3b] at c7;have hz:=HOK.out.kids _ (aD (d:=0) h1l);generalize x.kids.getD 1 0=z at *;have hzt:z.toNat<t:=by omega
     obtain ⟨A4,d4,hvv4,p0,p1,p2,p3⟩:=HA2.out.getFix hzt;have HZF:=a4b (show dR (aM t) (eC t k) (t.getD k default)=(qL t k).getD z.toNat default by rw [HFX4.out,aDs I I]);have HR:=a4b (uP HG.out hlt HLL.out HL.out HI.out HLR.out HA2.out HP1.out hvv4.rv HZF.out);have HZK:=a4b (show ¬ z.toNat=k by omega);generalize (qL t k).getD z.toNat default=yv at *;have hzi:z<(t:Int):=by omega
     have h1i:(1:Int)<(x.kids:Int):=I;have hbg:¬ b=gf:=fun e=>by have h1:=HP1.out _ HPB.out;have h2:=HA2.out.bf;omega
     have hbg3:¬ b3=gf:=fun e=>by have h1:=HP1.out _ hpb3;have h2:=HA2.out.bf;omega
     clear hvv4 e0 e3 e4 hb4 hv4 HFX HFX4 e3b;go_wp2_with fail
     go_region_held3 (fun w'=>qc w' gw 2 (.slice (qp gf) t t)∧qc w' b (off+k*12+7) (.slice (qt b3 o3) x.kids a.kc)∧qc w' b3 (o3+1) (.int .i64 z) ∧
       qc w' gf (z.toNat*4) yv.kind∧qc w' gf (z.toNat*4+1) yv.n∧qc w' gf (z.toNat*4+2) yv.s∧qc w' gf (z.toNat*4+3) (.slice A4 yv.kids d4))
      (first
       | with_reducible exact ⟨dX np1 k2,dX hbg c7,dX hbg3 g3,kV HZK.out p0 0 (by decide) rfl,kV HZK.out p1 1 (by decide) rfl,kV HZK.out p2 2 (by decide) rfl,kV HZK.out p3 3 (by decide) rfl⟩
       | go_keep)
      (first
       | fail)
     go_wp2_with fail;go_roundw
     case rel=>exact HR.out
     case measure=>simp [intOf];omega
   ·obtain rfl:k=t:=by omega
    clear hA hL hI;go_wp2_with fail;go_ret;exact aKc HE0.out HA1.out HL.out I
structure FA where
 w:Nat
 s:Nat
 l:Nat
 f:Nat
 p:Nat
 b:Nat
 a:Nat
 g:Nat
 X:Nat->Prop
def FA.M (g:FA):Nat->Prop:=fun b=>b=g.a∨b=g.g
def FA.Q (g:FA):Nat->Prop:=fun b=>¬ g.M b∧¬ g.X b
structure aGh (t:List GN)(path:List Int)(vn vp:Value)(g:FA)(w:World):Prop where
 walk:kE t vn g.w g.s g.l g.f g.Q w
 pbox:qc w g.p 0 vp
 wbox:qc w g.b 0 (qp g.w)
 path:Ints w g.Q vp path
 pp:g.Q g.p
 pb:g.Q g.b
 ne:g.a ≠ g.g
 xlt:∀ b,g.X b->b<w
def FSt (g:FA)(at_:Int)(good:Bool)(w:World):Prop:=Blk w g.a 3 #[↑at_]∧Blk w g.g 4 #[good]
section
variable {t:List GN}{path:List Int}{vn vp:Value}{g:FA}{w w':World}
theorem aGh.fr (h:aGh t path vn vp g w)(hf:Fr g.M w w'):aGh t path vn vp g w':=by
 have hk:aB g.Q w w':=aB.of_fr hf (fun b h=>h.1);exact ⟨h.walk.carry hk (fun _ _ h=>h),bA hf h.pp.1 h.pbox,bA hf h.pb.1 h.wbox,h.path.carry hk (fun _ _ h=>h),h.pp,h.pb,h.ne,fun b hb=>ac (h.xlt b hb) hf.size⟩
theorem aGh.ext (h:aGh t path vn vp g w)(hx:Ext w w'):aGh t path vn vp g w':=h.fr (ar hx)
def FA.more (g:FA)(lo hi:Nat):FA:=⟨g.w,g.s,g.l,g.f,g.p,g.b,g.a,g.g,fun b=>g.X b∨(lo<=b∧b<hi)⟩
theorem aGh.more (h:aGh t path vn vp g w)(hf:Fr g.M w w'):aGh t path vn vp (g.more w w') w':=by
 have hQ:∀ b,b<w.heap.size->g.Q b->(g.more w w').Q b:=fun b hb hq=>⟨hq.1,fun hx=>hx.elim hq.2 (fun e=>by omega)⟩
 have hk:aB g.Q w w':=aB.of_fr hf (fun b h=>h.1);exact ⟨h.walk.carry hk hQ,bA hf h.pp.1 h.pbox,bA hf h.pb.1 h.wbox,h.path.carry hk hQ,hQ _ (aX h.pbox) h.pp,hQ _ (aX h.wbox) h.pb,h.ne,fun b hb=>hb.elim (fun h'=>ac (h.xlt b h') hf.size) (fun e=>e.2)⟩
theorem FSt.ext {at_ good}(h:FSt g at_ good w)(hx:Ext w w'):FSt g at_ good w':=⟨h.1.ext hx,h.2.ext hx⟩
end
def aV7 (g:FA)(r:Int × Int × Bool)(w:World)(e:Ending)(w':World):Prop:=e=.returned (.int .i64 r.1)∧Fr g.M w w'∧FSt g r.2.1 r.2.2 w'
theorem aF5 (t path vn vp g)(i:Nat)(at_ good w)(hE:aGh t path vn vp g w)(hS:FSt g at_ good w)(hi:i<t)(h0:0<=at_)(h1:at_<=path)(hpl:path.length<=1000000000)(htl:t.length<=100000) :
  qg 146 #[↑i,qp g.a,qp g.p,qp g.b,qp g.g] w (aV7 g (cD path (t.getD i default) at_ good) w):=by
 obtain ⟨n,rfl⟩:∃ n:Nat,at_=(n:Int):=⟨at_.toNat,I⟩;have HE:=a4b hE;have HS:=a4b hS;have HCH:=a4b (show cD path (t.getD i default) n good=if (path:Int)<=(n:Int)∨path.getD n 0<0∨aW (t.getD i default)<=path.getD n 0 then (0,(n:Int),false) else (path.getD n 0,(n:Int)+1,good) by unfold cD;rw [Int.toNat_natCast]);have ca:=hS.1.cell' (u:=↑n) 0 rfl;have fa:=hS.1.frozen 0;have cg:=hS.2.cell' (u:=good) 0 rfl;have fg:=hS.2.frozen 0;have cp:=hE.pbox;have cb:=hE.wbox;have cw:=hE.walk.box.cell' (u:=qp g.s) 0 rfl;have cs:=hE.walk.sets;obtain ⟨Ap,dp,ep,hp1,hp2⟩:=hE.path.form;subst ep;obtain ⟨An,dn,en,hn1,hn2⟩:=hE.walk.nodes.form;subst en;have HPA:=a4b hE.path;have HND:=a4b hE.walk.nodes;have HNE:=a4b hE.ne;have hpa:¬ g.p=g.a:=fun e=>hE.pp.1 (.inl e)
 have hpg:¬ g.p=g.g:=fun e=>hE.pp.1 (.inr e)
 clear hE hS h0;by_cases hlt:n<path
 ·obtain ⟨bp,op,rfl,hqp,-,gp⟩:=HPA.out.get hlt
  have hbpa:¬ bp=g.a:=fun e=>hqp.1 (.inl e)
  generalize hc:path.getD n 0=c at *;clear hc;have t1:decide ((path:Int)<=(n:Int))=false:=a4f I;have t1':decide (path<=n)=false:=a4f I;have hq1:(n:Int)<(path:Int):=by omega
  have hq0:(0:Int)<=(n:Int):=I;by_cases hc0:c<0
  ·have t2:decide (c<0)=true:=a4e hc0
   have HF:=a4b (HCH.out.trans (if_pos (.inr (.inl hc0))));go_enter Tryz.func146,Tryz.ntmps146;go_wp2_with fail;go_quiet (fail);go_wp2_with fail;go_ret;rw [HF.out];exact ⟨rfl,((au g.M w).setCell (p:=qp g.g) (.inl (.inr rfl)) _).drewN _,(HS.out.1.far (p:=qp g.g) HNE.out _).drewN _,(HS.out.2.set_ 0 _).drewN _⟩
  ·have t2:decide (c<0)=false:=a4f hc0
   obtain ⟨bn,on,a,rfl,hqn,hx,hn⟩:=HND.out.get hi;have HN:=a4b hn;have hii:(i:Int)<(t:Int):=by omega
   have hi0:(0:Int)<=(i:Int):=I;have HOP:=a4b (rP (t.getD i default) a bn (on+i*12));generalize t.getD i default=x at *;by_cases hop:aW x<=c
   ·have HF:=a4b (HCH.out.trans (if_pos (.inr (.inr hop))))
    generalize aW x=ov at *;have t3:decide (ov<=c)=true:=a4e hop;clear hx hn;go_enter Tryz.func146,Tryz.ntmps146;go_wp2_with fail;go_quiet ((go_at_call 147;exact Calls.quiet_of (HOP.out _ (HN.out.ext fx))));go_wp2_with fail;go_ret;rw [HF.out];exact ⟨rfl,((au g.M w).setCell (p:=qp g.g) (.inl (.inr rfl)) _).drewN _,(HS.out.1.far (p:=qp g.g) HNE.out _).drewN _,(HS.out.2.set_ 0 _).drewN _⟩
   ·have HF:=a4b (HCH.out.trans (if_neg (fun h=>h.elim (fun h=>by omega) (fun h=>h.elim hc0 hop))))
    generalize aW x=ov at *;have t3:decide (ov<=c)=false:=a4f hop;clear hx hn;go_enter Tryz.func146,Tryz.ntmps146;go_wp2_with fail;go_quiet ((go_at_call 147;exact Calls.quiet_of (HOP.out _ (HN.out.ext fx))));go_wp2_with fail;go_ret;rw [HF.out];exact ⟨rfl,((au g.M w).setCell (p:=qp g.a) (.inl (.inl rfl)) _).drewN _,(HS.out.1.set_ 0 _).drewN _,(HS.out.2.far (p:=qp g.a) (fun e=>HNE.out e.symm) _).drewN _⟩
 ·have t1:decide ((path:Int)<=(n:Int))=true:=a4e I
  have t1':decide (path<=n)=true:=a4e I;have HF:=a4b (HCH.out.trans (if_pos (.inl I)));go_enter Tryz.func146,Tryz.ntmps146;go_wp2_with fail;go_quiet (fail);go_wp2_with fail;go_ret;rw [HF.out];exact ⟨rfl,((au g.M w).setCell (p:=qp g.g) (.inl (.inr rfl)) _).drewN _,(HS.out.1.far (p:=qp g.g) HNE.out _).drewN _,(HS.out.2.set_ 0 _).drewN _⟩
def aNt (g:FA)(r:GF)(w:World)(e:Ending)(w':World):Prop:=∃ A c,e=.returned (dA r.val A c)∧VAt w' g.Q r.val A c∧Fr g.M w w'∧FSt g r.at_ r.good w'
def a37 (g:FA):Value:=.func (.func 146) #[] #[qp g.a,qp g.p,qp g.b,qp g.g]
def aC1 (t:List GN)(path:List Int)(vn vp:Value)(f:Nat):Prop:=∀ (g:FA)(i:Nat)(at_:Int)(good:Bool)(w:World),i<f->i<t->aGh t path vn vp g w->FSt g at_ good w->0<=at_->at_<=path ->
 qg 145 #[qp g.w,↑i,true,.func (.func 146) #[] #[qp g.a,qp g.p,qp g.b,qp g.g]] w (aNt g (iT t path f i at_ good) w)
theorem sJ {g:FA}{w w1:World}{y A}{c gr:Nat}{at_ good}{cs:List Value}(hgr:w<=gr)(hm:∀ b,g.M b->b<w)(hF:Fr g.M w w1)(hB:Blk w1 gr 85 cs.toArray)(hcs:cs.length=4)(hv:VAt w1 (fun b=>g.Q b∧b ≠ gr) y A c)(hS:FSt g at_ good w1) :
  (w1.setCells gr 0 (cellsOf y A c)).cell? (qp gr)=some (↑y.kind)∧(w1.setCells gr 0 (cellsOf y A c)).cell? (qt gr 1)=some (↑y.n)∧(w1.setCells gr 0 (cellsOf y A c)).cell? (qt gr 2)=some ↑y.s∧(w1.setCells gr 0 (cellsOf y A c)).cell? (qt gr 3)=some (.slice A y.kids c) ∧
   VAt (w1.setCells gr 0 (cellsOf y A c)) g.Q y A c∧Fr g.M w (w1.setCells gr 0 (cellsOf y A c))∧FSt g at_ good (w1.setCells gr 0 (cellsOf y A c)):=by
 have hb:=aG (cellsOf y A c) 0 hB (by simp [cellsOf];omega)
 have e:(cs.take 0 ++ cellsOf y A c ++ cs.drop (0+(cellsOf y A c).length)).toArray=(cellsOf y A c).toArray:=by
  rw [List.take_zero,List.nil_append,Nat.zero_add,List.drop_eq_nil_of_le (by simp [cellsOf];omega),List.append_nil]
 rw [e] at hb;have n1:¬ g.M gr:=fun h=>by have:=hm _ h;omega
 refine ⟨hb.cell' 0 rfl,hb.cell' 1 rfl,hb.cell' 2 rfl,hb.cell' 3 rfl,hv.carry (aB.setCells (fun h=>h.2 rfl) _ 0 (fun _ _ _=>rfl)) (fun b _ h=>h.1),hF.setCells _ 0 (.inr hgr),hS.1.farCells (fun e=>n1 (.inl e.symm)) _ 0,hS.2.farCells (fun e=>n1 (.inr e.symm)) _ 0⟩
theorem aM8 {a b}:¬ (a∨b) ↔ ¬ a∧¬ b:=⟨fun h=>⟨fun ha=>h (.inl ha),fun hb=>h (.inr hb)⟩,fun h hab=>hab.elim h.1 h.2⟩
theorem cN {w g b off u u0 u1 u2 u3}(hne:¬ b=g)(h:qc w b off u):((((w.setCell (qp g) u0).setCell (qt g 1) u1).setCell (qt g 2) u2).setCell (qt g 3) u3).cell? (qt b off)=some u:=fS (o:=0) hne h
theorem cF {w g b off u u0 u1 u2 u3}(hne:¬ b=g)(h:qc w b off u):((((w.setCell (qp g) u0).setCell (qt g 1) u1).setCell (qt g 2) u2).setCell (qt g 3) u3).drew.cell? (qt b off)=some u:=by rw [fI];exact cN hne h
theorem aF6 {path:List Int}{x j}{at_:Int}{good}(hn:dV j x)(h0:0<=at_)(h1:at_<=path):at_<=(cD path x at_ good).2.1∧(cD path x at_ good).2.1<=path∧0<=(cD path x at_ good).1∧(x.kind=1->x.lo+(cD path x at_ good).1<=x.hi)∧(x.kind=2->(cD path x at_ good).1<x.kids):=by
 unfold cD;have hnum:=cS hn.numbers;have hopt:=iJ hn;split
 ·exact ⟨Int.le_refl _,h1,Int.le_refl _,fun _=>by show x.lo+0<=_;omega,fun h2=>by have:=hn.choice h2;show (0:Int)<_;omega⟩
 ·next h =>
  rw [aM8,aM8] at h;refine ⟨by show at_<=at_+1;omega,by show at_+1<=_;omega,jj,fun hk=>?_,fun hk=>?_⟩
  ·rw [if_pos hk] at hopt;show x.lo+path.getD at_.toNat 0<=_;omega
  ·rw [if_neg I] at hopt;show path.getD at_.toNat 0<_;omega
theorem _root_.Go.World.ownsRow.fr_ {w w':World}{base:Nat}{e:TypeId}{size:Nat}{v:Value}{n:Nat}{xs:List Value}{M:Nat->Prop}(h:w.ownsRow base e size v n xs)(hf:Fr M w w')(hm:∀ b,M b->b<base):w'.ownsRow base e size v n xs:=by
 refine ⟨h.1,?_⟩;rcases h.2 with h | ⟨g,cap,cur,h1,h2,h3,h4⟩
 ·exact .inl h
 ·exact .inr ⟨g,cap,cur,h1,h2,(Blk.fr (t:=e) h3 hf (fun hb=>by have:=hm _ hb;omega)),h4⟩
def aJj (r:Int->Int->Bool->GF)(path:List Int)(name:ByteArray)(kids:List Int)(g:FA)(w W:World)(R0:GF)(v i:Value)(wr:World):Prop :=
 ∃ (k:Nat) (at_:Int) (good:Bool) (done:List GV) (xs:List Value),k<=kids∧i=↑k∧wr.ownsRow W 85 4 v k xs∧RVs wr (Off (fun b=>g.Q b∧b<w) W wr v) done xs∧Fr g.M w wr∧W.heap.size<=wr∧FSt g at_ good wr∧0<=at_∧at_<=path∧done=k ∧
  Blk wr w 85 #[qz,qz,qe,qn]∧R0=eZ r name at_ good done (kids.drop k)
theorem aLo {g:FA}{w W wr wu:World}{v done xs}(hm:∀ b,g.M b->b<w)(hW:w.heap.size<W)(hr:RVs wr (Off (fun b=>g.Q b∧b<w) W wr v) done xs)(hf:Fr g.M wr wu):RVs wu (Off (fun b=>g.Q b∧b<w) W wu v) done xs :=
 RVs.carry (aB.of_fr hf (fun b hb hM=>by have:=hm b hM;rcases hb.1 with h | h;exact h.1.1 hM;omega)) (fun b hb h=>⟨h.1,ac hb hf.size,h.2.2⟩) hr
theorem aH1 {r}{path:List Int}{name}{kids:List Int}{g:FA}{w W wu w5 w6:World}{R0 v v6}{k:Nat}{at_ at2 good gd2 done xs y A2 d2}(hm:∀ b,g.M b->b<w)(hW:w.heap.size<W)(hxX:∀ b,g.X b->b<w)
  (hk:k<kids)(ho:wu.ownsRow W 85 4 v k xs)(hr:RVs wu (Off (fun b=>g.Q b∧b<w) W wu v) done xs)(hF:Fr g.M w wu)(hsz:W.heap.size<=wu)(hS:FSt g at2 gd2 wu)(h0:0<=at2)(h1:at2<=path)(hd:done=k)(hB:Blk wu w 85 #[qz,qz,qe,qn])
  (hR:R0=eZ r name at_ good done (kids.drop k))(hy:r (kids.getD k 0) at_ good=⟨y,at2,gd2⟩)(h5:Ext wu w5)(hv:VAt w5 (fun b=>((g.Q b∧b<w)∨W<=b)∧some b ≠ v.ownBlock) y A2 d2)
  (ho6:w6.ownsRow W 85 4 v6 (k+1) (xs ++ [.int .i64 y.kind,.int .i64 y.n,.string y.s,.slice A2 y.kids d2]))(hf6:Fr (fun k=>some k=v.ownBlock) (w5.alloc (qk (qh y A2 d2) 85)) w6)
  (hb6:v6.ownBlock=v.ownBlock∨v6.ownBlock=some (w5.alloc (qk (qh y A2 d2) 85)).heap.size):aJj r path name kids g w W R0 v6 (.int .i64 ((k:Int)+1)) w6:=by
 have hrow:∀ b,some b=v.ownBlock->W<=b:=fun b hb=>ho.block_ge hb.symm
 have hx5:Ext wu (w5.alloc (qk (qh y A2 d2) 85)):=h5.alloc' _;have hF6:Fr g.M w w6:=(hF.trans (ar hx5)).trans_new (hf6.mono (fun b hb=>.inr (by have:=hrow b hb;omega)));refine ⟨k+1,at2,gd2,done ++ [y],_,I,O,ho6,aAf ho hr h5 hv hf6 hb6,hF6,?_,?_,h0,h1,by simp [hd],?_,?_⟩
 ·exact ae (ae hsz hx5.size) hf6.size
 ·exact ⟨(hS.1.ext hx5).fr hf6 (fun e=>by have h1:=hrow _ e;have h2:=hm _ (.inl rfl);omega),(hS.2.ext hx5).fr hf6 (fun e=>by have h1:=hrow _ e;have h2:=hm _ (.inr rfl);omega)⟩
 ·exact (hB.ext hx5).fr hf6 (fun e=>by have h1:=hrow _ e;omega)
 ·rw [hR,aH 0 hk]
  simp only [eZ,hy]
theorem aLp (t path vn vp f)(hg:bD t t)(hpl:path.length<=1000000000)(ih:aC1 t path vn vp f):aC1 t path vn vp (f+1):=by
 intro g i at_ good w hif hit hE hS h0 h1;have HIH:=a4b ih;have htl:t.length<=4096:=hg.2.1;have HMX:=a4b (show ∀ b,g.M b->b<w from fun b hb=>hb.elim (fun e=>e ▸ hS.1.lt) (fun e=>e ▸ hS.2.lt));have HFR:=a4b (show iT t path (f+1) i at_ good=oP (iT t path f) t path i (t.getD i default) at_ good by simp only [iT,Int.toNat_natCast]);have hcheck:=hg.at_ hit;have hfew:=eX hg hit;have HFO:=a4b (fun (z:Nat) (k:Int) (gd:Bool) (hz:z<i) (a0:0<=k) (a1:k<=path)=>aH2 hg path hpl f z k gd I I a0 a1);obtain ⟨An,dn,en,hn1,hn2⟩:=hE.walk.nodes.form;subst en;obtain ⟨bn,on,a,rfl,hqn,hxx,hnn⟩:=hE.walk.nodes.get hit;obtain ⟨x,hxd⟩:∃ x,x=t.getD i default:=⟨_,rfl⟩;have HXD:=a4b hxd;rw [<- hxd] at hxx hnn hfew HFR;have HOK:=a4b (show dV i x from hxd ▸ hcheck.node);have HCV:=a4b (show x.kind=4->((aF t).getD (x.kids.getD 0 0).toNat default).many=false∧((aF t).getD (x.kids.getD 0 0).toNat default).vals=x.values from fun h4=>by rw [hxd] at h4 ⊢;exact ⟨hcheck.many h4,hcheck.vals h4⟩);have HQN:=a4b hqn;have HEW:=a4b hE;have HSW:=a4b hS;have hii:(i:Int)<(t:Int):=by omega
 have hi0:(0:Int)<=(i:Int):=I;have HNW:=a4b hnn;have HXW:=a4b hxx;have HX0:=a4b ((aq w).alloc' (qk #[qz,qz,qe,qn] 85));have HB0:=a4b (aw w 85 #[qz,qz,qe,qn]);have HS0:=a4b (show w.heap.size<(w.alloc (qk #[qz,qz,qe,qn] 85)) by simp);clear hcheck hqn hE hS hnn hxx hxd ih hg;go_enter Tryz.func145,Tryz.ntmps145;go_upto_region 1 with fail;generalize w.alloc (qk #[qz,qz,qe,qn] 85)=W at *;have HE:=a4b (HEW.out.ext HX0.out);have HS:=a4b (HSW.out.ext HX0.out);have HN:=a4b (HNW.out.ext HX0.out);have hll:(aM t).length=t:=by unfold aM;rw [eF];simp
 have w0:=HE.out.walk.box.cell' (u:=qp g.s) 0 rfl;have w1:=HE.out.walk.box.cell' (u:=.slice (qp g.l) t t) 1 rfl;have w2:=HE.out.walk.box.cell' (u:=.slice (qp g.f) t t) 2 rfl;have ws:=HE.out.walk.sets;have wl:=HE.out.walk.lens.cell' i (kM (l:=aM t) I);have c0:=HN.out.c0;have c2:=HN.out.c2;have c7:=HN.out.c7;have HLR:=a4b (show ∃ lr,lr=(aM t).getD i 0 from ⟨_,rfl⟩);obtain ⟨lr,hlr⟩:=HLR.out;have HLE:=a4b hlr;rw [<- hlr] at wl;obtain ⟨r0,r1,r2,r3⟩:=aQ HB0.out;have f0:=HB0.out.frozen 0;have f1:=HB0.out.frozen 1;have f2:=HB0.out.frozen 2;have f3:=HB0.out.frozen 3;clear hlr hll HLR;by_cases hz:lr=0
 ·subst hz
  have hfl:(uU t).length=t:=by rw [<- xP,aDr (ab _)]
  have HFF:=a4b (show iT t path (f+1) i at_ good=⟨(uU t).getD i default,at_,good⟩ by rw [HFR.out];unfold oP;rw [Int.toNat_natCast,if_pos HLE.out.symm]);obtain ⟨bf,of,Af,df,ef,-,hvf,q0,q1,q2,q3⟩:=HEW.out.walk.fixed.get (i:=i) I;injection ef with ef;injection ef with ef1 ef2;subst ef1 ef2;rw [Nat.zero_add] at q0 q1 q2 q3;have HVF:=a4b (hvf.carry (Q:=fun b=>g.Q b∧b ≠ w) (aB.of_ext HX0.out) (fun b hb h=>⟨h,I⟩));have q0':=aA HX0.out q0;have q1':=aA HX0.out q1;have q2':=aA HX0.out q2;have q3':=aA HX0.out q3;clear hvf hfl q0 q1 q2 q3;generalize (uU t).getD i default=y at *;go_wp2_with fail;obtain ⟨z0,z1,z2,z3,hvz,hFz,hSz⟩:=sJ (gr:=w.heap.size) (cs:=[qz,qz,qe,qn]) (ab _) HMX.out (ar HX0.out) HB0.out rfl HVF.out HS.out;have hgen:((((W.setCell (qp w) (↑y.kind)).setCell (qt w 1) (↑y.n)).setCell (qt w 2) y.s).setCell (qt w 3) (.slice Af y.kids df))=W.setCells w 0 (cellsOf y Af df):=rfl;rw [hgen];generalize W.setCells w 0 (cellsOf y Af df)=WF at *;exact bodyPost_ret (v:=dA y Af df) (by simp [results,Tryz.results145,go_sem,z0,z1,z2,z3]) rfl (by rw [HFF.out];exact ⟨Af,df,rfl,hvz,hFz,hSz⟩)
 have tz:(lr == 0)=false:=a4c hz
 have HFZ:=a4b (show iT t path (f+1) i at_ good=if x.kind=1 then ⟨.mk 0 (x.lo+(cD path x at_ good).1) ByteArray.empty [],(cD path x at_ good).2.1,(cD path x at_ good).2.2⟩
   else if x.kind=2 then iT t path f (x.kids.getD (cD path x at_ good).1.toNat 0) (cD path x at_ good).2.1 (cD path x at_ good).2.2
   else if x.kind=4 then iT t path f (x.kids.getD ((cU x.values (iT t path f (x.kids.getD 0 0) at_ good).val).1+1) 0) (iT t path f (x.kids.getD 0 0) at_ good).at_ (iT t path f (x.kids.getD 0 0) at_ good).good
   else eZ (iT t path f) x.name at_ good [] x.kids by rw [HFR.out];unfold oP;rw [Int.toNat_natCast,if_neg (by rw [<- HLE.out];exact hz)])
 have HNM:=a4b (show ¬ g.M w.heap.size from fun h=>by have:=HMX.out _ h;omega);have lbn:=HNW.out.lt;have hbr:¬ bn=w:=by omega
 have HCHO:=a4b (show ∀ W',Ext W W'->qg 146 #[↑i,qp g.a,qp g.p,qp g.b,qp g.g] W' (aV7 g (cD path x at_ good) W') from fun W' h=>by
  rw [HXD.out];exact aF5 t path _ vp g i at_ good W' (HE.out.ext h) (HS.out.ext h) hit h0 h1 hpl I)
 have HBD:=a4b (aF6 (good:=good) HOK.out h0 h1);by_cases k1:x.kind=1
 ·have tk1:(x.kind == 1)=true:=a4d k1
  rw [if_pos k1] at HFZ;have hb1:=HBD.out.2.2.1;have hb2:=HBD.out.2.2.2.1 k1;have hnum:=cS HOK.out.numbers;generalize cD path x at_ good=rc at *;obtain ⟨c,at2,gd2⟩:=rc;simp only at hb1 hb2 HFZ;have HVY:=a4b (show ∀ W' Q,VAt W' Q (.mk 0 (x.lo+c) ByteArray.empty []) none 0 from fun W' Q=>⟨by unfold I64;simp [GV.kind],by unfold I64;simp only [GV.n];omega,by simp [GV.s],ab _,⟨dl,I⟩,⟨none,0,[],rfl,ab _,⟨dl,I⟩,⟨rfl,fun h=>absurd h dl⟩,rfl⟩⟩);have hwr:IntKind.i64.wrap (x.lo+c)=x.lo+c:=IntWalk.i64_in _ I;clear k1 c7;go_wp2_with fail
  go_region_held3 (fun w'=>qc w' bn (on+i*12+2) x.lo)
   (first
    | with_reducible exact cN hbr c2'
    | with_reducible exact cF hbr c2'
    | with_reducible exact c2'
    | go_keep)
   (first
    | (go_at_call 146;refine (HCHO.out _ (aq _).drew').mono ?_;rintro e wv ⟨rfl,hfc,hst⟩;have c2':=kX hfc HQN.out.1 c2;have hBv:=(HB0.out.drew).fr hfc HNM.out;obtain ⟨z0,z1,z2,z3⟩:=aQ hBv;have zf0:=hBv.frozen 0;have zf1:=hBv.frozen 1;have zf2:=hBv.frozen 2;have zf3:=hBv.frozen 3))
  go_wp2_with fail;have hFw:Fr g.M w wv:=(ar HX0.out.drew').trans hfc;clear z0 z1 z2 z3;obtain ⟨z0,z1,z2,z3,hvz,hFz,hSz⟩:=sJ (gr:=w.heap.size) (cs:=[qz,qz,qe,qn]) (ab _) HMX.out hFw hBv rfl (HVY.out _ _) hst;have hgen:((((wv.setCell (qp w) qz).setCell (qt w 1) (.int .i64 (x.lo+c))).setCell (qt w 2) qe).setCell (qt w 3) qn)=wv.setCells w 0 (cellsOf (GV.mk 0 (x.lo+c) ByteArray.empty []) none 0):=rfl;rw [hgen];generalize wv.setCells w 0 (cellsOf (GV.mk 0 (x.lo+c) ByteArray.empty []) none 0)=WF at *;exact bodyPost_ret (v:=dA (GV.mk 0 (x.lo+c) ByteArray.empty []) none 0) (by simp [results,Tryz.results145,go_sem,z0,z1,z2,z3]) rfl (by rw [HFZ.out];exact ⟨none,0,rfl,hvz,hFz,hSz⟩)
 have HREC:=a4b (show ∀ (zn:Nat) (at3:Int) (gd3:Bool) (W':World),zn<i->Fr g.M w W'->FSt g at3 gd3 W'->0<=at3->at3<=path->qg 145 #[qp g.w,.int .i64 zn,true,.func (.func 146) #[] #[qp g.a,qp g.p,qp g.b,qp g.g]] W' (aNt (g.more w W') (iT t path f zn at3 gd3) W') from fun zn at3 gd3 W' hz hF hSt a0 a1 =>
  HIH.out (g.more w W'.heap.size) zn at3 gd3 W' I I (HEW.out.more hF) hSt a0 a1)
 have HQQ:=a4b (show ∀ (lo hi b:Nat),(g.more lo hi).Q b->g.Q b∧¬ (lo<=b∧b<hi) from fun lo hi b h=>⟨⟨h.1,fun hx=>h.2 (.inl hx)⟩,fun hx=>h.2 (.inr hx)⟩);by_cases k2:x.kind=2
 ·have tk1:(x.kind == 1)=false:=a4c k1
  have tk2:(x.kind == 2)=true:=a4d k2;rw [if_neg k1,if_pos k2] at HFZ;have hb0:=HBD.out.1;have hb3:=HBD.out.2.1;have hb1:=HBD.out.2.2.1;have hb2:=HBD.out.2.2.2.2 k2;generalize cD path x at_ good=rc at *;obtain ⟨c,at2,gd2⟩:=rc;simp only at hb0 hb1 hb2 hb3 HFZ;obtain ⟨hkl1,hkl2⟩:=HXW.out.kids.le;obtain ⟨bk,ok,ek,hqk,-,gk⟩:=HXW.out.kids.get (i:=c.toNat) I;have hzz:=HOK.out.kids _ (aD (d:=0) (show c.toNat<x.kids by omega));obtain ⟨zn,hzn⟩:∃ zn:Nat,x.kids.getD c.toNat 0=(zn:Int):=⟨(x.kids.getD c.toNat 0).toNat,I⟩;rw [hzn] at gk HFZ hzz;rw [ek] at c7;have lbk:=aX gk;have hbk:¬ bk=w:=by omega
  have ck:=aA HX0.out gk;have HQK:=a4b hqk;have hzi:zn<i:=by omega
  clear hzn hzz gk ek hqk k1 k2;go_wp2_with fail
  go_region_held3 (fun w'=>qc w' bn (on+i*12+7) (.slice (qt bk ok) x.kids a.kc)∧qc w' bk (ok+c.toNat) (.int .i64 zn))
   (first
    | with_reducible exact ⟨cN hbr c7'',cN hbk ck''⟩
    | with_reducible exact ⟨cF hbr c7'',cF hbk ck''⟩
    | with_reducible exact ⟨c7'',ck''⟩
    | with_reducible exact ⟨c7',ck'⟩
    | go_keep)
   (first
    | (go_at_call 146;refine (HCHO.out _ (aq _).drew').mono ?_;rintro e wv ⟨rfl,hfc,hst⟩;have hFw:Fr g.M w wv:=(ar HX0.out.drew').trans hfc;have hszv:w.heap.size<wv:=ac HS0.out hfc.size;have c7':=kX hfc HQN.out.1 c7;have ck':=kX hfc HQK.out.1 ck)
    | (go_at_call 145;refine (HREC.out zn at2 gd2 wv hzi hFw hst (by omega) hb3).mono ?_;rintro e wu ⟨A2,c2,rfl,hv2,hfu,hsu⟩;have c7'':=bA hfu HQN.out.1 c7';have ck'':=bA hfu HQK.out.1 ck';have hBu:=((HB0.out.drew).fr hfc HNM.out).fr hfu HNM.out;obtain ⟨z0,z1,z2,z3⟩:=aQ hBu;have zf0:=hBu.frozen 0;have zf1:=hBu.frozen 1;have zf2:=hBu.frozen 2;have zf3:=hBu.frozen 3))
  generalize iT t path f zn at2 gd2=rr at *;obtain ⟨y,at3,gd3⟩:=rr;simp only at hv2 hsu HFZ;go_wp2_with fail;have hFu:Fr g.M w wu:=hFw.trans hfu;have hVu:VAt wu (fun b=>g.Q b∧b ≠ w) y A2 c2:=hv2.carry (fun _ _ _=>rfl) (fun b _ h=>⟨(HQQ.out _ _ _ h).1,fun e=>(HQQ.out _ _ _ h).2 I⟩);clear z0 z1 z2 z3;obtain ⟨z0,z1,z2,z3,hvz,hFz,hSz⟩:=sJ (gr:=w.heap.size) (cs:=[qz,qz,qe,qn]) (ab _) HMX.out hFu hBu rfl hVu hsu;have hgen:((((wu.setCell (qp w) (↑y.kind)).setCell (qt w 1) (↑y.n)).setCell (qt w 2) y.s).setCell (qt w 3) (.slice A2 y.kids c2))=wu.setCells w 0 (cellsOf y A2 c2):=rfl;rw [hgen];generalize wu.setCells w 0 (cellsOf y A2 c2)=WF at *;exact bodyPost_ret (v:=dA y A2 c2) (by simp [results,Tryz.results145,go_sem,z0,z1,z2,z3]) rfl (by rw [HFZ.out];exact ⟨A2,c2,rfl,hvz,hFz,hSz⟩)
 by_cases k4:x.kind=4
 ·have tk1:(x.kind == 1)=false:=a4c k1
  have tk2:(x.kind == 2)=false:=a4c k2;have tk4:(x.kind == 4)=true:=a4d k4;rw [if_neg k1,if_neg k2,if_pos k4] at HFZ;have hbd:=HOK.out.bind k4;obtain ⟨hm1,hm2⟩:=HCV.out k4;have hinc:=HOK.out.inc;obtain ⟨hkl1,hkl2⟩:=HXW.out.kids.le;obtain ⟨bk,ok,ek,hqk,-,gk⟩:=HXW.out.kids.get (i:=0) I;rw [Nat.add_zero] at gk;have hzz:=HOK.out.kids _ (aD (d:=0) (show 0<x.kids.length by omega));obtain ⟨zn,hzn⟩:∃ zn:Nat,x.kids.getD 0 0=(zn:Int):=⟨(x.kids.getD 0 0).toNat,I⟩;rw [hzn] at gk HFZ hzz hm1 hm2;rw [Int.toNat_natCast] at hm1 hm2;rw [ek] at c7;have lbk:=aX gk;have hbk:¬ bk=w:=by omega
  have ck:=aA HX0.out gk;have HQK:=a4b hqk;have hzi:zn<i:=by omega
  have hfo:=HFO.out zn at_ good hzi h0 h1;have HRC:=a4b (HREC.out zn at_ good W hzi (ar HX0.out) HS.out h0 h1);generalize bR t path f (zn:Int) at_=rd at *;generalize iT t path f (zn:Int) at_ good=rr at *;obtain ⟨y,at2,gd2⟩:=rr;have hat:=hfo.at0;have hmem:=hfo.mem hm1;rw [hm2] at hmem;simp only at hat hmem HFZ;have hfi:=jZ hinc hmem;have HCS:=a4b (show ∀ (A:Option Addr) (c:Nat) (W':World),bQ W' bn (on+i*12) x a->NAt W' g.Q x a->VAt W' g.Q y A c->qg 185 #[qt bn (on+i*12),dA y A c] W' (dI (.int .i64 ((cU x.values y).1+1)) W') from fun A c W' q1 q2 q3=>zA x a bn (on+i*12) y A c g.Q g.Q W' q1 q2 q3 hinc I);generalize (cU x.values y).1=q at *;have hql:q+1<x.kids:=by omega
  obtain ⟨bk2,ok2,ek2,-,-,gk2⟩:=HXW.out.kids.get (i:=q+1) hql;rw [ek] at ek2;injection ek2 with ek2;injection ek2 with ek21 ek22;subst ek21 ek22;have hz2:=HOK.out.kids _ (aD (d:=0) hql);obtain ⟨zq,hzq⟩:∃ zq:Nat,x.kids.getD (q+1) 0=(zq:Int):=⟨(x.kids.getD (q+1) 0).toNat,I⟩;rw [hzq] at gk2 HFZ hz2;have hzqi:zq<i:=by omega
  have ck2:=aA HX0.out gk2;have hk1:(0:Int)<(x.kids:Int):=by omega
  have hq0:(0:Int)<=(q:Int)+1:=I;have hq1:(q:Int)+1<(x.kids:Int):=I;have hqt:((q:Int)+1).toNat=q+1:=I;have HQT:=a4b hqt;have HAT:=a4b hat;clear hzn hzz gk ek hqk k1 k2 k4 hm1 hm2 hinc hfo hmem hfi hqt hz2 hzq gk2 hbd;go_wp2_with fail;refine HRC.out.mono ?_;rintro e wu ⟨A2,d2,rfl,hv2,hfu,hsu⟩;have hFu:Fr g.M w wu:=(ar HX0.out).trans hfu;have d7:=bA hfu HQN.out.1 c7;have dk:=bA hfu HQK.out.1 ck2;have HVU:=a4b (hv2.carry (Q:=g.Q) (fun _ _ _=>rfl) (fun b _ h=>(HQQ.out _ _ _ h).1));have HNU:=a4b (show bQ wu bn (on+i*12) x a from fun j u hu=>bA hfu HQN.out.1 (HN.out j u hu));have HXU:=a4b (HXW.out.carry (Q:=g.Q) (aB.of_fr hFu (fun b h=>h.1)) (fun _ _ h=>h));have HBU:=a4b (HB0.out.fr hfu HNM.out);have HFU:=a4b hFu;have HSU:=a4b hsu;simp only at HVU HSU;have lu:w.heap.size<wu:=ac HS0.out hfu.size;clear hv2 hfu hsu hFu HRC c7 ck ck2 c0 c2 r0 r1 r2 r3 f0 f1 f2 f3 w0 w1 w2 ws wl;go_wp2_with fail;have HXQ:=a4b ((aq wu).alloc' (qk (qh y A2 d2) 85));have HBQ:=a4b (aw wu 85 (qh y A2 d2));generalize wu.alloc (qk (qh y A2 d2) 85)=Wq at *;have e7:=aA HXQ.out d7;have eK:=aA HXQ.out dk;obtain ⟨y0,y1,y2,y3⟩:=aQ HBQ.out;have ngq:¬ wu.heap.size=w:=by omega
  have NMQ:¬ g.M wu.heap.size:=fun h=>by have:=HMX.out _ h;omega
  have hqt:=HQT.out;clear d7 dk
  go_region_held3 (fun w'=>qc w' bn (on+i*12+7) (.slice (qt bk ok) x.kids a.kc)∧qc w' bk (ok+(q+1)) zq∧qc w' wu 0 y.kind∧qc w' wu 1 y.n∧qc w' wu 2 y.s∧qc w' wu 3 (.slice A2 y.kids d2))
   (first
    | with_reducible exact ⟨cN hbr e7'',cN hbk eK'',cN ngq y0'',cN ngq y1'',cN ngq y2'',cN ngq y3''⟩
    | with_reducible exact ⟨cF hbr e7'',cF hbk eK'',cF ngq y0'',cF ngq y1'',cF ngq y2'',cF ngq y3''⟩
    | with_reducible exact ⟨e7'',eK'',y0'',y1'',y2'',y3''⟩
    | with_reducible exact ⟨e7',eK',y0',y1',y2',y3'⟩
    | go_keep)
   (first
    | (go_at_call 185;refine (HCS.out A2 d2 _ ((HNU.out.ext HXQ.out).ext (aq _).drew') ((HXU.out.ext HXQ.out).ext (aq _).drew') ((HVU.out.ext HXQ.out).ext (aq _).drew')).mono ?_;rintro e wv ⟨rfl,hx5⟩;have hx6:Ext Wq wv:=(aq _).drew'.trans' hx5;have e7':=aA hx6 e7;have eK':=aA hx6 eK;have y0':=aA hx6 y0;have y1':=aA hx6 y1;have y2':=aA hx6 y2;have y3':=aA hx6 y3;have hFv:Fr g.M w wv:=HFU.out.trans (ar (HXQ.out.trans' hx6));have hSv:FSt g at2 gd2 wv:=HSU.out.ext (HXQ.out.trans' hx6))
    | (go_at_call 145;refine (HREC.out zq at2 gd2 wv hzqi hFv hSv (by have:=HAT.out;omega) HAT.out.2).mono ?_;rintro e wz ⟨A3,c3,rfl,hv3,hfz,hsz⟩;have e7'':=bA hfz HQN.out.1 e7';have eK'':=bA hfz HQK.out.1 eK';have y0'':=bA hfz NMQ y0';have y1'':=bA hfz NMQ y1';have y2'':=bA hfz NMQ y2';have y3'':=bA hfz NMQ y3';have hBz:=(HBU.out.ext (HXQ.out.trans' hx6)).fr hfz HNM.out;obtain ⟨z0,z1,z2,z3⟩:=aQ hBz;have zf0:=hBz.frozen 0;have zf1:=hBz.frozen 1;have zf2:=hBz.frozen 2;have zf3:=hBz.frozen 3))
  clear hqt;generalize iT t path f (zq:Int) at2 gd2=rr3 at *;obtain ⟨yz,at4,gd4⟩:=rr3;simp only at hv3 hsz HFZ;go_wp2_with fail;have hFz':Fr g.M w wz:=hFv.trans hfz;have hwz:w.heap.size<wv:=ac lu (HXQ.out.trans' hx6).size;have hVz:VAt wz (fun b=>g.Q b∧b ≠ w) yz A3 c3:=hv3.carry (fun _ _ _=>rfl) (fun b _ h=>⟨(HQQ.out _ _ _ h).1,fun e=>(HQQ.out _ _ _ h).2 I⟩);clear z0 z1 z2 z3;obtain ⟨z0,z1,z2,z3,hvz,hFz,hSz⟩:=sJ (gr:=w.heap.size) (cs:=[qz,qz,qe,qn]) (ab _) HMX.out hFz' hBz rfl hVz hsz;have hgen:((((wz.setCell (qp w) (↑yz.kind)).setCell (qt w 1) (↑yz.n)).setCell (qt w 2) yz.s).setCell (qt w 3) (.slice A3 yz.kids c3))=wz.setCells w 0 (cellsOf yz A3 c3):=rfl;rw [hgen];generalize wz.setCells w 0 (cellsOf yz A3 c3)=WF at *;exact bodyPost_ret (v:=dA yz A3 c3) (by simp [results,Tryz.results145,go_sem,z0,z1,z2,z3]) rfl (by rw [HFZ.out];exact ⟨A3,c3,rfl,hvz,hFz,hSz⟩)
 have tk1:(x.kind == 1)=false:=a4c k1;have tk2:(x.kind == 2)=false:=a4c k2;have tk4:(x.kind == 4)=false:=a4c k4;rw [if_neg k1,if_neg k2,if_neg k4] at HFZ;have HKV:=a4b HXW.out.kids;have HKI:=a4b HOK.out.kids;have HNM2:=a4b HXW.out.name;have HXL:=a4b HEW.out.xlt;obtain ⟨hkl1,hkl2⟩:=HXW.out.kids.le;obtain ⟨i0,hi,hz0,hz1,hz2⟩:=info_parts Tryz.info85;have HI:=a4b hi;clear hi k1 k2 k4;generalize a.kA=Ak at *;generalize a.kc=kc at *;go_wp2_with fail;go_loopw [11,98] (fun v ix wr=>aJj (iT t path f) path x.name x.kids g w W (iT t path (f+1) i at_ good) v ix wr) (fun _ ix _=>x.kids.length - (intOf ix).toNat)
 case atStart=>exact ⟨0,at_,good,[],[],af _,rfl,World.ownsRow_nil _ _ _ _,by simp [RVs],ar HX0.out,ab _,HS.out,h0,h1,rfl,HB0.out,HFZ.out⟩
 case round =>
  obtain ⟨k,at1,gd1,done,xs,hk,rfl,ho,hr,hF,hsz,hSt,a0,a1,hdl,hB,hR⟩:=hrel;obtain ⟨Av,cv,ev,-,-,-⟩:=Sl.of_own ho;subst ev;have HO:=a4b ho;have HR:=a4b hr;have HF:=a4b hF;have HST:=a4b hSt;have HDL:=a4b hdl;have HB:=a4b hB;have HRR:=a4b hR;have HSZ:=a4b hsz;clear ho hr hF hSt hdl hB hR hsz;by_cases hlt:k<x.kids
  ·obtain ⟨bk,ok,rfl,hqk,-,gk⟩:=HKV.out.get hlt
   have hzz:=HKI.out _ (aD (d:=0) hlt);obtain ⟨zn,hzn⟩:∃ zn:Nat,x.kids.getD k 0=(zn:Int):=⟨(x.kids.getD k 0).toNat,I⟩;rw [hzn] at gk hzz;have ck:=bA HF.out hqk.1 gk;have hzi:zn<i:=by omega
   have HRC:=a4b (HREC.out zn at1 gd1 wr hzi HF.out HST.out a0 a1);have hfo:=HFO.out zn at1 gd1 hzi a0 a1;have HHY:=a4b (show iT t path f (x.kids.getD k 0) at1 gd1=iT t path f (zn:Int) at1 gd1 by rw [hzn]);generalize bR t path f (zn:Int) at1=rd at *;generalize iT t path f (zn:Int) at1 gd1=rr at *;obtain ⟨y,at2,gd2⟩:=rr;have hat:=hfo.at0;simp only at hat;have HAT:=a4b hat;have hkk:(k:Int)<(x.kids:Int):=by omega
   clear hzn hzz gk hqk hfo hat;go_wp2_with fail;refine HRC.out.mono ?_;rintro e wu ⟨A2,d2,rfl,hv2,hfu,hsu⟩;simp only at hv2 hsu;have HOU:=a4b (HO.out.fr_ hfu (fun b hb=>by have h1:=HMX.out b hb;have h2:=HS0.out;omega));have HRU:=a4b (aLo HMX.out HS0.out HR.out hfu);have HFU:=a4b (HF.out.trans hfu);have HSU:=a4b hsu;have HBU:=a4b (HB.out.fr hfu HNM.out);have HZU:=a4b (ae HSZ.out hfu.size)
   have HVU:=a4b (hv2.carry (Q:=fun b=>((g.Q b∧b<w)∨W<=b)∧some b ≠ (Value.slice Av k cv).ownBlock) (fun _ _ _=>rfl) (fun b hb h=>by
    have h1:=HQQ.out _ _ _ h;have h2:=HSZ.out;have h3:=HS0.out;refine ⟨?_,fun e=>?_⟩
    ·by_cases hbw:b<w.heap.size
     ·exact .inl ⟨h1.1,hbw⟩
     ·exact .inr (by have:=h1.2;omega)
    ·have h4:=HO.out.block_ge e.symm
     have h5:=HO.out.block_lt e.symm;exact h1.2 I))
   clear hv2 hfu hsu HRC;go_upto_region 17 with fail;have HX5:=a4b ((aq wu).alloc' (qk (qh y A2 d2) 85));have HB5:=a4b (aw wu 85 (qh y A2 d2));generalize wu.alloc (qk (qh y A2 d2) 85)=w5 at *;obtain ⟨y0,y1,y2,y3⟩:=aQ HB5.out;have HZ5:=a4b (ae HZU.out HX5.out.size);go_wp2_with (at_builtin;go_must (refine aN _ rfl (.tmp 108) (.tmp 110) 83 ba W 85 i0 _ 4 56 Tryz.underlying83 HI.out hz0 hz1 hz2 rfl I (.slice Av k cv) _ _ rfl ((HOU.out.ext_ HX5.out).alloc _) (fun _=>True) (qp w5) 1 1 (qh y A2 d2) rfl (Sl.new w5 _ _ _ _ rfl) cd I I (by have:=HZ5.out;simp;omega) ?_);intro v6 w6 ho6 hf6 hb6);go_roundw
   case rel=>exact aH1 HMX.out HS0.out HXL.out hlt HOU.out HRU.out HFU.out HZU.out HSU.out (by have:=HAT.out;omega) HAT.out.2 HDL.out HBU.out HRR.out HHY.out HX5.out (HVU.out.ext HX5.out) ho6 hf6 hb6
   case measure=>simp [intOf];omega
  ·obtain rfl:k=x.kids:=by omega
   have HRE:=a4b (show iT t path (f+1) i at_ good=⟨bX x.name done,at1,gd1⟩ by rw [HRR.out,drop_nil (ab _)];rfl);have HNR:=a4b (show bQ wr bn (on+i*12) x a from fun j u hu=>bA HF.out HQN.out.1 (HNW.out j u hu))
   have HMD:=a4b (show Calls Tryz.prog 97 #[qt bn (on+i*12),.slice Av x.kids cv] wr fun e w'=>e=.returned (dA (bX x.name done) Av cv)∧Ext wr w' by
    have h:=jX x a bn (on+i*12) done Av cv wr HNR.out;rw [HDL.out] at h;exact h)
   have HVD:=a4b (show bT wr (fun b=>g.Q b∧b ≠ w) (.slice Av done cv) done by
    have h:=bT.of_own (Q:=fun b=>g.Q b∧b ≠ w) (HO.out.len_cast HDL.out.symm rfl) (RVs.carry (fun _ _ _=>rfl) (fun b hb h=>?_) HR.out) (by rw [HDL.out];omega) (fun b hb=>?_)
    ·rw [HDL.out];exact h
    ·have h3:=HS0.out
     rcases h.1 with h1 | h1
     ·exact ⟨h1.1,I⟩
     ·exact ⟨⟨fun hm=>by have:=HMX.out _ hm;omega,fun hx=>by have:=HXL.out _ hx;omega⟩,I⟩
    ·have h1:=HO.out.block_ge hb
     have h3:=HS0.out;exact ⟨⟨fun hm=>by have:=HMX.out _ hm;omega,fun hx=>by have:=HXL.out _ hx;omega⟩,I⟩)
   have HVM:=a4b (VAt.made HNM2.out HVD.out);generalize bX x.name done=ym at *;go_wp2_with fail;refine HMD.out.mono ?_;rintro e w7 ⟨rfl,hx7⟩;have hB7:=HB.out.ext hx7;obtain ⟨z0,z1,z2,z3⟩:=aQ hB7;have zf0:=hB7.frozen 0;have zf1:=hB7.frozen 1;have zf2:=hB7.frozen 2;have zf3:=hB7.frozen 3;have HX7:=a4b hx7;have HB7:=a4b hB7;clear hx7 hB7;go_wp2_with fail;clear z0 z1 z2 z3;obtain ⟨z0,z1,z2,z3,hvz,hFz,hSz⟩:=sJ (gr:=w.heap.size) (cs:=[qz,qz,qe,qn]) (ab _) HMX.out (HF.out.trans (ar HX7.out)) HB7.out rfl (HVM.out.ext HX7.out) (HST.out.ext HX7.out);have hgen:((((w7.setCell (qp w) (↑ym.kind)).setCell (qt w 1) (↑ym.n)).setCell (qt w 2) ym.s).setCell (qt w 3) (.slice Av ym.kids cv))=w7.setCells w 0 (cellsOf ym Av cv):=rfl;rw [hgen];generalize w7.setCells w 0 (cellsOf ym Av cv)=WF at *;exact bodyPost_ret (v:=dA ym Av cv) (by simp [results,Tryz.results145,go_sem,z0,z1,z2,z3]) rfl (by rw [HRE.out];exact ⟨Av,cv,rfl,hvz,hFz,hSz⟩)
theorem aFn (t path vn vp)(hg:bD t t)(hpl:path.length<=1000000000)(f):aC1 t path vn vp f:=by
 induction f with
 | zero=>intro g i at_ good w hif;omega
 | succ f ih=>exact aLp t path vn vp f hg hpl ih
