/- Contracts of functions. Conditions: none. -/
import Derived.Test.YtkoeecdjijfjnaaGreatH2
set_option maxRecDepth 100000
set_option maxHeartbeats 8000000
namespace Go.Proofs.YtkoeecdjijfjnaaGreat
open Go.RowKit
def aJh (t:List GN)(vn:Value)(P:Nat->Prop)(W:World)(s:Value)(wx:World):Prop :=
 ∃ gw gs gl gf,s=.pointer (some ⟨gw,0,none⟩)∧WN t vn P W gw gs gl gf (List.replicate t.length 0) (oG t 0) wx
theorem iE {t:List GN}{vn:Value}{P:Nat->Prop}{W w1 wx:World}{gw gl gf:Nat}{g:SA}{mi mv:Array Value}(hmi:mi=madeCells #[.int .i64 0] t.length)(hmv:mv=madeCells #[.int .i64 0,.int .i64 0,.string ByteArray.empty,.slice none 0 0] (t.length*4))(ht:Nds W P vn t)(hs:bQ t vn g w1)(hx1:Ext w1 wx)(hx:Ext W wx)
  (hb:Blk wx gw 149 #[.pointer (some ⟨g.s,0,none⟩),.slice (some ⟨gl,0,none⟩) t.length t.length,.slice (some ⟨gf,0,none⟩) t.length t.length])
  (hl:Blk wx gl 3 mi)(hf:Blk wx gf 85 mv)(n1:gw ≠ gl)(n2:gw ≠ gf)(n3:gl ≠ gf)(n4:g.s ≠ gl)(n5:g.s ≠ gf)(bw:W.heap.size<=gw)(bs:W.heap.size<=g.s)(bl:W.heap.size<=gl)(bf:W.heap.size<=gf) :
  aJh t vn P W (.pointer (some ⟨gw,0,none⟩)) wx:=by
 obtain ⟨kn,ls,ms,h0⟩:=hs;have e:madeCells #[.int .i64 0] t.length=iH (List.replicate t.length 0):=by rw [eV];simp [iH]
 rw [hmi,e] at hl;have e2:oG t 0=List.replicate t.length default:=by unfold oG eC;simp [jF]
 refine ⟨gw,g.s,gl,gf,rfl,hb,(h0.box.ext hx1).cell' 0 rfl,hl,⟨mv.toList,by simpa using hf,?_⟩,ht.ext hx,n1,n2,n3,n4,n5,bw,bs,bl,bf,Y,by rw [e2];simp,hx⟩;rw [e2,hmv,aPl];exact aBi _ _ _
def aBl (t:List GN)(vn:Value)(P:Nat->Prop)(W:World)(gw gs gl gf:Nat)(i:Value)(wr:World):Prop :=
 ∃ (k:Nat) (ls:List Int),k<=t.length∧i=↑k∧WN t vn P W gw gs gl gf ls (oG t k) wr∧ls.take k=(aM t).take k∧(∀ x ∈ ls,I64 x)
def aQm (t:List GN)(vn:Value)(P:Nat->Prop)(w:World)(e:Ending)(w':World):Prop :=
 ∃ gw gs gl gf,e=.returned (.pointer (some ⟨gw,0,none⟩))∧jY t vn gw gs gl gf (New P w.heap.size) w'∧Ext w w'∧w.heap.size<=gw∧w.heap.size<=gs∧w.heap.size<=gl∧w.heap.size<=gf
theorem aGl {t:List GN}{vn:Value}{P:Nat->Prop}{w W wr:World}{gw gs gl gf:Nat}{ls:List Int}(hx:Ext w W)(h:WN t vn P W gw gs gl gf ls (oG t t.length) wr)(hl:ls.take t.length=(aM t).take t.length)(hlen:t.length<=17592186044416):aQm t vn P w (.returned (.pointer (some ⟨gw,0,none⟩))) wr:=by
 have hll:(aM t).length=t.length:=by unfold aM;rw [eH];simp
 rw [List.take_of_length_le (by have:=h.llen;omega),List.take_of_length_le U] at hl;obtain ⟨cs,h1,h2⟩:=h.fix;rw [tZ] at h2;have hsz:=hx.size;have b1:=h.bw;have b2:=h.bs;have b3:=h.bl;have b4:=h.bf;have hfl:(rS t).length=t.length:=by rw [<- tZ,aAu (Nat.le_refl _)]
 refine ⟨gw,gs,gl,gf,rfl,⟨h.box,h.sets,hl ▸ h.lens,?_,h.nodes.carry (fun _ _ _=>rfl) (fun _ _ h=>.inl h),.inr U,.inr U,.inr U⟩,hx.trans' h.ext,U,U,U,U⟩;refine ⟨some ⟨gf,0,none⟩,t.length,cs,by rw [hfl],U,⟨U,U⟩,⟨h2.len,fun _=>⟨gf,0,rfl,.inr U,fun j u hu=>by rw [Nat.zero_add];exact h1.cell' j fq⟩⟩,?_⟩;exact RVs.carry (fun _ _ _=>rfl) (fun b _ h=>h.1.elim .inl (fun h=>.inr U)) h2
theorem iD {t:List GN}{k:Nat}{ls:List Int}(hg:bD t t.length)(hk:k<t.length)(hl:ls.take k=(aM t).take k)(hll:ls.length=t.length):gO ls (t.getD k default)=(aM t).getD k 0∧(ls.set k (gO ls (t.getD k default))).take (k+1)=(aM t).take (k+1) :=
 ⟨yE hk (hg.at_ hk).node hl,aA8 (hg.mono U) hk (hg.2.2 k hk) hl hll⟩
theorem yS {t:List GN}{vn:Value}{P:Nat->Prop}{W w2:World}{gw gs gl gf k:Nat}{ls:List Int}{v:GV}{us:List Value}(hg:bD t t.length)(hk:k<t.length)(hll:ls.length=t.length)(hl:ls.take k=(aM t).take k)(hI:∀ x ∈ ls,I64 x){lr:Int}(hlr:lr=gO ls (t.getD k default))
  (h:WN t vn P W gw gs gl gf (ls.set k lr) (oG t k) w2)(hP:∀ b,P b->b<W.heap.size)(hv:RV w2 (fun b=>(P b∨W.heap.size<=b)∧b ≠ gl∧b ≠ gf) v us)(hf:dS (aM t) (eC t k) (t.getD k default)=v) :
  aBl t vn P W gw gs gl gf (.int .i64 ((k:Int)+1)) (w2.setCells gf (k*4) us):=by
 subst hlr;refine ⟨k+1,_,U,Y,?_,(iD hg hk hl hll).2,oW hI (oE hI _)⟩;rw [<- tY hk,hf];exact h.setFix hP hk hv
theorem rN {t:List GN}{vn:Value}{P:Nat->Prop}{W w2:World}{gw gs gl gf k:Nat}{ls:List Int}{v:GV}{us:List Value}(hg:bD t t.length)(hk:k<t.length)(hll:ls.length=t.length)(hl:ls.take k=(aM t).take k)(hI:∀ x ∈ ls,I64 x){lr:Int}(hlr:lr=gO ls (t.getD k default))
  (h:WN t vn P W gw gs gl gf (ls.set k lr) (oG t k) w2)(hP:∀ b,P b->b<W.heap.size)(hv:RV w2 (fun b=>(P b∨W.heap.size<=b)∧b ≠ gl∧b ≠ gf) v us)(hf:dS (aM t) (eC t k) (t.getD k default)=v) :
  aBl t vn P W gw gs gl gf (.int .i64 ((k:Int)+1)) ((w2.setCells gf (k*4) us)).drew:=by
 subst hlr;refine ⟨k+1,_,U,Y,?_,(iD hg hk hl hll).2,oW hI (oE hI _)⟩;rw [<- tY hk,hf];exact (h.setFix hP hk hv).ext_ (Ext.refl _).drew'
theorem yR {t:List GN}{vn:Value}{P:Nat->Prop}{W w2:World}{gw gs gl gf k:Nat}{ls:List Int}(hg:bD t t.length)(hk:k<t.length)(hll:ls.length=t.length)(hl:ls.take k=(aM t).take k)(hI:∀ x ∈ ls,I64 x){lr:Int}(hlr:lr=gO ls (t.getD k default))
  (h:WN t vn P W gw gs gl gf (ls.set k lr) (oG t k) w2)(h0:0<lr):aBl t vn P W gw gs gl gf (.int .i64 ((k:Int)+1)) w2:=by
 subst hlr;refine ⟨k+1,_,U,Y,?_,(iD hg hk hl hll).2,oW hI (oE hI _)⟩;rw [<- aEn hk]
 ·exact h
 ·unfold dS
  rw [gI U,if_pos (by rw [<- (iD hg hk hl hll).1];exact h0)]
theorem xY (t:List GN)(P:Nat->Prop)(vn:Value)(w:World)(hP:∀ b,P b->b<w.heap.size)(ht:Nds w P vn t)(hg:bD t t.length):Calls Tryz.prog 44 #[.agg #[vn]] w (aQm t vn P w):=by
 have HP:=aYl hP;have HT:=aYl ht;have HG:=aYl hg;have hbig:t.length<=4096:=hg.2.1;obtain ⟨An,cn,en,hn1,hn2⟩:=ht.form;subst en;clear ht hP hg;obtain ⟨i3,hi3,hz0,hz1,hz2⟩:=info_parts Tryz.info3;obtain ⟨i85,hi85,hy0,hy1,hy2⟩:=info_parts Tryz.info85
 have hmki:∀ W:World,(Instr.makeSlice 22 (.int .i64 (t.length:Int)) (.int .i64 (t.length:Int))).run Tryz.prog W=.ok (.slice (some ⟨W.heap.size,0,none⟩) t.length t.length) (W.alloc (.cells (madeCells #[.int .i64 0] t.length) 3)):=by
  intro W;have h:=run_make (P:=Tryz.prog) W 22 3 i3 _ Tryz.underlying22 hi3 hz0 .i64 .i64 (t.length:Int) (t.length:Int) U (Int.le_refl _) cu U;rw [hz1,Nat.mul_one] at h;rw [h]
  rfl
 have HMK:=aYl (show ∀ (m:Nat) (W:World),m<=100000->(Instr.makeSlice 83 (↑(m:Int)) (↑(m:Int))).run Tryz.prog W=.ok (.slice (some ⟨W.heap.size,0,none⟩) m m) (W.alloc (.cells (madeCells #[.int .i64 0,.int .i64 0,.string ByteArray.empty,.slice none 0 0] (m*4)) 85)) by
  intro m W hm;have h:=run_make (P:=Tryz.prog) W 83 85 i85 _ Tryz.underlying83 hi85 hy0 .i64 .i64 (m:Int) (m:Int) U (Int.le_refl _) (by rw [hy2];omega) U;rw [hy1] at h;rw [h]
  rfl)
 have hmkv:=fun W=>HMK.out t.length W U
 clear hi3 hz0 hz1 hz2 i3 hi85 hy0 hy1 hy2 i85;obtain ⟨mi,hmi⟩:∃ mi,mi=madeCells #[.int .i64 0] t.length:=⟨_,rfl⟩;rw [<- hmi] at hmki;have HMI:=aYl hmi;obtain ⟨mv,hmv⟩:∃ mv,mv=madeCells #[.int .i64 0,.int .i64 0,.string ByteArray.empty,.slice none 0 0] (t.length*4):=⟨_,rfl⟩;rw [<- hmv] at hmkv;have HMV:=aYl hmv;clear hmi hmv;go_enter Tryz.func44,Tryz.ntmps44;go_upto_region 1 with fail;have HB0:=aYl (Blk.new w 25 #[.slice An t.length cn]);have HE0:=aYl ((Ext.refl w).alloc' (.cells #[.slice An t.length cn] 25));have hW0s:(w.alloc (.cells #[.slice An t.length cn] 25)).heap.size=w.heap.size+1:=by simp
 have HWS:=aYl hW0s;clear hW0s;generalize w.alloc (.cells #[.slice An t.length cn] 25)=W at *;have b0:=HB0.out.cell' (u:=.slice An t.length cn) 0 rfl
 have HNS:=aYl (show ∀ W',Ext w W'->Calls Tryz.prog 87 #[.agg #[.slice An t.length cn]] W' (aFo t (.slice An t.length cn) (fun _=>False) W') from fun W' h =>
  pG t P _ _ W' (HT.out.ext h) (fun b hb hx=>hx) (fun b hb=>hb.elim) U)
 go_cut [3] (fun s wx=>aJh t (.slice An t.length cn) P W s wx)
 case first =>
  go_region_held3 (fun w'=>w'.cell? ⟨w.heap.size,0,none⟩=some (.slice An t.length cn))
   (first
    | go_keep
    | exact aA hxn ‹_›
    | exact aA (hxn.alloc' _) ‹_›)
   (first
    | (go_at_call 87;refine (HNS.out _ (by first | exact HE0.out.drew' | exact (HE0.out.alloc' _).drew' | exact ((HE0.out.alloc' _).alloc' _).drew')).mono ?_;rintro e wn ⟨g,rfl,hgX,hgs,hxn,l1,l2,l3,l4⟩))
  all_goals (go_wp2_with fail)
  all_goals (go_meet)
  all_goals
   have hws:=HWS.out;have hsz:=hxn.size;obtain ⟨kn,lk,mk,hA⟩:=id hgs;have a1:=hA.box.lt;have hMI:=HMI.out;have hMV:=HMV.out;have hTT:=HT.out.ext HE0.out;clear hA HNS HT HP hmki hmkv b0 HMK;simp at hsz l1 l2 l3 l4
  all_goals first
   | exact iE (gl:=W.heap.size) (gf:=W.heap.size+1) (gw:=wn.heap.size) hMI hMV hTT hgs ((Ext.refl wn).alloc' _) ((((((Ext.refl W).alloc' _).alloc' _).drew').trans' hxn).alloc' _) (Blk.new' wn 149 _ (g:=wn.heap.size) Y) ((((Blk.new' W 3 mi (g:=W.heap.size) Y).alloc _).drew.ext hxn).alloc _) (((Blk.new' (W.alloc _) 85 mv (g:=W.heap.size+1) Y).drew.ext hxn).alloc _) U U U U U U U U U
   | exact iE (gl:=W.heap.size+1) (gf:=W.heap.size) (gw:=wn.heap.size) hMI hMV hTT hgs ((Ext.refl wn).alloc' _) ((((((Ext.refl W).alloc' _).alloc' _).drew').trans' hxn).alloc' _) (Blk.new' wn 149 _ (g:=wn.heap.size) Y) (((Blk.new' (W.alloc _) 3 mi (g:=W.heap.size+1) Y).drew.ext hxn).alloc _) ((((Blk.new' W 85 mv (g:=W.heap.size) Y).alloc _).drew.ext hxn).alloc _) U U U U U U U U U
   | exact iE (gl:=W.heap.size) (gf:=wn.heap.size) (gw:=wn.heap.size+1) hMI hMV hTT hgs (((Ext.refl wn).alloc' _).alloc' _) ((((((Ext.refl W).alloc' _).drew').trans' hxn).alloc' _).alloc' _) (Blk.new' (wn.alloc _) 149 _ (g:=wn.heap.size+1) Y) ((((Blk.new' W 3 mi (g:=W.heap.size) Y).drew.ext hxn).alloc _).alloc _) ((Blk.new' wn 85 mv (g:=wn.heap.size) Y).alloc _) U U U U U U U U U
   | exact iE (gl:=wn.heap.size) (gf:=W.heap.size) (gw:=wn.heap.size+1) hMI hMV hTT hgs (((Ext.refl wn).alloc' _).alloc' _) ((((((Ext.refl W).alloc' _).drew').trans' hxn).alloc' _).alloc' _) (Blk.new' (wn.alloc _) 149 _ (g:=wn.heap.size+1) Y) ((Blk.new' wn 3 mi (g:=wn.heap.size) Y).alloc _) ((((Blk.new' W 85 mv (g:=W.heap.size) Y).drew.ext hxn).alloc _).alloc _) U U U U U U U U U
   | exact iE (gl:=wn.heap.size) (gf:=wn.heap.size+1) (gw:=wn.heap.size+1+1) hMI hMV hTT hgs ((((Ext.refl wn).alloc' _).alloc' _).alloc' _) ((((((Ext.refl W).drew').trans' hxn).alloc' _).alloc' _).alloc' _) (Blk.new' ((wn.alloc _).alloc _) 149 _ (g:=wn.heap.size+1+1) Y) (((Blk.new' wn 3 mi (g:=wn.heap.size) Y).alloc _).alloc _) ((Blk.new' (wn.alloc _) 85 mv (g:=wn.heap.size+1) Y).alloc _) U U U U U U U U U
   | exact iE (gl:=wn.heap.size+1) (gf:=wn.heap.size) (gw:=wn.heap.size+1+1) hMI hMV hTT hgs ((((Ext.refl wn).alloc' _).alloc' _).alloc' _) ((((((Ext.refl W).drew').trans' hxn).alloc' _).alloc' _).alloc' _) (Blk.new' ((wn.alloc _).alloc _) 149 _ (g:=wn.heap.size+1+1) Y) ((Blk.new' (wn.alloc _) 3 mi (g:=wn.heap.size+1) Y).alloc _) (((Blk.new' wn 85 mv (g:=wn.heap.size) Y).alloc _).alloc _) U U U U U U U U U
 case rest =>
  obtain ⟨gw,gs,gl,gf,rfl,hA⟩:=hcut;have HA:=aYl hA;have b1:=(HB0.out.ext hA.ext).cell' (u:=.slice An t.length cn) 0 rfl;have HP1:=aYl (show ∀ b,P b->b<W.heap.size from fun b hb=>Nat.lt_of_lt_of_le (HP.out b hb) HE0.out.size);clear hA hmki hmkv b0 HNS;go_wp2_with fail;go_loopw [24] (fun i wr=>aBl t (.slice An t.length cn) P W gw gs gl gf i wr) (fun i _=>t.length - (intOf i).toNat)
  case atStart=>exact ⟨0,_,Nat.zero_le _,rfl,HA.out,rfl,cq⟩
  case round =>
   obtain ⟨k,ls,hk,rfl,hA,hL,hI⟩:=hrel;have HA1:=aYl hA;have HL:=aYl hL;have HI:=aYl hI
   by_cases hlt:k<t.length
   ·have hkk:(k:Int)<(t.length:Int):=by omega
    have b2:wr.cell? ⟨w.heap.size,0,none⟩=some (.slice An t.length cn):=(HB0.out.ext hA.ext).cell' (u:=.slice An t.length cn) 0 rfl;obtain ⟨b,off,a,rfl,hPb,hx,hn⟩:=hA.nodes.get hlt;have hcheck:=HG.out.at_ hlt;have hlenok:=kY HG.out k hlt;have hfew:=fE HG.out hlt;have HNL:=aYl (iD HG.out hlt hL hA.llen);obtain ⟨x,hxd⟩:∃ x,x=t.getD k default:=⟨_,rfl⟩;have HXD:=aYl hxd;have HFS:=aYl (show dS (aM t) (eC t k) (t.getD k default)=dS (aM t) (eC t k) x by rw [hxd]);rw [<- hxd] at hx hn hfew;have HLK:=aYl hlenok;have hok:dJ k x:=hxd ▸ hcheck.node;have HOK:=aYl hok;have HN:=aYl hn;have HX:=aYl hx;have HPB:=aYl hPb;have hll:=hA.llen;have HNO:=aYl (show dJ ls.length x from ⟨hok.kind,hok.unused,fun z hz=>by have:=hok.kids z hz;omega,hok.choice,hok.seq,hok.bind,hok.inc,hok.valid,hok.numbers⟩)
    have HPL:=aYl (show ∀ W,Blk W gl 3 (iH ls)->bU W b (off+k*12) x a->NAt W P x a->Calls Tryz.prog 96 #[.pointer (some ⟨b,off+k*12,none⟩),.slice (some ⟨gl,0,none⟩) t.length t.length] W fun e w'=>e=.returned (.int .i64 (gO ls x))∧W=w' from fun W h1 h2 h3=>by
     have h4:=aU.of_blk h1 hI U;rw [hll] at h4;exact kS ls x a b (off+k*12) P _ _ W h2 h3 h4 HNO.out)
    have hkd:=hok.kind;have k1:=hA.box.cell' (u:=.slice (some ⟨gl,0,none⟩) t.length t.length) 1 rfl;have g1:=hA.lens.cell' k (fS (l:=ls) U);have f1:=hA.lens.frozen k;have m1:¬ gw=gl:=hA.n1;have HLR:=aYl (show gO ls x=gO ls (t.getD k default) by rw [hxd]);clear hA hL hI hPb hx hn hcheck hlenok hxd hok hll b1;generalize ls.getD k 0=z0 at *;obtain ⟨lr,hlr⟩:∃ lr,lr=gO ls x:=⟨_,rfl⟩;rw [<- hlr] at HPL HLR;clear hlr;go_upto_region 6 with fail
    go_region_held3 (fun w'=>w'.cell? ⟨gw,1,none⟩=some (.slice (some ⟨gl,0,none⟩) t.length t.length))
     (first
      | exact fM (w:=wr) m1 k1
      | exact k1
      | go_keep)
     (first
      | (go_at_call 96;refine (HPL.out _ (HA1.out.lens.ext (Ext.refl _).drew') (HN.out.ext (Ext.refl _).drew') (HX.out.ext (Ext.refl _).drew')).mono ?_;rintro e w' ⟨rfl,rfl⟩))
    go_upto_region 7 with fail;have HA2:=aYl ((HA1.out.setLen HP1.out k lr).ext_ (Ext.refl _).drew');have hkeep:aB P wr (wr.setCell ⟨gl,k,none⟩ (↑lr)).drew:=aB.set (fun _ _ _=>rfl) _ (fun h=>by have h1:=HP1.out _ h;have h2:=HA1.out.bl;simp at h1;omega);have HX2:=aYl (HX.out.carry hkeep (fun _ _ h=>h));have HN2:=aYl (HN.out.keep HPB.out hkeep);clear hkeep k1 g1 f1 m1 HPL b2;generalize (wr.setCell ⟨gl,k,none⟩ (↑lr)).drew=W1 at *;have hll:=HA1.out.llen;have k1:=HA2.out.box.cell' (u:=.slice (some ⟨gl,0,none⟩) t.length t.length) 1 rfl;have k2:=HA2.out.box.cell' (u:=.slice (some ⟨gf,0,none⟩) t.length t.length) 2 rfl;have g1:W1.cell? ⟨gl,k,none⟩=some (↑lr):=HA2.out.lens.cell' k (by rw [fS ab];simp [List.getD,hll,hlt]);have HLL:=aYl hll;clear hll
    by_cases h0:0<lr
    ·have t0:decide (0<lr)=true:=aYo h0
     have HN0:=aYl (yR HG.out hlt HLL.out HL.out HI.out HLR.out HA2.out h0);go_wp2_with fail;go_roundw
     case rel=>exact HN0.out
     case measure=>simp [intOf];omega
    ·have t0:decide (0<lr)=false:=aYp h0
     have hz:(aM t).getD k 0=0:=by
      have h1:=HNL.out.1;have h2:=HLK.out.bd.1;rw [<- HLR.out] at h1;omega
     have HZL:=aYl hz;clear hz h0;have c0:=HN2.out.c0;have c7:=HN2.out.c7;obtain ⟨⟨y0,q0⟩,⟨y1,q1⟩,⟨y2,q2⟩,⟨y3,q3⟩,f0,f1,f2,f3⟩:=HA2.out.place hlt
     have HFX:=aYl (show dS (aM t) (eC t k) x=if x.kind=0 then x.value else if x.kind=3 then bW x.name (x.kids.map (fun z=>(eC t k).getD z.toNat default)) else if x.kind=4 then (eC t k).getD (x.kids.getD 1 0).toNat default else default by
      unfold dS;rw [gI U,if_neg (by rw [HZL.out];omega)])
     have np1:¬ gw=gf:=HA2.out.n2
     by_cases e0:x.kind=0
     ·have te0:(x.kind == 0)=true:=aYn e0
      have c8:=HN2.out.c8;have c9:=HN2.out.c9;have c10:=HN2.out.c10;have c11:=HN2.out.c11;have hbg:¬ b=gf:=fun e=>by have h1:=HP1.out _ HPB.out;have h2:=HA2.out.bf;omega
      have HVV:=aYl (HX2.out.value.carry (Q:=fun b=>(P b∨W.heap.size<=b)∧b ≠ gl∧b ≠ gf) (fun _ _ _=>rfl) (fun b _ h=>⟨.inl h,by have h1:=HP1.out _ h;have h2:=HA2.out.bl;omega,by have h1:=HP1.out _ h;have h2:=HA2.out.bf;omega⟩));have HR:=aYl (rN HG.out hlt HLL.out HL.out HI.out HLR.out HA2.out HP1.out HVV.out.rv (by rw [HFS.out,HFX.out,if_pos e0]));clear e0 c7;generalize x.value=xv at *;go_wp2_with fail
      go_region_held3 (fun w'=>w'.cell? ⟨gw,2,none⟩=some (.slice (some ⟨gf,0,none⟩) t.length t.length)∧w'.cell? ⟨b,off+k*12+8,none⟩=some (.int .i64 xv.kind)∧w'.cell? ⟨b,off+k*12+9,none⟩=some (.int .i64 xv.n)∧w'.cell? ⟨b,off+k*12+10,none⟩=some (.string xv.s)∧w'.cell? ⟨b,off+k*12+11,none⟩=some (.slice a.xA xv.kids.length a.xc))
       (first
        | with_reducible exact ⟨dW np1 k2,dW hbg c8,dW hbg c9,dW hbg c10,dW hbg c11⟩
        | with_reducible exact ⟨fL np1 k2,fL hbg c8,fL hbg c9,fL hbg c10,fL hbg c11⟩
        | go_keep)
       (first
        | fail)
      go_wp2_with fail;go_roundw
      case rel=>exact HR.out
      case measure=>simp [intOf];omega
     have te0:(x.kind == 0)=false:=aYm e0
     by_cases e3:x.kind=3
     ·have te3:(x.kind == 3)=true:=aYn e3
      have hm:x.kids.length<=100000:=by have:=hfew.1;omega
      have hmk3:=fun W=>HMK.out x.kids.length W hm
      have lb:=HN2.out.lt;have lw:=HA2.out.box.lt;obtain ⟨hkl1,hkl2⟩:=HX2.out.kids.le;have HKV:=aYl HX2.out.kids;have HKI:=aYl HOK.out.kids;have HFX3:=aYl (show dS (aM t) (eC t k) (t.getD k default)=bW x.name (x.kids.map (fun z=>(eC t k).getD z.toNat default)) by rw [HFS.out,HFX.out,if_neg e0,if_pos e3]);have hsz:=size_madeCells #[.int .i64 0,.int .i64 0,.string ByteArray.empty,.slice none 0 0] (x.kids.length*4);generalize madeCells #[.int .i64 0,.int .i64 0,.string ByteArray.empty,.slice none 0 0] (x.kids.length*4)=mk at *;have HMS:=aYl hsz;clear hsz e0 e3 HFX q0 q1 q2 q3 f0 f1 f2 f3;generalize a.kA=Ak at *;generalize a.kc=kc at *;go_wp2_with fail;clear k1 g1;have HE3:=aYl ((Ext.refl W1).alloc' (.cells mk 85));have HBK:=aYl (Blk.new W1 85 mk);generalize W1.alloc (.cells mk 85)=W3 at *;have HLF:=aYl (show (x.kids.map (fun z=>(eC t k).getD z.toNat default)).length=x.kids.length by simp);obtain ⟨lf,hlf⟩:∃ lf,lf=x.kids.map (fun z=>(eC t k).getD z.toNat default):=⟨_,rfl⟩;rw [<- hlf] at HLF HFX3;have HLX:=aYl hlf;clear hlf hmk3;go_loopw [80] (fun i wq=>aQ6 lf (fun b=>((P b∨W.heap.size<=b)∧b ≠ gl∧b ≠ gf)∧b ≠ W1.heap.size) W1.heap.size W3 i wq) (fun i _=>x.kids.length - (intOf i).toNat)
      case atStart=>exact ⟨0,mk.toList,Nat.zero_le _,rfl,by simpa using HBK.out,by rw [HLF.out];simpa using HMS.out,by simp [RVs],Fr.refl _ _⟩
      case round =>
       obtain ⟨j,cs,hj,rfl,hB,hcl,hR,hF⟩:=hrel;have HB:=aYl hB;have HCL:=aYl hcl;have HR:=aYl hR;have HF:=aYl hF;have HF1:=aYl ((Fr.of_ext (M:=fun b=>b=W1.heap.size) HE3.out).trans hF);have hlfl:=HLF.out;have hjk:j<=x.kids.length:=by omega
       have HLFL:=aYl hlfl;clear hB hcl hR hF hlfl hj
       by_cases hlj:j<x.kids.length
       ·have hki:¬ (fun b=>b=W1.heap.size) b:=fun e=>by have h1:=HN2.out.lt;omega
        obtain ⟨b3,o3,rfl,hpb3,-,g3⟩:=HKV.out.get hlj;have g3':=aZ HF1.out (fun e=>by have h1:=aQ g3;omega) g3;have hz:=HKI.out _ (aF (d:=0) hlj);have HZE:=aYl (show lf.getD j default=(eC t k).getD (x.kids.getD j 0).toNat default by rw [HLX.out];simp [List.getD,hlj]);generalize x.kids.getD j 0=z at *;have hzt:z.toNat<t.length:=by omega
        obtain ⟨A4,d4,hv4,p0,p1,p2,p3⟩:=HA2.out.getFix hzt;have HZF:=aYl (show lf.getD j default=(oG t k).getD z.toNat default by rw [HZE.out,aAv U U]);have ngf:¬ (fun b=>b=W1.heap.size) gf:=fun e=>by have h1:=aQ p0;omega
        have ngw:¬ (fun b=>b=W1.heap.size) gw:=fun e=>by have h1:=HA2.out.box.lt;omega
        have p0':=aZ HF1.out ngf p0;have p1':=aZ HF1.out ngf p1;have p2':=aZ HF1.out ngf p2;have p3':=aZ HF1.out ngf p3;have r2':=aZ HF1.out ngw k2;have HV4:=aYl (hv4.carry (Q:=fun b=>((P b∨W.heap.size<=b)∧b ≠ gl∧b ≠ gf)∧b ≠ W1.heap.size) (fun b hb _=>HF1.out.block b hb (fun e=>by omega)) (fun b hb h=>⟨h,U⟩));have hzi:z<(t.length:Int):=by omega
        have hcl:=HCL.out;have hll:=HLFL.out;obtain ⟨s0,u0⟩:=HB.out.some_ (i:=j*4) U;obtain ⟨s1,u1⟩:=HB.out.some_ (i:=j*4+1) U;obtain ⟨s2,u2⟩:=HB.out.some_ (i:=j*4+2) U;obtain ⟨s3,u3⟩:=HB.out.some_ (i:=j*4+3) U;have v0:=HB.out.frozen (j*4);have v1:=HB.out.frozen (j*4+1);have v2:=HB.out.frozen (j*4+2);have v3:=HB.out.frozen (j*4+3);generalize (oG t k).getD z.toNat default=yv at *;have hjj:(j:Int)<(x.kids.length:Int):=by omega
        clear hcl hll p0 p1 p2 p3 hv4 g3 hki hpb3 ngf ngw;go_wp2_with fail;go_roundw
        case rel=>exact aLw (us:=cellsOf yv A4 d4) (fun h=>h.2 rfl) (by rw [HLFL.out];exact hlj) HB.out HCL.out HR.out HF.out (by rw [HZF.out];exact HV4.out.rv)
        case measure=>simp [intOf];omega
       ·obtain rfl:j=x.kids.length:=by omega
        have hcl:=HCL.out;have hll:=HLFL.out
        have HVK:=aYl (show bV wr (fun b=>(P b∨W.heap.size<=b)∧b ≠ gl∧b ≠ gf) (.slice (some ⟨W1.heap.size,0,none⟩) lf.length x.kids.length) lf from
         oP (P:=fun b=>((P b∨W.heap.size<=b)∧b ≠ gl∧b ≠ gf)∧b ≠ W1.heap.size) HB.out (by have h:=HR.out;rw [List.take_of_length_le U,List.take_of_length_le U] at h;exact h) hll U ⟨.inr (by have:=HA2.out.ext.size;omega),by have:=HA2.out.lens.lt;omega,by obtain ⟨cs',hb',_⟩:=HA2.out.fix;have:=hb'.lt;omega⟩ (fun b h=>h.1))
        have HNQ:=aYl (show bU wr b (off+k*12) x a from fun i u hu=>aZ HF1.out (fun e=>by have h1:=HN2.out.lt;omega) (HN2.out i u hu))
        have HMD:=aYl (show ∀ W',Ext wr W'->Calls Tryz.prog 97 #[.pointer (some ⟨b,off+k*12,none⟩),.slice (some ⟨W1.heap.size,0,none⟩) x.kids.length x.kids.length] W' fun e w'=>e=.returned (eF (bW x.name lf) (some ⟨W1.heap.size,0,none⟩) x.kids.length)∧Ext W' w' from fun W' h=>by
         have h1:=jT x a b (off+k*12) lf (some ⟨W1.heap.size,0,none⟩) x.kids.length W' (HNQ.out.ext h);rw [hll] at h1;exact h1)
        have HVM:=aYl (VAt.made HX2.out.name HVK.out);have r2':=aZ HF1.out (fun e=>by have h1:=HA2.out.box.lt;omega) k2;have HAQ:=aYl (HA2.out.frNew HF1.out);obtain ⟨⟨y0,q0⟩,⟨y1,q1⟩,⟨y2,q2⟩,⟨y3,q3⟩,f0,f1,f2,f3⟩:=HAQ.out.place hlt;clear hcl hll k2;generalize bW x.name lf=ym at *;go_wp2_with fail;have lgf:=aQ q0
        go_region_held3 (fun w'=>w'.cell? ⟨gw,2,none⟩=some (.slice (some ⟨gf,0,none⟩) t.length t.length))
         (first
          | with_reducible exact dW np1 (aA hx6 r2')
          | with_reducible exact fL np1 (aA hx6 r2')
          | exact aA hx6 r2'
          | exact r2'
          | go_keep)
         (first
          | (go_at_call 97;refine (HMD.out _ (Ext.refl _).drew').mono ?_;rintro e w5 ⟨rfl,hx5⟩;have hx6:Ext wr w5:=(Ext.refl wr).drew'.trans' hx5;have z0:=aA hx6 q0;have z1:=aA hx6 q1;have z2:=aA hx6 q2;have z3:=aA hx6 q3;have zf0:=(hx6.frozen (p:=⟨gf,k*4,none⟩) lgf).trans f0;have zf1:=(hx6.frozen (p:=⟨gf,k*4+1,none⟩) lgf).trans f1;have zf2:=(hx6.frozen (p:=⟨gf,k*4+2,none⟩) lgf).trans f2;have zf3:=(hx6.frozen (p:=⟨gf,k*4+3,none⟩) lgf).trans f3))
        have HX6:=aYl hx6;clear hx5 hx6 z0 z1 z2 z3 zf0 zf1 zf2 zf3 q0 q1 q2 q3 f0 f1 f2 f3 r2';go_wp2_with fail;go_roundw
        case rel=>exact yS (us:=cellsOf ym (some ⟨W1.heap.size,0,none⟩) x.kids.length) HG.out hlt HLL.out HL.out HI.out HLR.out (HAQ.out.ext_ HX6.out) HP1.out (HVM.out.ext HX6.out).rv HFX3.out
        case measure=>simp [intOf];omega
     have te3:(x.kind == 3)=false:=aYm e3
     have e4:x.kind=4:=by
      have l1:=HLK.out.range;have l2:=HLK.out.choice;rw [<- HXD.out] at l1 l2;have hzz:=HZL.out;have h1:¬ x.kind=1:=fun e=>by have:=l1 e;omega
      have h2:¬ x.kind=2:=fun e=>by have:=(l2 e).1;omega
      omega
     have te4:(x.kind == 4)=true:=aYn e4;have HFX4:=aYl (show dS (aM t) (eC t k) (t.getD k default)=(eC t k).getD (x.kids.getD 1 0).toNat default by rw [HFS.out,HFX.out,if_neg e0,if_neg e3,if_pos e4]);have hb4:=HOK.out.bind e4;have hv4:=hfew.2.2 e4;have h1l:1<x.kids.length:=by omega
     obtain ⟨hkl1,hkl2⟩:=HX2.out.kids.le;obtain ⟨b3,o3,e3b,hpb3,-,g3⟩:=HX2.out.kids.get h1l;rw [e3b] at c7;have hz:=HOK.out.kids _ (aF (d:=0) h1l);generalize x.kids.getD 1 0=z at *;have hzt:z.toNat<t.length:=by omega
     obtain ⟨A4,d4,hvv4,p0,p1,p2,p3⟩:=HA2.out.getFix hzt;have HZF:=aYl (show dS (aM t) (eC t k) (t.getD k default)=(oG t k).getD z.toNat default by rw [HFX4.out,aAv U U]);have HR:=aYl (rN HG.out hlt HLL.out HL.out HI.out HLR.out HA2.out HP1.out hvv4.rv HZF.out);have HZK:=aYl (show ¬ z.toNat=k by omega);generalize (oG t k).getD z.toNat default=yv at *;have hzi:z<(t.length:Int):=by omega
     have h1i:(1:Int)<(x.kids.length:Int):=U
     have hbg:¬ b=gf:=fun e=>by have h1:=HP1.out _ HPB.out;have h2:=HA2.out.bf;omega
     have hbg3:¬ b3=gf:=fun e=>by have h1:=HP1.out _ hpb3;have h2:=HA2.out.bf;omega
     clear hvv4 e0 e3 e4 hb4 hv4 HFX HFX4 e3b;go_wp2_with fail
     go_region_held3 (fun w'=>w'.cell? ⟨gw,2,none⟩=some (.slice (some ⟨gf,0,none⟩) t.length t.length)∧w'.cell? ⟨b,off+k*12+7,none⟩=some (.slice (some ⟨b3,o3,none⟩) x.kids.length a.kc)∧w'.cell? ⟨b3,o3+1,none⟩=some (.int .i64 z) ∧
       w'.cell? ⟨gf,z.toNat*4,none⟩=some (.int .i64 yv.kind)∧w'.cell? ⟨gf,z.toNat*4+1,none⟩=some (.int .i64 yv.n)∧w'.cell? ⟨gf,z.toNat*4+2,none⟩=some (.string yv.s)∧w'.cell? ⟨gf,z.toNat*4+3,none⟩=some (.slice A4 yv.kids.length d4))
      (first
       | with_reducible exact ⟨dW np1 k2,dW hbg c7,dW hbg3 g3,kO HZK.out p0 0 (by decide) rfl,kO HZK.out p1 1 (by decide) rfl,kO HZK.out p2 2 (by decide) rfl,kO HZK.out p3 3 (by decide) rfl⟩
       | go_keep)
      (first
       | fail)
     go_wp2_with fail;go_roundw
     case rel=>exact HR.out
     case measure=>simp [intOf];omega
   ·obtain rfl:k=t.length:=by omega
    clear hA hL hI;go_wp2_with fail;go_ret;exact aGl HE0.out HA1.out HL.out U
structure FA where
 w:Nat
 s:Nat
 l:Nat
 f:Nat
 p:Nat
 b:Nat
 a:Nat
 g:Nat
 X:Nat->Prop
def FA.M (g:FA):Nat->Prop:=fun b=>b=g.a∨b=g.g
def FA.Q (g:FA):Nat->Prop:=fun b=>¬ g.M b∧¬ g.X b
structure aC2 (t:List GN)(path:List Int)(vn vp:Value)(g:FA)(w:World):Prop where
 walk:jY t vn g.w g.s g.l g.f g.Q w
 pbox:w.cell? ⟨g.p,0,none⟩=some vp
 wbox:w.cell? ⟨g.b,0,none⟩=some (.pointer (some ⟨g.w,0,none⟩))
 path:aU w g.Q vp path
 pp:g.Q g.p
 pb:g.Q g.b
 ne:g.a ≠ g.g
 xlt:∀ b,g.X b->b<w.heap.size
def FSt (g:FA)(at_:Int)(good:Bool)(w:World):Prop:=Blk w g.a 3 #[↑at_]∧Blk w g.g 4 #[.bool good]
section
variable {t:List GN}{path:List Int}{vn vp:Value}{g:FA}{w w':World}
theorem aC2.fr (h:aC2 t path vn vp g w)(hf:Fr g.M w w'):aC2 t path vn vp g w':=by
 have hk:aB g.Q w w':=aB.of_fr hf (fun b h=>h.1);exact ⟨h.walk.carry hk (fun _ _ h=>h),aZ hf h.pp.1 h.pbox,aZ hf h.pb.1 h.wbox,h.path.carry hk (fun _ _ h=>h),h.pp,h.pb,h.ne,fun b hb=>Nat.lt_of_lt_of_le (h.xlt b hb) hf.size⟩
theorem aC2.ext (h:aC2 t path vn vp g w)(hx:Ext w w'):aC2 t path vn vp g w':=h.fr (Fr.of_ext hx)
def FA.more (g:FA)(lo hi:Nat):FA:=⟨g.w,g.s,g.l,g.f,g.p,g.b,g.a,g.g,fun b=>g.X b∨(lo<=b∧b<hi)⟩
theorem aC2.more (h:aC2 t path vn vp g w)(hf:Fr g.M w w'):aC2 t path vn vp (g.more w.heap.size w'.heap.size) w':=by
 have hQ:∀ b,b<w.heap.size->g.Q b->(g.more w.heap.size w'.heap.size).Q b:=fun b hb hq=>⟨hq.1,fun hx=>hx.elim hq.2 (fun e=>by omega)⟩
 have hk:aB g.Q w w':=aB.of_fr hf (fun b h=>h.1);exact ⟨h.walk.carry hk hQ,aZ hf h.pp.1 h.pbox,aZ hf h.pb.1 h.wbox,h.path.carry hk hQ,hQ _ (aQ h.pbox) h.pp,hQ _ (aQ h.wbox) h.pb,h.ne,fun b hb=>hb.elim (fun h'=>Nat.lt_of_lt_of_le (h.xlt b h') hf.size) (fun e=>e.2)⟩
theorem FSt.ext {at_:Int}{good:Bool}(h:FSt g at_ good w)(hx:Ext w w'):FSt g at_ good w':=⟨h.1.ext hx,h.2.ext hx⟩
end
def aQv (g:FA)(r:Int × Int × Bool)(w:World)(e:Ending)(w':World):Prop:=e=.returned (.int .i64 r.1)∧Fr g.M w w'∧FSt g r.2.1 r.2.2 w'
theorem aCq (t:List GN)(path:List Int)(vn vp:Value)(g:FA)(i:Nat)(at_:Int)(good:Bool)(w:World)(hE:aC2 t path vn vp g w)(hS:FSt g at_ good w)(hi:i<t.length)(h0:0<=at_)(h1:at_<=path.length)(_:path.length<=1000000)(_:t.length<=100000) :
  Calls Tryz.prog 146 #[↑i,.pointer (some ⟨g.a,0,none⟩),.pointer (some ⟨g.p,0,none⟩),.pointer (some ⟨g.b,0,none⟩),.pointer (some ⟨g.g,0,none⟩)] w (aQv g (cA path (t.getD i default) at_ good) w):=by
 obtain ⟨n,rfl⟩:∃ n:Nat,at_=(n:Int):=⟨at_.toNat,U⟩;have HE:=aYl hE;have HS:=aYl hS;have HCH:=aYl (show cA path (t.getD i default) n good=if (path.length:Int)<=(n:Int)∨path.getD n 0<0∨aP (t.getD i default)<=path.getD n 0 then (0,(n:Int),false) else (path.getD n 0,(n:Int)+1,good) by unfold cA;rw [Int.toNat_natCast]);have ca:=hS.1.cell' (u:=↑n) 0 rfl;have fa:=hS.1.frozen 0;have cg:=hS.2.cell' (u:=.bool good) 0 rfl;have fg:=hS.2.frozen 0;have cp:=hE.pbox;have cb:=hE.wbox;have cw:=hE.walk.box.cell' (u:=.pointer (some ⟨g.s,0,none⟩)) 0 rfl;have cs:=hE.walk.sets;obtain ⟨Ap,dp,ep,hp1,hp2⟩:=hE.path.form;subst ep;obtain ⟨An,dn,en,hn1,hn2⟩:=hE.walk.nodes.form;subst en;have HPA:=aYl hE.path;have HND:=aYl hE.walk.nodes;have HNE:=aYl hE.ne;have hpa:¬ g.p=g.a:=fun e=>hE.pp.1 (.inl e)
 have hpg:¬ g.p=g.g:=fun e=>hE.pp.1 (.inr e)
 clear hE hS h0
 by_cases hlt:n<path.length
 ·obtain ⟨bp,op,rfl,hqp,-,gp⟩:=HPA.out.get hlt
  have hbpa:¬ bp=g.a:=fun e=>hqp.1 (.inl e)
  generalize hc:path.getD n 0=c at *;clear hc;have t1:decide ((path.length:Int)<=(n:Int))=false:=aYp U;have t1':decide (path.length<=n)=false:=aYp U;have hq1:(n:Int)<(path.length:Int):=by omega
  have hq0:(0:Int)<=(n:Int):=U
  by_cases hc0:c<0
  ·have t2:decide (c<0)=true:=aYo hc0
   have HF:=aYl (HCH.out.trans (if_pos (.inr (.inl hc0))));go_enter Tryz.func146,Tryz.ntmps146;go_wp2_with fail;go_quiet (fail);go_wp2_with fail;go_ret;rw [HF.out];exact ⟨rfl,((Fr.refl g.M w).setCell (p:=⟨g.g,0,none⟩) (.inl (.inr rfl)) _).drewN _,(HS.out.1.far (p:=⟨g.g,0,none⟩) HNE.out _).drewN _,(HS.out.2.set_ 0 _).drewN _⟩
  ·have t2:decide (c<0)=false:=aYp hc0
   obtain ⟨bn,on,a,rfl,hqn,hx,hn⟩:=HND.out.get hi;have HN:=aYl hn;have hii:(i:Int)<(t.length:Int):=by omega
   have hi0:(0:Int)<=(i:Int):=U
   have HOP:=aYl (pD (t.getD i default) a bn (on+i*12));generalize t.getD i default=x at *
   by_cases hop:aP x<=c
   ·have HF:=aYl (HCH.out.trans (if_pos (.inr (.inr hop))))
    generalize aP x=ov at *;have t3:decide (ov<=c)=true:=aYo hop;clear hx hn;go_enter Tryz.func146,Tryz.ntmps146;go_wp2_with fail;go_quiet ((go_at_call 147;exact Calls.quiet_of (HOP.out _ (HN.out.ext dj))));go_wp2_with fail;go_ret;rw [HF.out];exact ⟨rfl,((Fr.refl g.M w).setCell (p:=⟨g.g,0,none⟩) (.inl (.inr rfl)) _).drewN _,(HS.out.1.far (p:=⟨g.g,0,none⟩) HNE.out _).drewN _,(HS.out.2.set_ 0 _).drewN _⟩
   ·have HF:=aYl (HCH.out.trans (if_neg (fun h=>h.elim (fun h=>by omega) (fun h=>h.elim hc0 hop))))
    generalize aP x=ov at *;have t3:decide (ov<=c)=false:=aYp hop;clear hx hn;go_enter Tryz.func146,Tryz.ntmps146;go_wp2_with fail;go_quiet ((go_at_call 147;exact Calls.quiet_of (HOP.out _ (HN.out.ext dj))));go_wp2_with fail;go_ret;rw [HF.out];exact ⟨rfl,((Fr.refl g.M w).setCell (p:=⟨g.a,0,none⟩) (.inl (.inl rfl)) _).drewN _,(HS.out.1.set_ 0 _).drewN _,(HS.out.2.far (p:=⟨g.a,0,none⟩) (fun e=>HNE.out e.symm) _).drewN _⟩
 ·have t1:decide ((path.length:Int)<=(n:Int))=true:=aYo U
  have t1':decide (path.length<=n)=true:=aYo U;have HF:=aYl (HCH.out.trans (if_pos (.inl U)));go_enter Tryz.func146,Tryz.ntmps146;go_wp2_with fail;go_quiet (fail);go_wp2_with fail;go_ret;rw [HF.out];exact ⟨rfl,((Fr.refl g.M w).setCell (p:=⟨g.g,0,none⟩) (.inl (.inr rfl)) _).drewN _,(HS.out.1.far (p:=⟨g.g,0,none⟩) HNE.out _).drewN _,(HS.out.2.set_ 0 _).drewN _⟩
def aJb (g:FA)(r:GF)(w:World)(e:Ending)(w':World):Prop:=∃ A c,e=.returned (eF r.val A c)∧VAt w' g.Q r.val A c∧Fr g.M w w'∧FSt g r.at_ r.good w'
def aYf (g:FA):Value:=.func (.func 146) #[] #[.pointer (some ⟨g.a,0,none⟩),.pointer (some ⟨g.p,0,none⟩),.pointer (some ⟨g.b,0,none⟩),.pointer (some ⟨g.g,0,none⟩)]
def zP (t:List GN)(path:List Int)(vn vp:Value)(f:Nat):Prop:=∀ (g:FA)(i:Nat)(at_:Int)(good:Bool)(w:World),i<f->i<t.length->aC2 t path vn vp g w->FSt g at_ good w->0<=at_->at_<=path.length ->
 Calls Tryz.prog 145 #[.pointer (some ⟨g.w,0,none⟩),↑i,.bool true,.func (.func 146) #[] #[.pointer (some ⟨g.a,0,none⟩),.pointer (some ⟨g.p,0,none⟩),.pointer (some ⟨g.b,0,none⟩),.pointer (some ⟨g.g,0,none⟩)]] w (aJb g (iM t path f i at_ good) w)
theorem pQ {g:FA}{w w1:World}{y:GV}{A:Option Addr}{c gr:Nat}{at_:Int}{good:Bool}{cs:List Value}(hgr:w.heap.size<=gr)(hm:∀ b,g.M b->b<w.heap.size)(hF:Fr g.M w w1)(hB:Blk w1 gr 85 cs.toArray)(hcs:cs.length=4)(hv:VAt w1 (fun b=>g.Q b∧b ≠ gr) y A c)(hS:FSt g at_ good w1) :
  (w1.setCells gr 0 (cellsOf y A c)).cell? ⟨gr,0,none⟩=some (↑y.kind)∧(w1.setCells gr 0 (cellsOf y A c)).cell? ⟨gr,1,none⟩=some (↑y.n)∧(w1.setCells gr 0 (cellsOf y A c)).cell? ⟨gr,2,none⟩=some (.string y.s)∧(w1.setCells gr 0 (cellsOf y A c)).cell? ⟨gr,3,none⟩=some (.slice A y.kids.length c) ∧
   VAt (w1.setCells gr 0 (cellsOf y A c)) g.Q y A c∧Fr g.M w (w1.setCells gr 0 (cellsOf y A c))∧FSt g at_ good (w1.setCells gr 0 (cellsOf y A c)):=by
 have hb:=aJ (cellsOf y A c) 0 hB (by simp [cellsOf];omega)
 have e:(cs.take 0 ++ cellsOf y A c ++ cs.drop (0+(cellsOf y A c).length)).toArray=(cellsOf y A c).toArray:=by
  rw [List.take_zero,List.nil_append,Nat.zero_add,List.drop_eq_nil_of_le (by simp [cellsOf];omega),List.append_nil]
 rw [e] at hb;have n1:¬ g.M gr:=fun h=>by have:=hm _ h;omega
 refine ⟨hb.cell' 0 rfl,hb.cell' 1 rfl,hb.cell' 2 rfl,hb.cell' 3 rfl,hv.carry (aB.setCells (fun h=>h.2 rfl) _ 0 (fun _ _ _=>rfl)) (fun b _ h=>h.1),hF.setCells _ 0 (.inr hgr),hS.1.farCells (fun e=>n1 (.inl e.symm)) _ 0,hS.2.farCells (fun e=>n1 (.inr e.symm)) _ 0⟩
theorem aIr {a b:Prop}:¬ (a∨b) ↔ ¬ a∧¬ b:=⟨fun h=>⟨fun ha=>h (.inl ha),fun hb=>h (.inr hb)⟩,fun h hab=>hab.elim h.1 h.2⟩
theorem cP {w:World}{g b off:Nat}{u u0 u1 u2 u3:Value}(hne:¬ b=g)(h:w.cell? ⟨b,off,none⟩=some u):((((w.setCell ⟨g,0,none⟩ u0).setCell ⟨g,1,none⟩ u1).setCell ⟨g,2,none⟩ u2).setCell ⟨g,3,none⟩ u3).cell? ⟨b,off,none⟩=some u:=fL (o:=0) hne h
theorem cE {w:World}{g b off:Nat}{u u0 u1 u2 u3:Value}(hne:¬ b=g)(h:w.cell? ⟨b,off,none⟩=some u):((((w.setCell ⟨g,0,none⟩ u0).setCell ⟨g,1,none⟩ u1).setCell ⟨g,2,none⟩ u2).setCell ⟨g,3,none⟩ u3).drew.cell? ⟨b,off,none⟩=some u:=by rw [fC];exact cP hne h
theorem aCr {path:List Int}{x:GN}{j:Nat}{at_:Int}{good:Bool}(hn:dJ j x)(_:0<=at_)(h1:at_<=path.length):at_<=(cA path x at_ good).2.1∧(cA path x at_ good).2.1<=path.length∧0<=(cA path x at_ good).1∧(x.kind=1->x.lo+(cA path x at_ good).1<=x.hi)∧(x.kind=2->(cA path x at_ good).1<x.kids.length):=by
 unfold cA;have hnum:=cW hn.numbers;have hopt:=fX hn
 split
 ·exact ⟨Int.le_refl _,h1,Int.le_refl _,fun _=>by show x.lo+0<=_;omega,fun h2=>by have:=hn.choice h2;show (0:Int)<_;omega⟩
 ·next h =>
  rw [aIr,aIr] at h;refine ⟨by show at_<=at_+1;omega,by show at_+1<=_;omega,ig,fun hk=>?_,fun hk=>?_⟩
  ·rw [if_pos hk] at hopt;show x.lo+path.getD at_.toNat 0<=_;omega
  ·rw [if_neg U] at hopt;show path.getD at_.toNat 0<_;omega
theorem _root_.Go.World.ownsRow.fr_ {w w':World}{base:Nat}{e:TypeId}{size:Nat}{v:Value}{n:Nat}{xs:List Value}{M:Nat->Prop}(h:w.ownsRow base e size v n xs)(hf:Fr M w w')(hm:∀ b,M b->b<base):w'.ownsRow base e size v n xs:=by
 refine ⟨h.1,?_⟩;rcases h.2 with h | ⟨g,cap,cur,h1,h2,h3,h4⟩
 ·exact .inl h
 ·exact .inr ⟨g,cap,cur,h1,h2,(Blk.fr (t:=e) h3 hf (fun hb=>by have:=hm _ hb;omega)),h4⟩
def aFy (r:Int->Int->Bool->GF)(path:List Int)(name:ByteArray)(kids:List Int)(g:FA)(w W:World)(R0:GF)(v i:Value)(wr:World):Prop :=
 ∃ (k:Nat) (at_:Int) (good:Bool) (done:List GV) (xs:List Value),k<=kids.length∧i=↑k∧wr.ownsRow W.heap.size 85 4 v k xs∧RVs wr (Off (fun b=>g.Q b∧b<w.heap.size) W.heap.size wr v) done xs∧Fr g.M w wr∧W.heap.size<=wr.heap.size∧FSt g at_ good wr∧0<=at_∧at_<=path.length∧done.length=k ∧
  Blk wr w.heap.size 85 #[.int .i64 0,.int .i64 0,.string ⟨#[]⟩,.slice none 0 0]∧R0=eY r name at_ good done (kids.drop k)
theorem aHf {g:FA}{w W wr wu:World}{v:Value}{done:List GV}{xs:List Value}(hm:∀ b,g.M b->b<w.heap.size)(hW:w.heap.size<W.heap.size)(hr:RVs wr (Off (fun b=>g.Q b∧b<w.heap.size) W.heap.size wr v) done xs)(hf:Fr g.M wr wu):RVs wu (Off (fun b=>g.Q b∧b<w.heap.size) W.heap.size wu v) done xs :=
 RVs.carry (aB.of_fr hf (fun b hb hM=>by have:=hm b hM;rcases hb.1 with h | h;exact h.1.1 hM;omega)) (fun b hb h=>⟨h.1,Nat.lt_of_lt_of_le hb hf.size,h.2.2⟩) hr
theorem aEj {r:Int->Int->Bool->GF}{path:List Int}{name:ByteArray}{kids:List Int}{g:FA}{w W wu w5 w6:World}{R0:GF}{v v6:Value}{k:Nat}{at_ at2:Int}{good gd2:Bool}{done:List GV}{xs:List Value}{y:GV}{A2:Option Addr}{d2:Nat}(hm:∀ b,g.M b->b<w.heap.size)(hW:w.heap.size<W.heap.size)(_:∀ b,g.X b->b<w.heap.size)
  (hk:k<kids.length)(ho:wu.ownsRow W.heap.size 85 4 v k xs)(hr:RVs wu (Off (fun b=>g.Q b∧b<w.heap.size) W.heap.size wu v) done xs)(hF:Fr g.M w wu)(hsz:W.heap.size<=wu.heap.size)(hS:FSt g at2 gd2 wu)(h0:0<=at2)(h1:at2<=path.length)(hd:done.length=k)(hB:Blk wu w.heap.size 85 #[.int .i64 0,.int .i64 0,.string ⟨#[]⟩,.slice none 0 0])
  (hR:R0=eY r name at_ good done (kids.drop k))(hy:r (kids.getD k 0) at_ good=⟨y,at2,gd2⟩)(h5:Ext wu w5)(hv:VAt w5 (fun b=>((g.Q b∧b<w.heap.size)∨W.heap.size<=b)∧some b ≠ v.ownBlock) y A2 d2)
  (ho6:w6.ownsRow W.heap.size 85 4 v6 (k+1) (xs ++ [.int .i64 y.kind,.int .i64 y.n,.string y.s,.slice A2 y.kids.length d2]))(hf6:Fr (fun k=>some k=v.ownBlock) (w5.alloc (.cells #[↑y.kind,↑y.n,.string y.s,.slice A2 y.kids.length d2] 85)) w6)
  (hb6:v6.ownBlock=v.ownBlock∨v6.ownBlock=some (w5.alloc (.cells #[↑y.kind,↑y.n,.string y.s,.slice A2 y.kids.length d2] 85)).heap.size):aFy r path name kids g w W R0 v6 (.int .i64 ((k:Int)+1)) w6:=by
 have hrow:∀ b,some b=v.ownBlock->W.heap.size<=b:=fun b hb=>ho.block_ge hb.symm
 have hx5:Ext wu (w5.alloc (.cells #[↑y.kind,↑y.n,.string y.s,.slice A2 y.kids.length d2] 85)):=h5.alloc' _;have hF6:Fr g.M w w6:=(hF.trans (Fr.of_ext hx5)).trans_new (hf6.mono (fun b hb=>.inr (by have:=hrow b hb;omega)));refine ⟨k+1,at2,gd2,done ++ [y],_,U,Y,ho6,wJ ho hr h5 hv hf6 hb6,hF6,?_,?_,h0,h1,by simp [hd],?_,?_⟩
 ·exact Nat.le_trans (Nat.le_trans hsz hx5.size) hf6.size
 ·exact ⟨(hS.1.ext hx5).fr hf6 (fun e=>by have h1:=hrow _ e;have h2:=hm _ (.inl rfl);omega),(hS.2.ext hx5).fr hf6 (fun e=>by have h1:=hrow _ e;have h2:=hm _ (.inr rfl);omega)⟩
 ·exact (hB.ext hx5).fr hf6 (fun e=>by have h1:=hrow _ e;omega)
 ·rw [hR,aG 0 hk]
  simp only [eY,hy]
theorem aHg (t:List GN)(path:List Int)(vn vp:Value)(f:Nat)(hg:bD t t.length)(hpl:path.length<=1000000)(ih:zP t path vn vp f):zP t path vn vp (f+1):=by
 intro g i at_ good w hif hit hE hS h0 h1;have HIH:=aYl ih;have htl:t.length<=4096:=hg.2.1;have HMX:=aYl (show ∀ b,g.M b->b<w.heap.size from fun b hb=>hb.elim (fun e=>e ▸ hS.1.lt) (fun e=>e ▸ hS.2.lt));have HFR:=aYl (show iM t path (f+1) i at_ good=nA (iM t path f) t path i (t.getD i default) at_ good by simp only [iM,Int.toNat_natCast]);have hcheck:=hg.at_ hit;have hfew:=fE hg hit;have HFO:=aYl (fun (z:Nat) (k:Int) (gd:Bool) (hz:z<i) (a0:0<=k) (a1:k<=path.length)=>aEk hg path hpl f z k gd U U a0 a1);obtain ⟨An,dn,en,hn1,hn2⟩:=hE.walk.nodes.form;subst en;obtain ⟨bn,on,a,rfl,hqn,hxx,hnn⟩:=hE.walk.nodes.get hit;obtain ⟨x,hxd⟩:∃ x,x=t.getD i default:=⟨_,rfl⟩;have HXD:=aYl hxd;rw [<- hxd] at hxx hnn hfew HFR;have HOK:=aYl (show dJ i x from hxd ▸ hcheck.node);have HCV:=aYl (show x.kind=4->((aD t).getD (x.kids.getD 0 0).toNat default).many=false∧((aD t).getD (x.kids.getD 0 0).toNat default).vals=x.values from fun h4=>by rw [hxd] at h4 ⊢;exact ⟨hcheck.many h4,hcheck.vals h4⟩);have HQN:=aYl hqn;have HEW:=aYl hE;have HSW:=aYl hS;have hii:(i:Int)<(t.length:Int):=by omega
 have hi0:(0:Int)<=(i:Int):=U
 have HNW:=aYl hnn;have HXW:=aYl hxx;have HX0:=aYl ((Ext.refl w).alloc' (.cells #[.int .i64 0,.int .i64 0,.string ⟨#[]⟩,.slice none 0 0] 85));have HB0:=aYl (Blk.new w 85 #[.int .i64 0,.int .i64 0,.string ⟨#[]⟩,.slice none 0 0]);have HS0:=aYl (show w.heap.size<(w.alloc (.cells #[.int .i64 0,.int .i64 0,.string ⟨#[]⟩,.slice none 0 0] 85)).heap.size by simp);clear hcheck hqn hE hS hnn hxx hxd ih hg;go_enter Tryz.func145,Tryz.ntmps145;go_upto_region 1 with fail;generalize w.alloc (.cells #[.int .i64 0,.int .i64 0,.string ⟨#[]⟩,.slice none 0 0] 85)=W at *;have HE:=aYl (HEW.out.ext HX0.out);have HS:=aYl (HSW.out.ext HX0.out);have HN:=aYl (HNW.out.ext HX0.out);have hll:(aM t).length=t.length:=by unfold aM;rw [eH];simp
 have w0:=HE.out.walk.box.cell' (u:=.pointer (some ⟨g.s,0,none⟩)) 0 rfl;have w1:=HE.out.walk.box.cell' (u:=.slice (some ⟨g.l,0,none⟩) t.length t.length) 1 rfl;have w2:=HE.out.walk.box.cell' (u:=.slice (some ⟨g.f,0,none⟩) t.length t.length) 2 rfl;have ws:=HE.out.walk.sets;have wl:=HE.out.walk.lens.cell' i (fS (l:=aM t) U);have c0:=HN.out.c0;have c2:=HN.out.c2;have c7:=HN.out.c7;have HLR:=aYl (show ∃ lr,lr=(aM t).getD i 0 from ⟨_,rfl⟩);obtain ⟨lr,hlr⟩:=HLR.out;have HLE:=aYl hlr;rw [<- hlr] at wl;obtain ⟨r0,r1,r2,r3⟩:=aS HB0.out;have f0:=HB0.out.frozen 0;have f1:=HB0.out.frozen 1;have f2:=HB0.out.frozen 2;have f3:=HB0.out.frozen 3;clear hlr hll HLR
 by_cases hz:lr=0
 ·subst hz
  have hfl:(rS t).length=t.length:=by rw [<- tZ,aAu (Nat.le_refl _)]
  have HFF:=aYl (show iM t path (f+1) i at_ good=⟨(rS t).getD i default,at_,good⟩ by rw [HFR.out];unfold nA;rw [Int.toNat_natCast,if_pos HLE.out.symm]);obtain ⟨bf,of,Af,df,ef,-,hvf,q0,q1,q2,q3⟩:=HEW.out.walk.fixed.get (i:=i) U;injection ef with ef;injection ef with ef1 ef2;subst ef1 ef2;rw [Nat.zero_add] at q0 q1 q2 q3;have HVF:=aYl (hvf.carry (Q:=fun b=>g.Q b∧b ≠ w.heap.size) (aB.of_ext HX0.out) (fun b hb h=>⟨h,U⟩));have q0':=aA HX0.out q0;have q1':=aA HX0.out q1;have q2':=aA HX0.out q2;have q3':=aA HX0.out q3;clear hvf hfl q0 q1 q2 q3;generalize (rS t).getD i default=y at *;go_wp2_with fail;obtain ⟨z0,z1,z2,z3,hvz,hFz,hSz⟩:=pQ (gr:=w.heap.size) (cs:=[.int .i64 0,.int .i64 0,.string ⟨#[]⟩,.slice none 0 0]) (Nat.le_refl _) HMX.out (Fr.of_ext HX0.out) HB0.out rfl HVF.out HS.out;have hgen:((((W.setCell ⟨w.heap.size,0,none⟩ (↑y.kind)).setCell ⟨w.heap.size,1,none⟩ (↑y.n)).setCell ⟨w.heap.size,2,none⟩ (.string y.s)).setCell ⟨w.heap.size,3,none⟩ (.slice Af y.kids.length df))=W.setCells w.heap.size 0 (cellsOf y Af df):=rfl;rw [hgen];generalize W.setCells w.heap.size 0 (cellsOf y Af df)=WF at *;exact bodyPost_ret (v:=eF y Af df) (by simp [results,Tryz.results145,go_sem,z0,z1,z2,z3]) rfl (by rw [HFF.out];exact ⟨Af,df,rfl,hvz,hFz,hSz⟩)
 have tz:(lr == 0)=false:=aYm hz
 have HFZ:=aYl (show iM t path (f+1) i at_ good=if x.kind=1 then ⟨.mk 0 (x.lo+(cA path x at_ good).1) ByteArray.empty [],(cA path x at_ good).2.1,(cA path x at_ good).2.2⟩
   else if x.kind=2 then iM t path f (x.kids.getD (cA path x at_ good).1.toNat 0) (cA path x at_ good).2.1 (cA path x at_ good).2.2
   else if x.kind=4 then iM t path f (x.kids.getD ((cO x.values (iM t path f (x.kids.getD 0 0) at_ good).val).1+1) 0) (iM t path f (x.kids.getD 0 0) at_ good).at_ (iM t path f (x.kids.getD 0 0) at_ good).good
   else eY (iM t path f) x.name at_ good [] x.kids by rw [HFR.out];unfold nA;rw [Int.toNat_natCast,if_neg (by rw [<- HLE.out];exact hz)])
 have HNM:=aYl (show ¬ g.M w.heap.size from fun h=>by have:=HMX.out _ h;omega);have lbn:=HNW.out.lt;have hbr:¬ bn=w.heap.size:=by omega
 have HCHO:=aYl (show ∀ W',Ext W W'->Calls Tryz.prog 146 #[↑i,.pointer (some ⟨g.a,0,none⟩),.pointer (some ⟨g.p,0,none⟩),.pointer (some ⟨g.b,0,none⟩),.pointer (some ⟨g.g,0,none⟩)] W' (aQv g (cA path x at_ good) W') from fun W' h=>by
  rw [HXD.out];exact aCq t path _ vp g i at_ good W' (HE.out.ext h) (HS.out.ext h) hit h0 h1 hpl U)
 have HBD:=aYl (aCr (good:=good) HOK.out h0 h1)
 by_cases k1:x.kind=1
 ·have tk1:(x.kind == 1)=true:=aYn k1
  rw [if_pos k1] at HFZ;have hb1:=HBD.out.2.2.1;have hb2:=HBD.out.2.2.2.1 k1;have hnum:=cW HOK.out.numbers;generalize cA path x at_ good=rc at *;obtain ⟨c,at2,gd2⟩:=rc;simp only at hb1 hb2 HFZ;have HVY:=aYl (show ∀ W' Q,VAt W' Q (.mk 0 (x.lo+c) ByteArray.empty []) none 0 from fun W' Q=>⟨by unfold I64;simp [GV.kind],by unfold I64;simp only [GV.n];omega,by simp [GV.s],Nat.le_refl _,⟨av,U⟩,⟨none,0,[],rfl,Nat.le_refl _,⟨av,U⟩,⟨rfl,fun h=>absurd h av⟩,rfl⟩⟩);have hwr:IntKind.i64.wrap (x.lo+c)=x.lo+c:=IntWalk.i64_in _ U;clear k1 c7;go_wp2_with fail
  go_region_held3 (fun w'=>w'.cell? ⟨bn,on+i*12+2,none⟩=some (.int .i64 x.lo))
   (first
    | with_reducible exact cP hbr c2'
    | with_reducible exact cE hbr c2'
    | with_reducible exact c2'
    | go_keep)
   (first
    | (go_at_call 146;refine (HCHO.out _ (Ext.refl _).drew').mono ?_;rintro e wv ⟨rfl,hfc,hst⟩;have c2':=kP hfc HQN.out.1 c2;have hBv:=(HB0.out.drew).fr hfc HNM.out;obtain ⟨z0,z1,z2,z3⟩:=aS hBv;have zf0:=hBv.frozen 0;have zf1:=hBv.frozen 1;have zf2:=hBv.frozen 2;have zf3:=hBv.frozen 3))
  go_wp2_with fail;have hFw:Fr g.M w wv:=(Fr.of_ext HX0.out.drew').trans hfc;clear z0 z1 z2 z3;obtain ⟨z0,z1,z2,z3,hvz,hFz,hSz⟩:=pQ (gr:=w.heap.size) (cs:=[.int .i64 0,.int .i64 0,.string ⟨#[]⟩,.slice none 0 0]) (Nat.le_refl _) HMX.out hFw hBv rfl (HVY.out _ _) hst;have hgen:((((wv.setCell ⟨w.heap.size,0,none⟩ (.int .i64 0)).setCell ⟨w.heap.size,1,none⟩ (.int .i64 (x.lo+c))).setCell ⟨w.heap.size,2,none⟩ (.string ⟨#[]⟩)).setCell ⟨w.heap.size,3,none⟩ (.slice none 0 0))=wv.setCells w.heap.size 0 (cellsOf (GV.mk 0 (x.lo+c) ByteArray.empty []) none 0):=rfl;rw [hgen];generalize wv.setCells w.heap.size 0 (cellsOf (GV.mk 0 (x.lo+c) ByteArray.empty []) none 0)=WF at *;exact bodyPost_ret (v:=eF (GV.mk 0 (x.lo+c) ByteArray.empty []) none 0) (by simp [results,Tryz.results145,go_sem,z0,z1,z2,z3]) rfl (by rw [HFZ.out];exact ⟨none,0,rfl,hvz,hFz,hSz⟩)
 have HREC:=aYl (show ∀ (zn:Nat) (at3:Int) (gd3:Bool) (W':World),zn<i->Fr g.M w W'->FSt g at3 gd3 W'->0<=at3->at3<=path.length->Calls Tryz.prog 145 #[.pointer (some ⟨g.w,0,none⟩),.int .i64 zn,.bool true,.func (.func 146) #[] #[.pointer (some ⟨g.a,0,none⟩),.pointer (some ⟨g.p,0,none⟩),.pointer (some ⟨g.b,0,none⟩),.pointer (some ⟨g.g,0,none⟩)]] W' (aJb (g.more w.heap.size W'.heap.size) (iM t path f zn at3 gd3) W') from fun zn at3 gd3 W' hz hF hSt a0 a1 =>
  HIH.out (g.more w.heap.size W'.heap.size) zn at3 gd3 W' U U (HEW.out.more hF) hSt a0 a1)
 have HQQ:=aYl (show ∀ (lo hi b:Nat),(g.more lo hi).Q b->g.Q b∧¬ (lo<=b∧b<hi) from fun lo hi b h=>⟨⟨h.1,fun hx=>h.2 (.inl hx)⟩,fun hx=>h.2 (.inr hx)⟩)
 by_cases k2:x.kind=2
 ·have tk1:(x.kind == 1)=false:=aYm k1
  have tk2:(x.kind == 2)=true:=aYn k2;rw [if_neg k1,if_pos k2] at HFZ;have hb0:=HBD.out.1;have hb3:=HBD.out.2.1;have hb1:=HBD.out.2.2.1;have hb2:=HBD.out.2.2.2.2 k2;generalize cA path x at_ good=rc at *;obtain ⟨c,at2,gd2⟩:=rc;simp only at hb0 hb1 hb2 hb3 HFZ;obtain ⟨hkl1,hkl2⟩:=HXW.out.kids.le;obtain ⟨bk,ok,ek,hqk,-,gk⟩:=HXW.out.kids.get (i:=c.toNat) U;have hzz:=HOK.out.kids _ (aF (d:=0) (show c.toNat<x.kids.length by omega));obtain ⟨zn,hzn⟩:∃ zn:Nat,x.kids.getD c.toNat 0=(zn:Int):=⟨(x.kids.getD c.toNat 0).toNat,U⟩;rw [hzn] at gk HFZ hzz;rw [ek] at c7;have lbk:=aQ gk;have hbk:¬ bk=w.heap.size:=by omega
  have ck:=aA HX0.out gk;have HQK:=aYl hqk;have hzi:zn<i:=by omega
  clear hzn hzz gk ek hqk k1 k2;go_wp2_with fail
  go_region_held3 (fun w'=>w'.cell? ⟨bn,on+i*12+7,none⟩=some (.slice (some ⟨bk,ok,none⟩) x.kids.length a.kc)∧w'.cell? ⟨bk,ok+c.toNat,none⟩=some (.int .i64 zn))
   (first
    | with_reducible exact ⟨cP hbr c7'',cP hbk ck''⟩
    | with_reducible exact ⟨cE hbr c7'',cE hbk ck''⟩
    | with_reducible exact ⟨c7'',ck''⟩
    | with_reducible exact ⟨c7',ck'⟩
    | go_keep)
   (first
    | (go_at_call 146;refine (HCHO.out _ (Ext.refl _).drew').mono ?_;rintro e wv ⟨rfl,hfc,hst⟩;have hFw:Fr g.M w wv:=(Fr.of_ext HX0.out.drew').trans hfc;have hszv:w.heap.size<wv.heap.size:=Nat.lt_of_lt_of_le HS0.out hfc.size;have c7':=kP hfc HQN.out.1 c7;have ck':=kP hfc HQK.out.1 ck)
    | (go_at_call 145;refine (HREC.out zn at2 gd2 wv hzi hFw hst (by omega) hb3).mono ?_;rintro e wu ⟨A2,c2,rfl,hv2,hfu,hsu⟩;have c7'':=aZ hfu HQN.out.1 c7';have ck'':=aZ hfu HQK.out.1 ck';have hBu:=((HB0.out.drew).fr hfc HNM.out).fr hfu HNM.out;obtain ⟨z0,z1,z2,z3⟩:=aS hBu;have zf0:=hBu.frozen 0;have zf1:=hBu.frozen 1;have zf2:=hBu.frozen 2;have zf3:=hBu.frozen 3))
  generalize iM t path f zn at2 gd2=rr at *;obtain ⟨y,at3,gd3⟩:=rr;simp only at hv2 hsu HFZ;go_wp2_with fail;have hFu:Fr g.M w wu:=hFw.trans hfu;have hVu:VAt wu (fun b=>g.Q b∧b ≠ w.heap.size) y A2 c2:=hv2.carry (fun _ _ _=>rfl) (fun b _ h=>⟨(HQQ.out _ _ _ h).1,fun e=>(HQQ.out _ _ _ h).2 U⟩);clear z0 z1 z2 z3;obtain ⟨z0,z1,z2,z3,hvz,hFz,hSz⟩:=pQ (gr:=w.heap.size) (cs:=[.int .i64 0,.int .i64 0,.string ⟨#[]⟩,.slice none 0 0]) (Nat.le_refl _) HMX.out hFu hBu rfl hVu hsu;have hgen:((((wu.setCell ⟨w.heap.size,0,none⟩ (↑y.kind)).setCell ⟨w.heap.size,1,none⟩ (↑y.n)).setCell ⟨w.heap.size,2,none⟩ (.string y.s)).setCell ⟨w.heap.size,3,none⟩ (.slice A2 y.kids.length c2))=wu.setCells w.heap.size 0 (cellsOf y A2 c2):=rfl;rw [hgen];generalize wu.setCells w.heap.size 0 (cellsOf y A2 c2)=WF at *;exact bodyPost_ret (v:=eF y A2 c2) (by simp [results,Tryz.results145,go_sem,z0,z1,z2,z3]) rfl (by rw [HFZ.out];exact ⟨A2,c2,rfl,hvz,hFz,hSz⟩)
 by_cases k4:x.kind=4
 ·have tk1:(x.kind == 1)=false:=aYm k1
  have tk2:(x.kind == 2)=false:=aYm k2;have tk4:(x.kind == 4)=true:=aYn k4;rw [if_neg k1,if_neg k2,if_pos k4] at HFZ;have hbd:=HOK.out.bind k4;obtain ⟨hm1,hm2⟩:=HCV.out k4;have hinc:=HOK.out.inc;obtain ⟨hkl1,hkl2⟩:=HXW.out.kids.le;obtain ⟨bk,ok,ek,hqk,-,gk⟩:=HXW.out.kids.get (i:=0) U;rw [Nat.add_zero] at gk;have hzz:=HOK.out.kids _ (aF (d:=0) (show 0<x.kids.length by omega));obtain ⟨zn,hzn⟩:∃ zn:Nat,x.kids.getD 0 0=(zn:Int):=⟨(x.kids.getD 0 0).toNat,U⟩;rw [hzn] at gk HFZ hzz hm1 hm2;rw [Int.toNat_natCast] at hm1 hm2;rw [ek] at c7;have lbk:=aQ gk;have hbk:¬ bk=w.heap.size:=by omega
  have ck:=aA HX0.out gk;have HQK:=aYl hqk;have hzi:zn<i:=by omega
  have hfo:=HFO.out zn at_ good hzi h0 h1;have HRC:=aYl (HREC.out zn at_ good W hzi (Fr.of_ext HX0.out) HS.out h0 h1);generalize aR t path f (zn:Int) at_=rd at *;generalize iM t path f (zn:Int) at_ good=rr at *;obtain ⟨y,at2,gd2⟩:=rr;have hat:=hfo.at0;have hmem:=hfo.mem hm1;rw [hm2] at hmem;simp only at hat hmem HFZ;have hfi:=jV hinc hmem;have HCS:=aYl (show ∀ (A:Option Addr) (c:Nat) (W':World),bU W' bn (on+i*12) x a->NAt W' g.Q x a->VAt W' g.Q y A c->Calls Tryz.prog 185 #[.pointer (some ⟨bn,on+i*12,none⟩),eF y A c] W' (dV (.int .i64 ((cO x.values y).1+1)) W') from fun A c W' q1 q2 q3=>vB x a bn (on+i*12) y A c g.Q g.Q W' q1 q2 q3 hinc U);generalize (cO x.values y).1=q at *;have hql:q+1<x.kids.length:=by omega
  obtain ⟨bk2,ok2,ek2,-,-,gk2⟩:=HXW.out.kids.get (i:=q+1) hql;rw [ek] at ek2;injection ek2 with ek2;injection ek2 with ek21 ek22;subst ek21 ek22;have hz2:=HOK.out.kids _ (aF (d:=0) hql);obtain ⟨zq,hzq⟩:∃ zq:Nat,x.kids.getD (q+1) 0=(zq:Int):=⟨(x.kids.getD (q+1) 0).toNat,U⟩;rw [hzq] at gk2 HFZ hz2;have hzqi:zq<i:=by omega
  have ck2:=aA HX0.out gk2;have hk1:(0:Int)<(x.kids.length:Int):=by omega
  have hq0:(0:Int)<=(q:Int)+1:=U
  have hq1:(q:Int)+1<(x.kids.length:Int):=U
  have hqt:((q:Int)+1).toNat=q+1:=U
  have HQT:=aYl hqt;have HAT:=aYl hat;clear hzn hzz gk ek hqk k1 k2 k4 hm1 hm2 hinc hfo hmem hfi hqt hz2 hzq gk2 hbd;go_wp2_with fail;refine HRC.out.mono ?_;rintro e wu ⟨A2,d2,rfl,hv2,hfu,hsu⟩;have hFu:Fr g.M w wu:=(Fr.of_ext HX0.out).trans hfu;have d7:=aZ hfu HQN.out.1 c7;have dk:=aZ hfu HQK.out.1 ck2;have HVU:=aYl (hv2.carry (Q:=g.Q) (fun _ _ _=>rfl) (fun b _ h=>(HQQ.out _ _ _ h).1));have HNU:=aYl (show bU wu bn (on+i*12) x a from fun j u hu=>aZ hfu HQN.out.1 (HN.out j u hu));have HXU:=aYl (HXW.out.carry (Q:=g.Q) (aB.of_fr hFu (fun b h=>h.1)) (fun _ _ h=>h));have HBU:=aYl (HB0.out.fr hfu HNM.out);have HFU:=aYl hFu;have HSU:=aYl hsu;simp only at HVU HSU;have lu:w.heap.size<wu.heap.size:=Nat.lt_of_lt_of_le HS0.out hfu.size;clear hv2 hfu hsu hFu HRC c7 ck ck2 c0 c2 r0 r1 r2 r3 f0 f1 f2 f3 w0 w1 w2 ws wl;go_wp2_with fail;have HXQ:=aYl ((Ext.refl wu).alloc' (.cells #[↑y.kind,↑y.n,.string y.s,.slice A2 y.kids.length d2] 85));have HBQ:=aYl (Blk.new wu 85 #[↑y.kind,↑y.n,.string y.s,.slice A2 y.kids.length d2]);generalize wu.alloc (.cells #[↑y.kind,↑y.n,.string y.s,.slice A2 y.kids.length d2] 85)=Wq at *;have e7:=aA HXQ.out d7;have eK:=aA HXQ.out dk
  obtain ⟨y0,y1,y2,y3⟩:=aS HBQ.out;have ngq:¬ wu.heap.size=w.heap.size:=by omega
  have NMQ:¬ g.M wu.heap.size:=fun h=>by have:=HMX.out _ h;omega
  have hqt:=HQT.out;clear d7 dk
  go_region_held3 (fun w'=>w'.cell? ⟨bn,on+i*12+7,none⟩=some (.slice (some ⟨bk,ok,none⟩) x.kids.length a.kc)∧w'.cell? ⟨bk,ok+(q+1),none⟩=some (.int .i64 zq)∧w'.cell? ⟨wu.heap.size,0,none⟩=some (.int .i64 y.kind)∧w'.cell? ⟨wu.heap.size,1,none⟩=some (.int .i64 y.n)∧w'.cell? ⟨wu.heap.size,2,none⟩=some (.string y.s)∧w'.cell? ⟨wu.heap.size,3,none⟩=some (.slice A2 y.kids.length d2))
   (first
    | with_reducible exact ⟨cP hbr e7'',cP hbk eK'',cP ngq y0'',cP ngq y1'',cP ngq y2'',cP ngq y3''⟩
    | with_reducible exact ⟨cE hbr e7'',cE hbk eK'',cE ngq y0'',cE ngq y1'',cE ngq y2'',cE ngq y3''⟩
    | with_reducible exact ⟨e7'',eK'',y0'',y1'',y2'',y3''⟩
    | with_reducible exact ⟨e7',eK',y0',y1',y2',y3'⟩
    | go_keep)
   (first
    | (go_at_call 185;refine (HCS.out A2 d2 _ ((HNU.out.ext HXQ.out).ext (Ext.refl _).drew') ((HXU.out.ext HXQ.out).ext (Ext.refl _).drew') ((HVU.out.ext HXQ.out).ext (Ext.refl _).drew')).mono ?_;rintro e wv ⟨rfl,hx5⟩;have hx6:Ext Wq wv:=(Ext.refl _).drew'.trans' hx5;have e7':=aA hx6 e7;have eK':=aA hx6 eK;have y0':=aA hx6 y0;have y1':=aA hx6 y1;have y2':=aA hx6 y2;have y3':=aA hx6 y3;have hFv:Fr g.M w wv:=HFU.out.trans (Fr.of_ext (HXQ.out.trans' hx6));have hSv:FSt g at2 gd2 wv:=HSU.out.ext (HXQ.out.trans' hx6))
    | (go_at_call 145;refine (HREC.out zq at2 gd2 wv hzqi hFv hSv (by have:=HAT.out;omega) HAT.out.2).mono ?_;rintro e wz ⟨A3,c3,rfl,hv3,hfz,hsz⟩;have e7'':=aZ hfz HQN.out.1 e7';have eK'':=aZ hfz HQK.out.1 eK';have y0'':=aZ hfz NMQ y0';have y1'':=aZ hfz NMQ y1';have y2'':=aZ hfz NMQ y2';have y3'':=aZ hfz NMQ y3';have hBz:=(HBU.out.ext (HXQ.out.trans' hx6)).fr hfz HNM.out;obtain ⟨z0,z1,z2,z3⟩:=aS hBz;have zf0:=hBz.frozen 0;have zf1:=hBz.frozen 1;have zf2:=hBz.frozen 2;have zf3:=hBz.frozen 3))
  clear hqt;generalize iM t path f (zq:Int) at2 gd2=rr3 at *;obtain ⟨yz,at4,gd4⟩:=rr3;simp only at hv3 hsz HFZ;go_wp2_with fail;have hFz':Fr g.M w wz:=hFv.trans hfz;have hwz:w.heap.size<wv.heap.size:=Nat.lt_of_lt_of_le lu (HXQ.out.trans' hx6).size;have hVz:VAt wz (fun b=>g.Q b∧b ≠ w.heap.size) yz A3 c3:=hv3.carry (fun _ _ _=>rfl) (fun b _ h=>⟨(HQQ.out _ _ _ h).1,fun e=>(HQQ.out _ _ _ h).2 U⟩);clear z0 z1 z2 z3;obtain ⟨z0,z1,z2,z3,hvz,hFz,hSz⟩:=pQ (gr:=w.heap.size) (cs:=[.int .i64 0,.int .i64 0,.string ⟨#[]⟩,.slice none 0 0]) (Nat.le_refl _) HMX.out hFz' hBz rfl hVz hsz;have hgen:((((wz.setCell ⟨w.heap.size,0,none⟩ (↑yz.kind)).setCell ⟨w.heap.size,1,none⟩ (↑yz.n)).setCell ⟨w.heap.size,2,none⟩ (.string yz.s)).setCell ⟨w.heap.size,3,none⟩ (.slice A3 yz.kids.length c3))=wz.setCells w.heap.size 0 (cellsOf yz A3 c3):=rfl;rw [hgen];generalize wz.setCells w.heap.size 0 (cellsOf yz A3 c3)=WF at *;exact bodyPost_ret (v:=eF yz A3 c3) (by simp [results,Tryz.results145,go_sem,z0,z1,z2,z3]) rfl (by rw [HFZ.out];exact ⟨A3,c3,rfl,hvz,hFz,hSz⟩)
 have tk1:(x.kind == 1)=false:=aYm k1;have tk2:(x.kind == 2)=false:=aYm k2;have tk4:(x.kind == 4)=false:=aYm k4;rw [if_neg k1,if_neg k2,if_neg k4] at HFZ;have HKV:=aYl HXW.out.kids;have HKI:=aYl HOK.out.kids;have HNM2:=aYl HXW.out.name;have HXL:=aYl HEW.out.xlt;obtain ⟨hkl1,hkl2⟩:=HXW.out.kids.le;obtain ⟨i0,hi,hz0,hz1,hz2⟩:=info_parts Tryz.info85;have HI:=aYl hi;clear hi k1 k2 k4;generalize a.kA=Ak at *;generalize a.kc=kc at *;go_wp2_with fail;go_loopw [11,98] (fun v ix wr=>aFy (iM t path f) path x.name x.kids g w W (iM t path (f+1) i at_ good) v ix wr) (fun _ ix _=>x.kids.length - (intOf ix).toNat)
 case atStart=>exact ⟨0,at_,good,[],[],Nat.zero_le _,rfl,World.ownsRow_nil _ _ _ _,by simp [RVs],Fr.of_ext HX0.out,Nat.le_refl _,HS.out,h0,h1,rfl,HB0.out,HFZ.out⟩
 case round =>
  obtain ⟨k,at1,gd1,done,xs,hk,rfl,ho,hr,hF,hsz,hSt,a0,a1,hdl,hB,hR⟩:=hrel;obtain ⟨Av,cv,ev,-,-,-⟩:=Sl.of_own ho;subst ev;have HO:=aYl ho;have HR:=aYl hr;have HF:=aYl hF;have HST:=aYl hSt;have HDL:=aYl hdl;have HB:=aYl hB;have HRR:=aYl hR;have HSZ:=aYl hsz;clear ho hr hF hSt hdl hB hR hsz
  by_cases hlt:k<x.kids.length
  ·obtain ⟨bk,ok,rfl,hqk,-,gk⟩:=HKV.out.get hlt
   have hzz:=HKI.out _ (aF (d:=0) hlt);obtain ⟨zn,hzn⟩:∃ zn:Nat,x.kids.getD k 0=(zn:Int):=⟨(x.kids.getD k 0).toNat,U⟩;rw [hzn] at gk hzz;have ck:=aZ HF.out hqk.1 gk;have hzi:zn<i:=by omega
   have HRC:=aYl (HREC.out zn at1 gd1 wr hzi HF.out HST.out a0 a1);have hfo:=HFO.out zn at1 gd1 hzi a0 a1;have HHY:=aYl (show iM t path f (x.kids.getD k 0) at1 gd1=iM t path f (zn:Int) at1 gd1 by rw [hzn]);generalize aR t path f (zn:Int) at1=rd at *;generalize iM t path f (zn:Int) at1 gd1=rr at *;obtain ⟨y,at2,gd2⟩:=rr;have hat:=hfo.at0;simp only at hat;have HAT:=aYl hat;have hkk:(k:Int)<(x.kids.length:Int):=by omega
   clear hzn hzz gk hqk hfo hat;go_wp2_with fail;refine HRC.out.mono ?_;rintro e wu ⟨A2,d2,rfl,hv2,hfu,hsu⟩;simp only at hv2 hsu;have HOU:=aYl (HO.out.fr_ hfu (fun b hb=>by have h1:=HMX.out b hb;have h2:=HS0.out;omega));have HRU:=aYl (aHf HMX.out HS0.out HR.out hfu);have HFU:=aYl (HF.out.trans hfu);have HSU:=aYl hsu;have HBU:=aYl (HB.out.fr hfu HNM.out);have HZU:=aYl (Nat.le_trans HSZ.out hfu.size)
   have HVU:=aYl (hv2.carry (Q:=fun b=>((g.Q b∧b<w.heap.size)∨W.heap.size<=b)∧some b ≠ (Value.slice Av k cv).ownBlock) (fun _ _ _=>rfl) (fun b hb h=>by
    have h1:=HQQ.out _ _ _ h;have h2:=HSZ.out;have h3:=HS0.out;refine ⟨?_,fun e=>?_⟩
    ·by_cases hbw:b<w.heap.size
     ·exact .inl ⟨h1.1,hbw⟩
     ·exact .inr (by have:=h1.2;omega)
    ·have h4:=HO.out.block_ge e.symm
     have h5:=HO.out.block_lt e.symm;exact h1.2 U))
   clear hv2 hfu hsu HRC;go_upto_region 17 with fail;have HX5:=aYl ((Ext.refl wu).alloc' (.cells #[↑y.kind,↑y.n,.string y.s,.slice A2 y.kids.length d2] 85));have HB5:=aYl (Blk.new wu 85 #[↑y.kind,↑y.n,.string y.s,.slice A2 y.kids.length d2]);generalize wu.alloc (.cells #[↑y.kind,↑y.n,.string y.s,.slice A2 y.kids.length d2] 85)=w5 at *;obtain ⟨y0,y1,y2,y3⟩:=aS HB5.out;have HZ5:=aYl (Nat.le_trans HZU.out HX5.out.size);go_wp2_with (at_builtin;go_must (refine aK _ rfl (.tmp 108) (.tmp 110) 83 al W.heap.size 85 i0 _ 4 56 Tryz.underlying83 HI.out hz0 hz1 hz2 rfl U (.slice Av k cv) _ _ rfl ((HOU.out.ext_ HX5.out).alloc _) (fun _=>True) (some ⟨w5.heap.size,0,none⟩) 1 1 [.int .i64 y.kind,.int .i64 y.n,.string y.s,.slice A2 y.kids.length d2] rfl (Sl.new w5 _ _ _ _ rfl) af U U (by have:=HZ5.out;simp;omega) ?_);intro v6 w6 ho6 hf6 hb6);go_roundw
   case rel=>exact aEj HMX.out HS0.out HXL.out hlt HOU.out HRU.out HFU.out HZU.out HSU.out (by have:=HAT.out;omega) HAT.out.2 HDL.out HBU.out HRR.out HHY.out HX5.out (HVU.out.ext HX5.out) ho6 hf6 hb6
   case measure=>simp [intOf];omega
  ·obtain rfl:k=x.kids.length:=by omega
   have HRE:=aYl (show iM t path (f+1) i at_ good=⟨bW x.name done,at1,gd1⟩ by rw [HRR.out,drop_nil (Nat.le_refl _)];rfl);have HNR:=aYl (show bU wr bn (on+i*12) x a from fun j u hu=>aZ HF.out HQN.out.1 (HNW.out j u hu))
   have HMD:=aYl (show Calls Tryz.prog 97 #[.pointer (some ⟨bn,on+i*12,none⟩),.slice Av x.kids.length cv] wr fun e w'=>e=.returned (eF (bW x.name done) Av cv)∧Ext wr w' by
    have h:=jT x a bn (on+i*12) done Av cv wr HNR.out;rw [HDL.out] at h;exact h)
   have HVD:=aYl (show bV wr (fun b=>g.Q b∧b ≠ w.heap.size) (.slice Av done.length cv) done by
    have h:=bV.of_own (Q:=fun b=>g.Q b∧b ≠ w.heap.size) (HO.out.len_cast HDL.out.symm rfl) (RVs.carry (fun _ _ _=>rfl) (fun b hb h=>?_) HR.out) (by rw [HDL.out];omega) (fun b hb=>?_)
    ·rw [HDL.out];exact h
    ·have h3:=HS0.out
     rcases h.1 with h1 | h1
     ·exact ⟨h1.1,U⟩
     ·exact ⟨⟨fun hm=>by have:=HMX.out _ hm;omega,fun hx=>by have:=HXL.out _ hx;omega⟩,U⟩
    ·have h1:=HO.out.block_ge hb
     have h3:=HS0.out;exact ⟨⟨fun hm=>by have:=HMX.out _ hm;omega,fun hx=>by have:=HXL.out _ hx;omega⟩,U⟩)
   have HVM:=aYl (VAt.made HNM2.out HVD.out);generalize bW x.name done=ym at *;go_wp2_with fail;refine HMD.out.mono ?_;rintro e w7 ⟨rfl,hx7⟩;have hB7:=HB.out.ext hx7;obtain ⟨z0,z1,z2,z3⟩:=aS hB7;have zf0:=hB7.frozen 0;have zf1:=hB7.frozen 1;have zf2:=hB7.frozen 2;have zf3:=hB7.frozen 3;have HX7:=aYl hx7;have HB7:=aYl hB7;clear hx7 hB7;go_wp2_with fail;clear z0 z1 z2 z3;obtain ⟨z0,z1,z2,z3,hvz,hFz,hSz⟩:=pQ (gr:=w.heap.size) (cs:=[.int .i64 0,.int .i64 0,.string ⟨#[]⟩,.slice none 0 0]) (Nat.le_refl _) HMX.out (HF.out.trans (Fr.of_ext HX7.out)) HB7.out rfl (HVM.out.ext HX7.out) (HST.out.ext HX7.out);have hgen:((((w7.setCell ⟨w.heap.size,0,none⟩ (↑ym.kind)).setCell ⟨w.heap.size,1,none⟩ (↑ym.n)).setCell ⟨w.heap.size,2,none⟩ (.string ym.s)).setCell ⟨w.heap.size,3,none⟩ (.slice Av ym.kids.length cv))=w7.setCells w.heap.size 0 (cellsOf ym Av cv):=rfl;rw [hgen];generalize w7.setCells w.heap.size 0 (cellsOf ym Av cv)=WF at *;exact bodyPost_ret (v:=eF ym Av cv) (by simp [results,Tryz.results145,go_sem,z0,z1,z2,z3]) rfl (by rw [HRE.out];exact ⟨Av,cv,rfl,hvz,hFz,hSz⟩)
theorem aCg (t:List GN)(path:List Int)(vn vp:Value)(hg:bD t t.length)(hpl:path.length<=1000000)(f:Nat):zP t path vn vp f:=by
 induction f with
 | zero=>intro g i at_ good w hif;omega
 | succ f ih=>exact aHg t path vn vp f hg hpl ih
end Go.Proofs.YtkoeecdjijfjnaaGreat
