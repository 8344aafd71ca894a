/- Contracts of functions, plain laws. Conditions: none. -/
import Derived.Test.YtkoeecdjijfjnaaGreatH2
set_option maxRecDepth 100000
set_option maxHeartbeats 8000000
namespace Go.Proofs.YtkoeecdjijfjnaaGreat
open Go.RowKit
def aJ2 (t:List GN)(vn:Value)(P:Nat->Prop)(W:World)(s:Value)(wx:World):Prop :=
 ∃ gw gs gl gf,s=.pointer (some ⟨gw,0,none⟩)∧WN t vn P W gw gs gl gf (List.replicate t.length 0) (oK t 0) wx
theorem iO {t:List GN}{vn:Value}{P:Nat->Prop}{W w1 wx:World}{gw gl gf:Nat}{g:SA}{mi mv:Array Value}(hmi:mi=madeCells #[.int .i64 0] t.length)(hmv:mv=madeCells #[.int .i64 0,.int .i64 0,.string ByteArray.empty,.slice none 0 0] (t.length*4))(ht:Nds W P vn t)(hs:bV t vn g w1)(hx1:Ext w1 wx)(hx:Ext W wx)
  (hb:Blk wx gw 149 #[.pointer (some ⟨g.s,0,none⟩),.slice (some ⟨gl,0,none⟩) t.length t.length,.slice (some ⟨gf,0,none⟩) t.length t.length])
  (hl:Blk wx gl 3 mi)(hf:Blk wx gf 85 mv)(n1:gw ≠ gl)(n2:gw ≠ gf)(n3:gl ≠ gf)(n4:g.s ≠ gl)(n5:g.s ≠ gf)(bw:W.heap.size<=gw)(bs:W.heap.size<=g.s)(bl:W.heap.size<=gl)(bf:W.heap.size<=gf) :
  aJ2 t vn P W (.pointer (some ⟨gw,0,none⟩)) wx:=by
 obtain ⟨kn,ls,ms,h0⟩:=hs;have e:madeCells #[.int .i64 0] t.length=mP (List.replicate t.length 0):=by rw [gF];simp [mP]
 rw [hmi,e] at hl;have e2:oK t 0=List.replicate t.length default:=by unfold oK eH;simp [jJ]
 refine ⟨gw,g.s,gl,gf,rfl,hb,(h0.box.ext hx1).cell' 0 rfl,hl,⟨mv.toList,by simpa using hf,?_⟩,ht.ext hx,n1,n2,n3,n4,n5,bw,bs,bl,bf,by simp,by rw [e2];simp,hx⟩;rw [e2,hmv,aRi];exact aAm _ _ _
def aAo (t:List GN)(vn:Value)(P:Nat->Prop)(W:World)(gw gs gl gf:Nat)(i:Value)(wr:World):Prop :=
 ∃ (k:Nat) (ls:List Int),k<=t.length∧i=.int .i64 k∧WN t vn P W gw gs gl gf ls (oK t k) wr∧ls.take k=(aT t).take k∧(∀ x ∈ ls,I64 x)
def aSb (t:List GN)(vn:Value)(P:Nat->Prop)(w:World)(e:Ending)(w':World):Prop :=
 ∃ gw gs gl gf,e=.returned (.pointer (some ⟨gw,0,none⟩))∧kG t vn gw gs gl gf (New P w.heap.size) w'∧Ext w w'∧w.heap.size<=gw∧w.heap.size<=gs∧w.heap.size<=gl∧w.heap.size<=gf
theorem aGa {t:List GN}{vn:Value}{P:Nat->Prop}{w W wr:World}{gw gs gl gf:Nat}{ls:List Int}(hx:Ext w W)(h:WN t vn P W gw gs gl gf ls (oK t t.length) wr)(hl:ls.take t.length=(aT t).take t.length)(hlen:t.length<=17592186044416):aSb t vn P w (.returned (.pointer (some ⟨gw,0,none⟩))) wr:=by
 have hll:(aT t).length=t.length:=by unfold aT;rw [eM];simp
 rw [List.take_of_length_le (by have:=h.llen;omega),List.take_of_length_le (by omega)] at hl;obtain ⟨cs,h1,h2⟩:=h.fix;rw [uG] at h2;have hsz:=hx.size;have b1:=h.bw;have b2:=h.bs;have b3:=h.bl;have b4:=h.bf;have hfl:(sA t).length=t.length:=by rw [<- uG,zT (Nat.le_refl _)]
 refine ⟨gw,gs,gl,gf,rfl,⟨h.box,h.sets,hl ▸ h.lens,?_,h.nodes.carry (fun _ _ _=>rfl) (fun _ _ h=>.inl h),.inr (by omega),.inr (by omega),.inr (by omega)⟩,hx.trans' h.ext,by omega,by omega,by omega,by omega⟩;refine ⟨some ⟨gf,0,none⟩,t.length,cs,by rw [hfl],by omega,⟨by omega,by omega⟩,⟨h2.len,fun _=>⟨gf,0,rfl,.inr (by omega),fun j u hu=>by rw [Nat.zero_add];exact h1.cell' j (by simpa using hu)⟩⟩,?_⟩;exact RVs.carry (fun _ _ _=>rfl) (fun b _ h=>h.1.elim .inl (fun h=>.inr (by omega))) h2
theorem iN {t:List GN}{k:Nat}{ls:List Int}(hg:bJ t t.length)(hk:k<t.length)(hl:ls.take k=(aT t).take k)(hll:ls.length=t.length):fQ ls (t.getD k default)=(aT t).getD k 0∧(ls.set k (fQ ls (t.getD k default))).take (k+1)=(aT t).take (k+1) :=
 ⟨xO hk (hg.at_ hk).node hl,aAe (hg.mono (by omega)) hk (hg.2.2 k hk) hl hll⟩
theorem xZ {t:List GN}{vn:Value}{P:Nat->Prop}{W w2:World}{gw gs gl gf k:Nat}{ls:List Int}{v:GV}{us:List Value}(hg:bJ t t.length)(hk:k<t.length)(hll:ls.length=t.length)(hl:ls.take k=(aT t).take k)(hI:∀ x ∈ ls,I64 x){lr:Int}(hlr:lr=fQ ls (t.getD k default))
  (h:WN t vn P W gw gs gl gf (ls.set k lr) (oK t k) w2)(hP:∀ b,P b->b<W.heap.size)(hv:RV w2 (fun b=>(P b∨W.heap.size<=b)∧b ≠ gl∧b ≠ gf) v us)(hf:dZ (aT t) (eH t k) (t.getD k default)=v) :
  aAo t vn P W gw gs gl gf (.int .i64 ((k:Int)+1)) (w2.setCells gf (k*4) us):=by
 subst hlr;refine ⟨k+1,_,by omega,by simp,?_,(iN hg hk hl hll).2,pB hI (oI hI _)⟩;rw [<- uF hk,hf];exact h.setFix hP hk hv
theorem rV {t:List GN}{vn:Value}{P:Nat->Prop}{W w2:World}{gw gs gl gf k:Nat}{ls:List Int}{v:GV}{us:List Value}(hg:bJ t t.length)(hk:k<t.length)(hll:ls.length=t.length)(hl:ls.take k=(aT t).take k)(hI:∀ x ∈ ls,I64 x){lr:Int}(hlr:lr=fQ ls (t.getD k default))
  (h:WN t vn P W gw gs gl gf (ls.set k lr) (oK t k) w2)(hP:∀ b,P b->b<W.heap.size)(hv:RV w2 (fun b=>(P b∨W.heap.size<=b)∧b ≠ gl∧b ≠ gf) v us)(hf:dZ (aT t) (eH t k) (t.getD k default)=v) :
  aAo t vn P W gw gs gl gf (.int .i64 ((k:Int)+1)) ((w2.setCells gf (k*4) us)).drew:=by
 subst hlr;refine ⟨k+1,_,by omega,by simp,?_,(iN hg hk hl hll).2,pB hI (oI hI _)⟩;rw [<- uF hk,hf];exact (h.setFix hP hk hv).ext_ (Ext.refl _).drew'
theorem xY {t:List GN}{vn:Value}{P:Nat->Prop}{W w2:World}{gw gs gl gf k:Nat}{ls:List Int}(hg:bJ t t.length)(hk:k<t.length)(hll:ls.length=t.length)(hl:ls.take k=(aT t).take k)(hI:∀ x ∈ ls,I64 x){lr:Int}(hlr:lr=fQ ls (t.getD k default))
  (h:WN t vn P W gw gs gl gf (ls.set k lr) (oK t k) w2)(h0:0<lr):aAo t vn P W gw gs gl gf (.int .i64 ((k:Int)+1)) w2:=by
 subst hlr;refine ⟨k+1,_,by omega,by simp,?_,(iN hg hk hl hll).2,pB hI (oI hI _)⟩;rw [<- aEn hk]
 ·exact h
 ·unfold dZ
  rw [gY (by omega),if_pos (by rw [<- (iN hg hk hl hll).1];exact h0)]
theorem xK (t:List GN)(P:Nat->Prop)(vn:Value)(w:World)(hP:∀ b,P b->b<w.heap.size)(ht:Nds w P vn t)(hg:bJ t t.length):Calls Tryz.prog 44 #[.agg #[vn]] w (aSb t vn P w):=by
 have HP:=aV4 hP;have HT:=aV4 ht;have HG:=aV4 hg;have hbig:t.length<=4096:=hg.2.1;obtain ⟨An,cn,en,hn1,hn2⟩:=ht.form;subst en;clear ht hP hg;obtain ⟨i3,hi3,hz0,hz1,hz2⟩:=info_parts Tryz.info3;obtain ⟨i85,hi85,hy0,hy1,hy2⟩:=info_parts Tryz.info85
 have hmki:∀ W:World,(Instr.makeSlice 22 (.int .i64 (t.length:Int)) (.int .i64 (t.length:Int))).run Tryz.prog W=.ok (.slice (some ⟨W.heap.size,0,none⟩) t.length t.length) (W.alloc (.cells (madeCells #[.int .i64 0] t.length) 3)):=by
  intro W;have h:=run_make (P:=Tryz.prog) W 22 3 i3 _ Tryz.underlying22 hi3 hz0 .i64 .i64 (t.length:Int) (t.length:Int) (by omega) (Int.le_refl _) (by rw [hz2];omega) (by omega);rw [hz1,Nat.mul_one] at h;rw [h]
  rfl
 have HMK:=aV4 (show ∀ (m:Nat) (W:World),m<=100000->(Instr.makeSlice 83 (.int .i64 (m:Int)) (.int .i64 (m:Int))).run Tryz.prog W=.ok (.slice (some ⟨W.heap.size,0,none⟩) m m) (W.alloc (.cells (madeCells #[.int .i64 0,.int .i64 0,.string ByteArray.empty,.slice none 0 0] (m*4)) 85)) by
  intro m W hm;have h:=run_make (P:=Tryz.prog) W 83 85 i85 _ Tryz.underlying83 hi85 hy0 .i64 .i64 (m:Int) (m:Int) (by omega) (Int.le_refl _) (by rw [hy2];omega) (by omega);rw [hy1] at h;rw [h]
  rfl)
 have hmkv:=fun W=>HMK.out t.length W (by omega)
 clear hi3 hz0 hz1 hz2 i3 hi85 hy0 hy1 hy2 i85;obtain ⟨mi,hmi⟩:∃ mi,mi=madeCells #[.int .i64 0] t.length:=⟨_,rfl⟩;rw [<- hmi] at hmki;have HMI:=aV4 hmi;obtain ⟨mv,hmv⟩:∃ mv,mv=madeCells #[.int .i64 0,.int .i64 0,.string ByteArray.empty,.slice none 0 0] (t.length*4):=⟨_,rfl⟩;rw [<- hmv] at hmkv;have HMV:=aV4 hmv;clear hmi hmv;go_enter Tryz.func44,Tryz.ntmps44;go_upto_region 1 with fail;have HB0:=aV4 (Blk.new w 25 #[.slice An t.length cn]);have HE0:=aV4 ((Ext.refl w).alloc' (.cells #[.slice An t.length cn] 25));have hW0s:(w.alloc (.cells #[.slice An t.length cn] 25)).heap.size=w.heap.size+1:=by simp
 have HWS:=aV4 hW0s;clear hW0s;generalize w.alloc (.cells #[.slice An t.length cn] 25)=W at *;have b0:=HB0.out.cell' (u:=.slice An t.length cn) 0 rfl
 have HNS:=aV4 (show ∀ W',Ext w W'->Calls Tryz.prog 87 #[.agg #[.slice An t.length cn]] W' (aFg t (.slice An t.length cn) (fun _=>False) W') from fun W' h =>
  pO t P _ _ W' (HT.out.ext h) (fun b hb hx=>hx) (fun b hb=>hb.elim) (by omega))
 go_cut [3] (fun s wx=>aJ2 t (.slice An t.length cn) P W s wx)
 case first =>
  go_region_held3 (fun w'=>w'.cell? ⟨w.heap.size,0,none⟩=some (.slice An t.length cn))
   (first
    | go_keep
    | exact aB hxn ‹_›
    | exact aB (hxn.alloc' _) ‹_›)
   (first
    | (go_at_call 87;refine (HNS.out _ (by first | exact HE0.out.drew' | exact (HE0.out.alloc' _).drew' | exact ((HE0.out.alloc' _).alloc' _).drew')).mono ?_;rintro e wn ⟨g,rfl,hgX,hgs,hxn,l1,l2,l3,l4⟩))
  all_goals (go_wp2_with fail)
  all_goals (go_meet)
  all_goals
   have hws:=HWS.out;have hsz:=hxn.size;obtain ⟨kn,lk,mk,hA⟩:=id hgs;have a1:=hA.box.lt;have hMI:=HMI.out;have hMV:=HMV.out;have hTT:=HT.out.ext HE0.out;clear hA HNS HT HP hmki hmkv b0 HMK;simp at hsz l1 l2 l3 l4
  all_goals first
   | exact iO (gl:=W.heap.size) (gf:=W.heap.size+1) (gw:=wn.heap.size) hMI hMV hTT hgs ((Ext.refl wn).alloc' _) ((((((Ext.refl W).alloc' _).alloc' _).drew').trans' hxn).alloc' _) (Blk.new' wn 149 _ (g:=wn.heap.size) (by simp)) ((((Blk.new' W 3 mi (g:=W.heap.size) (by simp)).alloc _).drew.ext hxn).alloc _) (((Blk.new' (W.alloc _) 85 mv (g:=W.heap.size+1) (by simp)).drew.ext hxn).alloc _) (by omega) (by omega) (by omega) (by omega) (by omega) (by omega) (by omega) (by omega) (by omega)
   | exact iO (gl:=W.heap.size+1) (gf:=W.heap.size) (gw:=wn.heap.size) hMI hMV hTT hgs ((Ext.refl wn).alloc' _) ((((((Ext.refl W).alloc' _).alloc' _).drew').trans' hxn).alloc' _) (Blk.new' wn 149 _ (g:=wn.heap.size) (by simp)) (((Blk.new' (W.alloc _) 3 mi (g:=W.heap.size+1) (by simp)).drew.ext hxn).alloc _) ((((Blk.new' W 85 mv (g:=W.heap.size) (by simp)).alloc _).drew.ext hxn).alloc _) (by omega) (by omega) (by omega) (by omega) (by omega) (by omega) (by omega) (by omega) (by omega)
   | exact iO (gl:=W.heap.size) (gf:=wn.heap.size) (gw:=wn.heap.size+1) hMI hMV hTT hgs (((Ext.refl wn).alloc' _).alloc' _) ((((((Ext.refl W).alloc' _).drew').trans' hxn).alloc' _).alloc' _) (Blk.new' (wn.alloc _) 149 _ (g:=wn.heap.size+1) (by simp)) ((((Blk.new' W 3 mi (g:=W.heap.size) (by simp)).drew.ext hxn).alloc _).alloc _) ((Blk.new' wn 85 mv (g:=wn.heap.size) (by simp)).alloc _) (by omega) (by omega) (by omega) (by omega) (by omega) (by omega) (by omega) (by omega) (by omega)
   | exact iO (gl:=wn.heap.size) (gf:=W.heap.size) (gw:=wn.heap.size+1) hMI hMV hTT hgs (((Ext.refl wn).alloc' _).alloc' _) ((((((Ext.refl W).alloc' _).drew').trans' hxn).alloc' _).alloc' _) (Blk.new' (wn.alloc _) 149 _ (g:=wn.heap.size+1) (by simp)) ((Blk.new' wn 3 mi (g:=wn.heap.size) (by simp)).alloc _) ((((Blk.new' W 85 mv (g:=W.heap.size) (by simp)).drew.ext hxn).alloc _).alloc _) (by omega) (by omega) (by omega) (by omega) (by omega) (by omega) (by omega) (by omega) (by omega)
   | exact iO (gl:=wn.heap.size) (gf:=wn.heap.size+1) (gw:=wn.heap.size+1+1) hMI hMV hTT hgs ((((Ext.refl wn).alloc' _).alloc' _).alloc' _) ((((((Ext.refl W).drew').trans' hxn).alloc' _).alloc' _).alloc' _) (Blk.new' ((wn.alloc _).alloc _) 149 _ (g:=wn.heap.size+1+1) (by simp)) (((Blk.new' wn 3 mi (g:=wn.heap.size) (by simp)).alloc _).alloc _) ((Blk.new' (wn.alloc _) 85 mv (g:=wn.heap.size+1) (by simp)).alloc _) (by omega) (by omega) (by omega) (by omega) (by omega) (by omega) (by omega) (by omega) (by omega)
   | exact iO (gl:=wn.heap.size+1) (gf:=wn.heap.size) (gw:=wn.heap.size+1+1) hMI hMV hTT hgs ((((Ext.refl wn).alloc' _).alloc' _).alloc' _) ((((((Ext.refl W).drew').trans' hxn).alloc' _).alloc' _).alloc' _) (Blk.new' ((wn.alloc _).alloc _) 149 _ (g:=wn.heap.size+1+1) (by simp)) ((Blk.new' (wn.alloc _) 3 mi (g:=wn.heap.size+1) (by simp)).alloc _) (((Blk.new' wn 85 mv (g:=wn.heap.size) (by simp)).alloc _).alloc _) (by omega) (by omega) (by omega) (by omega) (by omega) (by omega) (by omega) (by omega) (by omega)
 case rest =>
  obtain ⟨gw,gs,gl,gf,rfl,hA⟩:=hcut;have HA:=aV4 hA;have b1:=(HB0.out.ext hA.ext).cell' (u:=.slice An t.length cn) 0 rfl;have HP1:=aV4 (show ∀ b,P b->b<W.heap.size from fun b hb=>Nat.lt_of_lt_of_le (HP.out b hb) HE0.out.size);clear hA hmki hmkv b0 HNS;go_wp2_with fail;go_loopw [24] (fun i wr=>aAo t (.slice An t.length cn) P W gw gs gl gf i wr) (fun i _=>t.length - (intOf i).toNat)
  case atStart=>exact ⟨0,_,Nat.zero_le _,rfl,HA.out,rfl,by intro x hx;rw [List.eq_of_mem_replicate hx];unfold I64;omega⟩
  case round =>
   obtain ⟨k,ls,hk,rfl,hA,hL,hI⟩:=hrel;have HA1:=aV4 hA;have HL:=aV4 hL;have HI:=aV4 hI
   by_cases hlt:k<t.length
   ·have hkk:(k:Int)<(t.length:Int):=by omega
    have b2:wr.cell? ⟨w.heap.size,0,none⟩=some (.slice An t.length cn):=(HB0.out.ext hA.ext).cell' (u:=.slice An t.length cn) 0 rfl;obtain ⟨b,off,a,rfl,hPb,hx,hn⟩:=hA.nodes.get hlt;have hcheck:=HG.out.at_ hlt;have hlenok:=kC HG.out k hlt;have hfew:=fE HG.out hlt;have HNL:=aV4 (iN HG.out hlt hL hA.llen);obtain ⟨x,hxd⟩:∃ x,x=t.getD k default:=⟨_,rfl⟩;have HXD:=aV4 hxd;have HFS:=aV4 (show dZ (aT t) (eH t k) (t.getD k default)=dZ (aT t) (eH t k) x by rw [hxd]);rw [<- hxd] at hx hn hfew;have HLK:=aV4 hlenok;have hok:dP k x:=hxd ▸ hcheck.node;have HOK:=aV4 hok;have HCK:=aV4 hcheck;have HN:=aV4 hn;have HX:=aV4 hx;have HPB:=aV4 hPb;have hll:=hA.llen;have HNO:=aV4 (show dP ls.length x from ⟨hok.kind,hok.unused,fun z hz=>by have:=hok.kids z hz;omega,hok.choice,hok.seq,hok.bind,hok.inc,hok.valid,hok.numbers⟩)
    have HPL:=aV4 (show ∀ W,Blk W gl 3 (mP ls)->cC W b (off+k*12) x a->NAt W P x a->Calls Tryz.prog 96 #[.pointer (some ⟨b,off+k*12,none⟩),.slice (some ⟨gl,0,none⟩) t.length t.length] W fun e w'=>e=.returned (.int .i64 (fQ ls x))∧W=w' from fun W h1 h2 h3=>by
     have h4:=bT.of_blk h1 hI (by omega);rw [hll] at h4;exact lB ls x a b (off+k*12) P _ _ W h2 h3 h4 HNO.out)
    have hkd:=hok.kind;have k1:=hA.box.cell' (u:=.slice (some ⟨gl,0,none⟩) t.length t.length) 1 rfl;have g1:=hA.lens.cell' k (kQ (l:=ls) (by omega));have f1:=hA.lens.frozen k;have m1:¬ gw=gl:=hA.n1;have HLR:=aV4 (show fQ ls x=fQ ls (t.getD k default) by rw [hxd]);clear hA hL hI hPb hx hn hcheck hlenok hxd hok hll b1;generalize ls.getD k 0=z0 at *;obtain ⟨lr,hlr⟩:∃ lr,lr=fQ ls x:=⟨_,rfl⟩;rw [<- hlr] at HPL HLR;have HLRX:=aV4 hlr;clear hlr;go_upto_region 6 with fail
    go_region_held3 (fun w'=>w'.cell? ⟨gw,1,none⟩=some (.slice (some ⟨gl,0,none⟩) t.length t.length))
     (first
      | exact fY (w:=wr) m1 k1
      | exact k1
      | go_keep)
     (first
      | (go_at_call 96;refine (HPL.out _ (HA1.out.lens.ext (Ext.refl _).drew') (HN.out.ext (Ext.refl _).drew') (HX.out.ext (Ext.refl _).drew')).mono ?_;rintro e w' ⟨rfl,rfl⟩))
    go_upto_region 7 with fail;have HA2:=aV4 ((HA1.out.setLen HP1.out k lr).ext_ (Ext.refl _).drew');have hkeep:aD P wr (wr.setCell ⟨gl,k,none⟩ (.int .i64 lr)).drew:=aD.set (fun _ _ _=>rfl) _ (fun h=>by have h1:=HP1.out _ h;have h2:=HA1.out.bl;simp at h1;omega);have HX2:=aV4 (HX.out.carry hkeep (fun _ _ h=>h));have HN2:=aV4 (HN.out.keep HPB.out hkeep);have hb25:(wr.setCell ⟨gl,k,none⟩ (.int .i64 lr)).drew.cell? ⟨w.heap.size,0,none⟩=some (.slice (some ⟨b,off,none⟩) t.length cn):=(HB0.out.ext HA2.out.ext).cell' 0 rfl;clear hkeep k1 g1 f1 m1 HPL b2;generalize (wr.setCell ⟨gl,k,none⟩ (.int .i64 lr)).drew=W1 at *;have hll:=HA1.out.llen;have k1:=HA2.out.box.cell' (u:=.slice (some ⟨gl,0,none⟩) t.length t.length) 1 rfl;have k2:=HA2.out.box.cell' (u:=.slice (some ⟨gf,0,none⟩) t.length t.length) 2 rfl;have g1:W1.cell? ⟨gl,k,none⟩=some (.int .i64 lr):=HA2.out.lens.cell' k (by rw [kQ (by simp;omega)];simp [List.getD,hll,hlt]);have HLL:=aV4 hll;clear hll
    by_cases h0:0<lr
    ·have t0:decide (0<lr)=true:=aV7 h0
     have HN0:=aV4 (xY HG.out hlt HLL.out HL.out HI.out HLR.out HA2.out h0);go_wp2_with fail;go_roundw
     case rel=>exact HN0.out
     case measure=>simp [intOf];omega
    ·have t0:decide (0<lr)=false:=aV8 h0
     have hz:(aT t).getD k 0=0:=by
      have h1:=HNL.out.1;have h2:=HLK.out.bd.1;rw [<- HLR.out] at h1;omega
     have HZL:=aV4 hz;clear hz h0;have c0:=HN2.out.c0;have c7:=HN2.out.c7;obtain ⟨⟨y0,q0⟩,⟨y1,q1⟩,⟨y2,q2⟩,⟨y3,q3⟩,f0,f1,f2,f3⟩:=HA2.out.place hlt
     have HFX:=aV4 (show dZ (aT t) (eH t k) x=if x.kind=0 then x.value else if x.kind=3 then cE x.name (x.kids.map (fun z=>(eH t k).getD z.toNat default)) else if x.kind=4 then (eH t k).getD (x.kids.getD 1 0).toNat default else default by
      unfold dZ;rw [gY (by omega),if_neg (by rw [HZL.out];omega)])
     have np1:¬ gw=gf:=HA2.out.n2
     by_cases e0:x.kind=0
     ·have te0:(x.kind == 0)=true:=aV6 e0
      have c8:=HN2.out.c8;have c9:=HN2.out.c9;have c10:=HN2.out.c10;have c11:=HN2.out.c11;have hbg:¬ b=gf:=fun e=>by have h1:=HP1.out _ HPB.out;have h2:=HA2.out.bf;omega
      have HVV:=aV4 (HX2.out.value.carry (Q:=fun b=>(P b∨W.heap.size<=b)∧b ≠ gl∧b ≠ gf) (fun _ _ _=>rfl) (fun b _ h=>⟨.inl h,by have h1:=HP1.out _ h;have h2:=HA2.out.bl;omega,by have h1:=HP1.out _ h;have h2:=HA2.out.bf;omega⟩));have HR:=aV4 (rV HG.out hlt HLL.out HL.out HI.out HLR.out HA2.out HP1.out HVV.out.rv (by rw [HFS.out,HFX.out,if_pos e0]));clear e0 c7;generalize x.value=xv at *;go_wp2_with fail
      go_region_held3 (fun w'=>w'.cell? ⟨gw,2,none⟩=some (.slice (some ⟨gf,0,none⟩) t.length t.length)∧w'.cell? ⟨b,off+k*12+8,none⟩=some (.int .i64 xv.kind)∧w'.cell? ⟨b,off+k*12+9,none⟩=some (.int .i64 xv.n)∧w'.cell? ⟨b,off+k*12+10,none⟩=some (.string xv.s)∧w'.cell? ⟨b,off+k*12+11,none⟩=some (.slice a.xA xv.kids.length a.xc))
       (first
        | with_reducible exact ⟨eC np1 k2,eC hbg c8,eC hbg c9,eC hbg c10,eC hbg c11⟩
        | with_reducible exact ⟨fX np1 k2,fX hbg c8,fX hbg c9,fX hbg c10,fX hbg c11⟩
        | go_keep)
       (first
        | fail)
      go_wp2_with fail;go_roundw
      case rel=>exact HR.out
      case measure=>simp [intOf];omega
     have te0:(x.kind == 0)=false:=aV5 e0
     by_cases e3:x.kind=3
     ·have te3:(x.kind == 3)=true:=aV6 e3
      have hm:x.kids.length<=100000:=by have:=hfew.1;omega
      have hmk3:=fun W=>HMK.out x.kids.length W hm
      have lb:=HN2.out.lt;have lw:=HA2.out.box.lt;obtain ⟨hkl1,hkl2⟩:=HX2.out.kids.le;have HKV:=aV4 HX2.out.kids;have HKI:=aV4 HOK.out.kids;have HFX3:=aV4 (show dZ (aT t) (eH t k) (t.getD k default)=cE x.name (x.kids.map (fun z=>(eH t k).getD z.toNat default)) by rw [HFS.out,HFX.out,if_neg e0,if_pos e3]);have hsz:=size_madeCells #[.int .i64 0,.int .i64 0,.string ByteArray.empty,.slice none 0 0] (x.kids.length*4);generalize madeCells #[.int .i64 0,.int .i64 0,.string ByteArray.empty,.slice none 0 0] (x.kids.length*4)=mk at *;have HMS:=aV4 hsz;clear hsz e0 e3 HFX q0 q1 q2 q3 f0 f1 f2 f3;generalize a.kA=Ak at *;generalize a.kc=kc at *;go_wp2_with fail;clear k1 g1;have HE3:=aV4 ((Ext.refl W1).alloc' (.cells mk 85));have HBK:=aV4 (Blk.new W1 85 mk);have HA3:=aV4 (HA2.out.ext_ HE3.out);have hgk:W1.heap.size<(W1.alloc (.cells mk 85)).heap.size:=by simp
      have HGK:=aV4 hgk;clear hgk;generalize W1.alloc (.cells mk 85)=W3 at *;have HLF:=aV4 (show (x.kids.map (fun z=>(eH t k).getD z.toNat default)).length=x.kids.length by simp);obtain ⟨lf,hlf⟩:∃ lf,lf=x.kids.map (fun z=>(eH t k).getD z.toNat default):=⟨_,rfl⟩;rw [<- hlf] at HLF HFX3;have HLX:=aV4 hlf;clear hlf hmk3;go_loopw [80] (fun i wq=>aSv lf (fun b=>((P b∨W.heap.size<=b)∧b ≠ gl∧b ≠ gf)∧b ≠ W1.heap.size) W1.heap.size W3 i wq) (fun i _=>x.kids.length - (intOf i).toNat)
      case atStart=>exact ⟨0,mk.toList,Nat.zero_le _,rfl,by simpa using HBK.out,by rw [HLF.out];simpa using HMS.out,by simp [RVs],Fr.refl _ _⟩
      case round =>
       obtain ⟨j,cs,hj,rfl,hB,hcl,hR,hF⟩:=hrel;have HB:=aV4 hB;have HCL:=aV4 hcl;have HR:=aV4 hR;have HF:=aV4 hF;have HF1:=aV4 ((Fr.of_ext (M:=fun b=>b=W1.heap.size) HE3.out).trans hF);have hlfl:=HLF.out;have hjk:j<=x.kids.length:=by omega
       have HLFL:=aV4 hlfl;clear hB hcl hR hF hlfl hj
       by_cases hlj:j<x.kids.length
       ·have hki:¬ (fun b=>b=W1.heap.size) b:=fun e=>by have h1:=HN2.out.lt;have e':_=W1.heap.size:=e;omega
        obtain ⟨b3,o3,rfl,hpb3,-,g3⟩:=HKV.out.get hlj;have g3':=bG HF1.out (fun e=>by have h1:=aP g3;have e':_=W1.heap.size:=e;omega) g3;have hz:=HKI.out _ (aG (d:=0) hlj);have HZE:=aV4 (show lf.getD j default=(eH t k).getD (x.kids.getD j 0).toNat default by rw [HLX.out];simp [List.getD,hlj]);generalize x.kids.getD j 0=z at *;have hzt:z.toNat<t.length:=by omega
        obtain ⟨A4,d4,hv4,p0,p1,p2,p3⟩:=HA2.out.getFix hzt;have HZF:=aV4 (show lf.getD j default=(oK t k).getD z.toNat default by rw [HZE.out,zU (by omega) (by omega)]);have ngf:¬ (fun b=>b=W1.heap.size) gf:=fun e=>by have h1:=aP p0;have e':_=W1.heap.size:=e;omega
        have ngw:¬ (fun b=>b=W1.heap.size) gw:=fun e=>by have h1:=HA2.out.box.lt;have e':_=W1.heap.size:=e;omega
        have p0':=bG HF1.out ngf p0;have p1':=bG HF1.out ngf p1;have p2':=bG HF1.out ngf p2;have p3':=bG HF1.out ngf p3;have r2':=bG HF1.out ngw k2;have HV4:=aV4 (hv4.carry (Q:=fun b=>((P b∨W.heap.size<=b)∧b ≠ gl∧b ≠ gf)∧b ≠ W1.heap.size) (fun b hb _=>HF1.out.block b hb (fun e=>by omega)) (fun b hb h=>⟨h,by omega⟩));have hzi:z<(t.length:Int):=by omega
        have hcl:=HCL.out;have hll:=HLFL.out;obtain ⟨s0,u0⟩:=HB.out.some_ (i:=j*4) (by omega);obtain ⟨s1,u1⟩:=HB.out.some_ (i:=j*4+1) (by omega);obtain ⟨s2,u2⟩:=HB.out.some_ (i:=j*4+2) (by omega);obtain ⟨s3,u3⟩:=HB.out.some_ (i:=j*4+3) (by omega);have v0:=HB.out.frozen (j*4);have v1:=HB.out.frozen (j*4+1);have v2:=HB.out.frozen (j*4+2);have v3:=HB.out.frozen (j*4+3);generalize (oK t k).getD z.toNat default=yv at *;have hjj:(j:Int)<(x.kids.length:Int):=by omega
        clear hcl hll p0 p1 p2 p3 hv4 g3 hki hpb3 ngf ngw;go_wp2_with fail;go_roundw
        case rel=>exact aN1 (us:=cellsOf yv A4 d4) (fun h=>h.2 rfl) (by rw [HLFL.out];exact hlj) HB.out HCL.out HR.out HF.out (by rw [HZF.out];exact HV4.out.rv)
        case measure=>simp [intOf];omega
       ·obtain rfl:j=x.kids.length:=by omega
        have hcl:=HCL.out;have hll:=HLFL.out
        have HVK:=aV4 (show cB wr (fun b=>(P b∨W.heap.size<=b)∧b ≠ gl∧b ≠ gf) (.slice (some ⟨W1.heap.size,0,none⟩) lf.length x.kids.length) lf from
         oT (P:=fun b=>((P b∨W.heap.size<=b)∧b ≠ gl∧b ≠ gf)∧b ≠ W1.heap.size) HB.out (by have h:=HR.out;rw [List.take_of_length_le (by omega),List.take_of_length_le (by omega)] at h;exact h) hll (by omega) ⟨.inr (by have:=HA2.out.ext.size;omega),by have:=HA2.out.lens.lt;omega,by obtain ⟨cs',hb',_⟩:=HA2.out.fix;have:=hb'.lt;omega⟩ (fun b h=>h.1))
        have HNQ:=aV4 (show cC wr b (off+k*12) x a from fun i u hu=>bG HF1.out (fun e=>by have h1:=HN2.out.lt;have e':_=W1.heap.size:=e;omega) (HN2.out i u hu))
        have HMD:=aV4 (show ∀ W',Ext wr W'->Calls Tryz.prog 97 #[.pointer (some ⟨b,off+k*12,none⟩),.slice (some ⟨W1.heap.size,0,none⟩) x.kids.length x.kids.length] W' fun e w'=>e=.returned (eI (cE x.name lf) (some ⟨W1.heap.size,0,none⟩) x.kids.length)∧Ext W' w' from fun W' h=>by
         have h1:=jZ x a b (off+k*12) lf (some ⟨W1.heap.size,0,none⟩) x.kids.length W' (HNQ.out.ext h);rw [hll] at h1;exact h1)
        have HVM:=aV4 (VAt.made HX2.out.name HVK.out);have r2':=bG HF1.out (fun e=>by have h1:=HA2.out.box.lt;have e':_=W1.heap.size:=e;omega) k2;have HEQ:=aV4 (show Ext W wr from (((Fr.of_ext (M:=fun b=>W.heap.size<=b) HA2.out.ext).trans (HF1.out.mono (fun b e=>by have:=HA2.out.ext.size;omega))).new_ext (fun b hb=>hb)));have HAQ:=aV4 (HA2.out.frNew HF1.out);obtain ⟨⟨y0,q0⟩,⟨y1,q1⟩,⟨y2,q2⟩,⟨y3,q3⟩,f0,f1,f2,f3⟩:=HAQ.out.place hlt;clear hcl hll k2;generalize cE x.name lf=ym at *;go_wp2_with fail;have lgf:=aP q0
        go_region_held3 (fun w'=>w'.cell? ⟨gw,2,none⟩=some (.slice (some ⟨gf,0,none⟩) t.length t.length))
         (first
          | with_reducible exact eC np1 (aB hx6 r2')
          | with_reducible exact fX np1 (aB hx6 r2')
          | exact aB hx6 r2'
          | exact r2'
          | go_keep)
         (first
          | (go_at_call 97;refine (HMD.out _ (Ext.refl _).drew').mono ?_;rintro e w5 ⟨rfl,hx5⟩;have hx6:Ext wr w5:=(Ext.refl wr).drew'.trans' hx5;have z0:=aB hx6 q0;have z1:=aB hx6 q1;have z2:=aB hx6 q2;have z3:=aB hx6 q3;have zf0:=(hx6.frozen (p:=⟨gf,k*4,none⟩) lgf).trans f0;have zf1:=(hx6.frozen (p:=⟨gf,k*4+1,none⟩) lgf).trans f1;have zf2:=(hx6.frozen (p:=⟨gf,k*4+2,none⟩) lgf).trans f2;have zf3:=(hx6.frozen (p:=⟨gf,k*4+3,none⟩) lgf).trans f3))
        have HX6:=aV4 hx6;clear hx5 hx6 z0 z1 z2 z3 zf0 zf1 zf2 zf3 q0 q1 q2 q3 f0 f1 f2 f3 r2';go_wp2_with fail;go_roundw
        case rel=>exact xZ (us:=cellsOf ym (some ⟨W1.heap.size,0,none⟩) x.kids.length) HG.out hlt HLL.out HL.out HI.out HLR.out (HAQ.out.ext_ HX6.out) HP1.out (HVM.out.ext HX6.out).rv HFX3.out
        case measure=>simp [intOf];omega
     have te3:(x.kind == 3)=false:=aV5 e3
     have e4:x.kind=4:=by
      have l1:=HLK.out.range;have l2:=HLK.out.choice;rw [<- HXD.out] at l1 l2;have hzz:=HZL.out;have h1:¬ x.kind=1:=fun e=>by have:=l1 e;omega
      have h2:¬ x.kind=2:=fun e=>by have:=(l2 e).1;omega
      omega
     have te4:(x.kind == 4)=true:=aV6 e4;have HFX4:=aV4 (show dZ (aT t) (eH t k) (t.getD k default)=(eH t k).getD (x.kids.getD 1 0).toNat default by rw [HFS.out,HFX.out,if_neg e0,if_neg e3,if_pos e4]);have hb4:=HOK.out.bind e4;have hv4:=hfew.2.2 e4;have h1l:1<x.kids.length:=by omega
     obtain ⟨hkl1,hkl2⟩:=HX2.out.kids.le;obtain ⟨b3,o3,e3b,hpb3,-,g3⟩:=HX2.out.kids.get h1l;rw [e3b] at c7;have hz:=HOK.out.kids _ (aG (d:=0) h1l);generalize x.kids.getD 1 0=z at *;have hzt:z.toNat<t.length:=by omega
     obtain ⟨A4,d4,hvv4,p0,p1,p2,p3⟩:=HA2.out.getFix hzt;have HZF:=aV4 (show dZ (aT t) (eH t k) (t.getD k default)=(oK t k).getD z.toNat default by rw [HFX4.out,zU (by omega) (by omega)]);have HR:=aV4 (rV HG.out hlt HLL.out HL.out HI.out HLR.out HA2.out HP1.out hvv4.rv HZF.out);have HZK:=aV4 (show ¬ z.toNat=k by omega);generalize (oK t k).getD z.toNat default=yv at *;have hzi:z<(t.length:Int):=by omega
     have h1i:(1:Int)<(x.kids.length:Int):=by omega
     have hbg:¬ b=gf:=fun e=>by have h1:=HP1.out _ HPB.out;have h2:=HA2.out.bf;omega
     have hbg3:¬ b3=gf:=fun e=>by have h1:=HP1.out _ hpb3;have h2:=HA2.out.bf;omega
     clear hvv4 e0 e3 e4 hb4 hv4 HFX HFX4 e3b;go_wp2_with fail
     go_region_held3 (fun w'=>w'.cell? ⟨gw,2,none⟩=some (.slice (some ⟨gf,0,none⟩) t.length t.length)∧w'.cell? ⟨b,off+k*12+7,none⟩=some (.slice (some ⟨b3,o3,none⟩) x.kids.length a.kc)∧w'.cell? ⟨b3,o3+1,none⟩=some (.int .i64 z) ∧
       w'.cell? ⟨gf,z.toNat*4,none⟩=some (.int .i64 yv.kind)∧w'.cell? ⟨gf,z.toNat*4+1,none⟩=some (.int .i64 yv.n)∧w'.cell? ⟨gf,z.toNat*4+2,none⟩=some (.string yv.s)∧w'.cell? ⟨gf,z.toNat*4+3,none⟩=some (.slice A4 yv.kids.length d4))
      (first
       | with_reducible exact ⟨eC np1 k2,eC hbg c7,eC hbg3 g3,kW HZK.out p0 0 (by decide) rfl,kW HZK.out p1 1 (by decide) rfl,kW HZK.out p2 2 (by decide) rfl,kW HZK.out p3 3 (by decide) rfl⟩
       | go_keep)
      (first
       | fail)
     go_wp2_with fail;go_roundw
     case rel=>exact HR.out
     case measure=>simp [intOf];omega
   ·obtain rfl:k=t.length:=by omega
    clear hA hL hI;go_wp2_with fail;go_ret;exact aGa HE0.out HA1.out HL.out (by omega)
structure FA where
 w:Nat
 s:Nat
 l:Nat
 f:Nat
 p:Nat
 b:Nat
 a:Nat
 g:Nat
 X:Nat->Prop
def FA.M (g:FA):Nat->Prop:=fun b=>b=g.a∨b=g.g
def FA.Q (g:FA):Nat->Prop:=fun b=>¬ g.M b∧¬ g.X b
structure aCa (t:List GN)(path:List Int)(vn vp:Value)(g:FA)(w:World):Prop where
 walk:kG t vn g.w g.s g.l g.f g.Q w
 pbox:w.cell? ⟨g.p,0,none⟩=some vp
 wbox:w.cell? ⟨g.b,0,none⟩=some (.pointer (some ⟨g.w,0,none⟩))
 path:bT w g.Q vp path
 pp:g.Q g.p
 pb:g.Q g.b
 ne:g.a ≠ g.g
 xlt:∀ b,g.X b->b<w.heap.size
def FSt (g:FA)(at_:Int)(good:Bool)(w:World):Prop:=Blk w g.a 3 #[.int .i64 at_]∧Blk w g.g 4 #[.bool good]
section
variable {t:List GN}{path:List Int}{vn vp:Value}{g:FA}{w w':World}
theorem aCa.fr (h:aCa t path vn vp g w)(hf:Fr g.M w w'):aCa t path vn vp g w':=by
 have hk:aD g.Q w w':=aD.of_fr hf (fun b h=>h.1);exact ⟨h.walk.carry hk (fun _ _ h=>h),bG hf h.pp.1 h.pbox,bG hf h.pb.1 h.wbox,h.path.carry hk (fun _ _ h=>h),h.pp,h.pb,h.ne,fun b hb=>Nat.lt_of_lt_of_le (h.xlt b hb) hf.size⟩
theorem aCa.ext (h:aCa t path vn vp g w)(hx:Ext w w'):aCa t path vn vp g w':=h.fr (Fr.of_ext hx)
def FA.more (g:FA)(lo hi:Nat):FA:=⟨g.w,g.s,g.l,g.f,g.p,g.b,g.a,g.g,fun b=>g.X b∨(lo<=b∧b<hi)⟩
theorem aCa.more (h:aCa t path vn vp g w)(hf:Fr g.M w w'):aCa t path vn vp (g.more w.heap.size w'.heap.size) w':=by
 have hQ:∀ b,b<w.heap.size->g.Q b->(g.more w.heap.size w'.heap.size).Q b:=fun b hb hq=>⟨hq.1,fun hx=>hx.elim hq.2 (fun e=>by omega)⟩
 have hk:aD g.Q w w':=aD.of_fr hf (fun b h=>h.1);exact ⟨h.walk.carry hk hQ,bG hf h.pp.1 h.pbox,bG hf h.pb.1 h.wbox,h.path.carry hk hQ,hQ _ (aP h.pbox) h.pp,hQ _ (aP h.wbox) h.pb,h.ne,fun b hb=>hb.elim (fun h'=>Nat.lt_of_lt_of_le (h.xlt b h') hf.size) (fun e=>e.2)⟩
theorem FSt.ext {at_:Int}{good:Bool}(h:FSt g at_ good w)(hx:Ext w w'):FSt g at_ good w':=⟨h.1.ext hx,h.2.ext hx⟩
end
def aSi (g:FA)(r:Int × Int × Bool)(w:World)(e:Ending)(w':World):Prop:=e=.returned (.int .i64 r.1)∧Fr g.M w w'∧FSt g r.2.1 r.2.2 w'
theorem aB1 (t:List GN)(path:List Int)(vn vp:Value)(g:FA)(i:Nat)(at_:Int)(good:Bool)(w:World)(hE:aCa t path vn vp g w)(hS:FSt g at_ good w)(hi:i<t.length)(h0:0<=at_)(h1:at_<=path.length)(_:path.length<=1000000)(_:t.length<=100000) :
  Calls Tryz.prog 146 #[.int .i64 i,.pointer (some ⟨g.a,0,none⟩),.pointer (some ⟨g.p,0,none⟩),.pointer (some ⟨g.b,0,none⟩),.pointer (some ⟨g.g,0,none⟩)] w (aSi g (cJ path (t.getD i default) at_ good) w):=by
 obtain ⟨n,rfl⟩:∃ n:Nat,at_=(n:Int):=⟨at_.toNat,by omega⟩;have HE:=aV4 hE;have HS:=aV4 hS;have HCH:=aV4 (show cJ path (t.getD i default) n good=if (path.length:Int)<=(n:Int)∨path.getD n 0<0∨bE (t.getD i default)<=path.getD n 0 then (0,(n:Int),false) else (path.getD n 0,(n:Int)+1,good) by unfold cJ;rw [Int.toNat_natCast]);have ca:=hS.1.cell' (u:=.int .i64 n) 0 rfl;have fa:=hS.1.frozen 0;have cg:=hS.2.cell' (u:=.bool good) 0 rfl;have fg:=hS.2.frozen 0;have cp:=hE.pbox;have cb:=hE.wbox;have cw:=hE.walk.box.cell' (u:=.pointer (some ⟨g.s,0,none⟩)) 0 rfl;have cs:=hE.walk.sets;obtain ⟨Ap,dp,ep,hp1,hp2⟩:=hE.path.form;subst ep;obtain ⟨An,dn,en,hn1,hn2⟩:=hE.walk.nodes.form;subst en;have HPA:=aV4 hE.path;have HND:=aV4 hE.walk.nodes;have HNE:=aV4 hE.ne;have hne:¬ g.g=g.a:=fun e=>hE.ne e.symm
 have hpa:¬ g.p=g.a:=fun e=>hE.pp.1 (.inl e)
 have hpg:¬ g.p=g.g:=fun e=>hE.pp.1 (.inr e)
 clear hE hS h0
 by_cases hlt:n<path.length
 ·obtain ⟨bp,op,rfl,hqp,-,gp⟩:=HPA.out.get hlt
  have hbpa:¬ bp=g.a:=fun e=>hqp.1 (.inl e)
  generalize hc:path.getD n 0=c at *;clear hc;have t1:decide ((path.length:Int)<=(n:Int))=false:=aV8 (by omega);have t1':decide (path.length<=n)=false:=aV8 (by omega);have hq1:(n:Int)<(path.length:Int):=by omega
  have hq0:(0:Int)<=(n:Int):=by omega
  by_cases hc0:c<0
  ·have t2:decide (c<0)=true:=aV7 hc0
   have HF:=aV4 (HCH.out.trans (if_pos (.inr (.inl hc0))));go_enter Tryz.func146,Tryz.ntmps146;go_wp2_with fail;go_quiet (fail);go_wp2_with fail;go_ret;rw [HF.out];exact ⟨rfl,((Fr.refl g.M w).setCell (p:=⟨g.g,0,none⟩) (.inl (.inr rfl)) _).drewN _,(HS.out.1.far (p:=⟨g.g,0,none⟩) HNE.out _).drewN _,(HS.out.2.set_ 0 _).drewN _⟩
  ·have t2:decide (c<0)=false:=aV8 hc0
   obtain ⟨bn,on,a,rfl,hqn,hx,hn⟩:=HND.out.get hi;have HN:=aV4 hn;have hii:(i:Int)<(t.length:Int):=by omega
   have hi0:(0:Int)<=(i:Int):=by omega
   have HOP:=aV4 (pL (t.getD i default) a bn (on+i*12));generalize t.getD i default=x at *
   by_cases hop:bE x<=c
   ·have HF:=aV4 (HCH.out.trans (if_pos (.inr (.inr hop))))
    generalize bE x=ov at *;have t3:decide (ov<=c)=true:=aV7 hop;clear hx hn;go_enter Tryz.func146,Tryz.ntmps146;go_wp2_with fail;go_quiet ((go_at_call 147;exact Calls.quiet_of (HOP.out _ (HN.out.ext (by first | exact Ext.refl _ | exact (Ext.refl _).drewN' _ | exact (Ext.refl _).drew')))));go_wp2_with fail;go_ret;rw [HF.out];exact ⟨rfl,((Fr.refl g.M w).setCell (p:=⟨g.g,0,none⟩) (.inl (.inr rfl)) _).drewN _,(HS.out.1.far (p:=⟨g.g,0,none⟩) HNE.out _).drewN _,(HS.out.2.set_ 0 _).drewN _⟩
   ·have HF:=aV4 (HCH.out.trans (if_neg (fun h=>h.elim (fun h=>by omega) (fun h=>h.elim hc0 hop))))
    generalize bE x=ov at *;have t3:decide (ov<=c)=false:=aV8 hop;clear hx hn;go_enter Tryz.func146,Tryz.ntmps146;go_wp2_with fail;go_quiet ((go_at_call 147;exact Calls.quiet_of (HOP.out _ (HN.out.ext (by first | exact Ext.refl _ | exact (Ext.refl _).drewN' _ | exact (Ext.refl _).drew')))));go_wp2_with fail;go_ret;rw [HF.out];exact ⟨rfl,((Fr.refl g.M w).setCell (p:=⟨g.a,0,none⟩) (.inl (.inl rfl)) _).drewN _,(HS.out.1.set_ 0 _).drewN _,(HS.out.2.far (p:=⟨g.a,0,none⟩) (fun e=>HNE.out e.symm) _).drewN _⟩
 ·have t1:decide ((path.length:Int)<=(n:Int))=true:=aV7 (by omega)
  have t1':decide (path.length<=n)=true:=aV7 (by omega);have HF:=aV4 (HCH.out.trans (if_pos (.inl (by omega))));go_enter Tryz.func146,Tryz.ntmps146;go_wp2_with fail;go_quiet (fail);go_wp2_with fail;go_ret;rw [HF.out];exact ⟨rfl,((Fr.refl g.M w).setCell (p:=⟨g.g,0,none⟩) (.inl (.inr rfl)) _).drewN _,(HS.out.1.far (p:=⟨g.g,0,none⟩) HNE.out _).drewN _,(HS.out.2.set_ 0 _).drewN _⟩
end Go.Proofs.YtkoeecdjijfjnaaGreat
