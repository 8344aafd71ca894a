/- Contracts and laws. Conditions: none. -/
import Derived.Test.YtkoeecdjijfjnaaGreatDoorPlM
set_option linter.all false
set_option maxRecDepth 100000
set_option maxHeartbeats 8000000
namespace Go.Proofs.YtkoeecdjijfjnaaGreatDoor
open Go.RowKit
def oz (t:List GN)(p:List Int):Prop:=0<=(bP t p).stop
def mf (t:List GN)(raw p:List Int):Int :=
 if p.length<raw then (if 0<(if aP (t.getD (bP t p).stop.toNat default) - 1<raw.getD p 0 then aP (t.getD (bP t p).stop.toNat default) - 1 else raw.getD p 0) then (if aP (t.getD (bP t p).stop.toNat default) - 1<raw.getD p 0 then aP (t.getD (bP t p).stop.toNat default) - 1 else raw.getD p 0) else 0) else 0
section
variable {t:List GN}{raw p q:List Int}
theorem CS:p.length<raw->(if 0<(if aP (t.getD (bP t p).stop.toNat default) - 1<raw.getD p 0 then aP (t.getD (bP t p).stop.toNat default) - 1 else raw.getD p 0) then (if aP (t.getD (bP t p).stop.toNat default) - 1<raw.getD p 0 then aP (t.getD (bP t p).stop.toNat default) - 1 else raw.getD p 0) else 0)=mf t raw p:=fun h=>by unfold mf;rw [if_pos h]
theorem I7:¬ p.length<raw->0=mf t raw p:=fun h=>by unfold mf;rw [if_neg h]
def ki (t:List GN)(raw p:List Int):Prop:=∀ j,j<p.length->oz t (p.take j)∧p.getD j 0=mf t raw (p.take j)
theorem ki.snoc {c:Int}(h:ki t raw p)(hs:oz t p)(hc:c=mf t raw p):ki t raw (p ++ [c]):=by
 intro j hj;rw [aa,List.length_singleton] at hj;rcases Nat.lt_or_ge j p.length with h1 | h1
 ·have h2:=h j h1
  rw [List.take_append_of_le_length I];refine ⟨h2.1,?_⟩;rw [<- h2.2];simp [List.getD,List.getElem?_append_left h1]
 ·obtain rfl:j=p:=by omega
  rw [List.take_left];exact ⟨hs,by simp [<- hc]⟩
def tZ (t:List GN)(raw p:List Int)(n:Int):Prop:=(t.length=0∧p=[]∧n=10)∨(0<t.length∧n=0∧ki t raw p∧¬ 0<=(bP t p).stop)
end
def Db (t:List GN)(raw:List Int)(P:Nat->Prop)(w:World)(e:Ending)(w':World):Prop :=
 ∃ (v:Value) (p:List Int) (n:Int),e=.returned (.tuple #[v,↑n])∧bL w' (New P w) v p∧p.length<=256∧Ext w w'∧tZ t raw p n
def Ge (t:List GN)(raw:List Int)(P:Nat->Prop)(W:World)(g:Nat)(v:Value)(wr:World):Prop :=
 ∃ (p:List Int) (A:Option Addr) (c:Nat) (A3:Option Addr) (m c3:Nat),wr.ownsRow W 3 1 v p (p.map (Value.int .i64))∧Blk wr g 146 (cC (bP t p) A c (.slice A3 m c3))∧(∀ x ∈ p,I64 x)∧p.length<=256∧Fr (fun b=>b=g) W wr∧ki t raw p
theorem JP (t:List GN)(raw:List Int)(P:Nat->Prop)(vn vp:Value)(w:World)(hv:bE t=0)(hsm:t.length<=14)(hfew:∀ x ∈ t,x.kind=3->x.kids.length<=5)(ht:Nds w P vn t)(hvp:bL w P vp raw) :
  qg 48 #[.agg #[vn],vp] w (Db t raw P w):=by
 have hgood:=dH.1 hv;have hRD:∀ p:List Int,p.length<=1000000000->RdT t p:=fun p hp=>⟨hgood,hsm,hfew,hp⟩
 have HRD:=aYf hRD
 have hvl:∀ x ∈ t,x.values.length<=1000000000:=by
  intro x hx;obtain ⟨j,hj,e⟩:=List.getElem_of_mem hx;have:=(cJ hgood hj).2.1;have e2:t.getD j default=x:=by rw [<- e];simp [hj]
  rw [e2] at this;omega
 have HVL:=aYf hvl;have HT:=aYf ht;have HVP:=aYf hvp;have HV:=aYf hv;have HG:=aYf hgood;obtain ⟨An,cn,en,hn1,hn2⟩:=ht.form;subst en;obtain ⟨Ap,cp,ep,hp1,hp2⟩:=hvp.form;subst ep;obtain ⟨i3,hi3,hz30,hz31,hz32⟩:=info_parts Tryz.info3;have HI3:=aYf hi3;clear ht hvp hv hRD hfew hvl hgood hi3;go_enter Tryz.func48,Tryz.ntmps48;go_wp2_with fail;have HE:=aYf (show Ext w (w.alloc (qk #[.slice An t cn] 25)) from (aq w).alloc' _);have HBT:=aYf (aw w 25 #[.slice An t cn]);generalize hW:w.alloc (qk #[.slice An t cn] 25)=W0 at *;clear hW;refine (eQ t P _ _ (HT.out.ext HE.out) HVL.out).mono ?_;rintro e w1 ⟨rfl,hx1⟩;rw [HV.out];have HX1:=aYf (HE.out.trans' hx1);have BT1:=aYf (HBT.out.ext hx1);have y0:=BT1.out.cell' (u:=.slice An t cn) 0 rfl;clear hx1;by_cases hne:0<t.length
 ·have hl0:((t:Int) == 0)=false:=aYg I
  go_wp2_with fail;refine (pJ t [] (fun b=>b<w1.heap.size) _ _ _ (HRD.out [] U) hne (fun b hb=>hb) (HT.out.carry (aB.of_ext HX1.out) (fun b hb _=>by have:=HX1.out.size;omega)) ⟨none,0,rfl,U,U,U,⟨rfl,fun h=>absurd h U⟩⟩).mono ?_;rintro e w2 ⟨A2,d2,sv,rfl,-,⟨A3,m3,c3,rfl⟩,hx2⟩;have HX2:=aYf (HX1.out.trans' hx2);have BT2:=aYf (BT1.out.ext hx2);clear hx2 y0;go_wp2_with fail;have HW:=aYf (show Ext w (w2.alloc (qk (cC (bP t []) A2 d2 (.slice A3 m3 c3)) 146)) from HX2.out.alloc' _);have BTW:=aYf (BT2.out.alloc (qk (cC (bP t []) A2 d2 (.slice A3 m3 c3)) 146));have BRW:=aYf (aw w2 146 (cC (bP t []) A2 d2 (.slice A3 m3 c3)));have hlt2:w2.heap.size<(w2.alloc (qk (cC (bP t []) A2 d2 (.slice A3 m3 c3)) 146)):=by simp
  have hbt:=BT2.out.lt;generalize hW:w2.alloc (qk (cC (bP t []) A2 d2 (.slice A3 m3 c3)) 146)=W at *;clear hW;generalize hg:w2.heap.size=g at *;clear hg;go_loopw [7] (fun v wr=>Ge t raw P W g v wr) (fun v _=>300 - lenOf v)
  case atStart=>exact ⟨[],A2,d2,A3,m3,c3,aT _ _ _ _,BRW.out,U,U,au _ _,fun j hj=>by simp at hj⟩
  case round =>
   obtain ⟨p,A4,d4,A5,m5,c5,hown,hB,h64,hpl,hfr,hfn⟩:=hrel;have HFN:=aYf hfn;have HFC1:=aYf (CS (t:=t) (raw:=raw) (p:=p));have HFC0:=aYf (I7 (t:=t) (raw:=raw) (p:=p));have HOWN:=aYf hown;have HB:=aYf hB;have H64:=aYf h64;have HFR:=aYf hfr;obtain ⟨A7,c7,e7,-,-,-⟩:=Sl.of_own hown;subst e7;have r0:=hB.cell' (u:=.int .i64 (bP t p).val.kind) 0 rfl;have r1:=hB.cell' (u:=.int .i64 (bP t p).val.n) 1 rfl;have r2:=hB.cell' (u:=.string (bP t p).val.s) 2 rfl;have r3:=hB.cell' (u:=.slice A4 (bP t p).val.kids.length d4) 3 rfl;have r4:=hB.cell' (u:=.int .i64 (bP t p).used) 4 rfl;have r5:=hB.cell' (u:=.int .i64 (bP t p).stop) 5 rfl;have r6:=hB.cell' (u:=.slice A5 m5 c5) 6 rfl;have f0:=hB.frozen 0;have f1:=hB.frozen 1;have f2:=hB.frozen 2;have f3:=hB.frozen 3;have f4:=hB.frozen 4;have f5:=hB.frozen 5;have f6:=hB.frozen 6;have HEW:=aYf (show Ext w wr from Fr.new_ext ((ar HW.out).trans hfr) (fun b hb=>by omega));clear hown hB h64 hfr hfn;by_cases hst:0<=(bP t p).stop
   ·have HST:=aYf (show oz t p from hst)
    have hstp:=H7 (HRD.out p I) hne hst;generalize hs:(bP t p).stop=s at *;clear hs;obtain ⟨hs1,hs2,hs3⟩:=hstp;obtain ⟨b1,o1,a1,rfl,-,ha1,hc1⟩:=(HT.out.ext HEW.out).get (i:=s.toNat) I;have HN:=aYf (HG.out.at_ (j:=s.toNat) I).node;have cc0:=hc1.c0;have cc1:=hc1.c1;have cc2:=hc1.c2;have cc3:=hc1.c3;have cc4:=hc1.c4;have cc5:=hc1.c5;have cc6:=hc1.c6;have cc7:=hc1.c7;have cc8:=hc1.c8;have cc9:=hc1.c9;have cc10:=hc1.c10;have cc11:=hc1.c11;have hkl1:=ha1.kids.le.2.1;clear hs3 hc1 ha1;generalize t.getD s.toNat default=x at *;have y0:=(BTW.out.fr HFR.out I).cell' (u:=.slice (qt b1 o1) t cn) 0 rfl;have hgw:=HFR.out.size;by_cases hlr:p.length<raw
    ·obtain ⟨bp,op,rfl,-,hi64,gp⟩:=(HVP.out.ext HEW.out).get hlr
     generalize raw.getD p 0=rv at *;have hpl0:(0:Int)<=(p:Int):=by omega
     have hpl1:(p:Int)<(raw:Int):=I;have hopt:=dA HN.out;have hnum:=aZ HN.out.numbers
     have hob:0<=aP x∧aP x<=17592186044416:=by
      rw [hopt];split
      ·omega
      ·omega
     have hopw:IntKind.i64.wrap (aP x - 1)=aP x - 1:=IntWalk.i64_in _ I;clear hopt hnum;go_upto_region 11 with fail
     go_region_held3 (fun w'=>qc w' bp (op+p) rv∧qc w' w 0 (.slice (qt b1 o1) t cn)∧qc w' g 5 s∧qc w' b1 (o1+s.toNat*12) x.kind∧qc w' b1 (o1+s.toNat*12+1) x.name∧qc w' b1 (o1+s.toNat*12+2) x.lo∧qc w' b1 (o1+s.toNat*12+3) x.hi∧qc w' b1 (o1+s.toNat*12+4) (.slice a1.wA x.weights a1.wc)∧qc w' b1 (o1+s.toNat*12+5) (.slice a1.lA x.labels a1.lc)∧qc w' b1 (o1+s.toNat*12+6) (.slice a1.vA x.values a1.vc)∧qc w' b1 (o1+s.toNat*12+7) (.slice a1.kA x.kids a1.kc)∧qc w' b1 (o1+s.toNat*12+8) x.value.kind∧qc w' b1 (o1+s.toNat*12+9) x.value.n∧qc w' b1 (o1+s.toNat*12+10) x.value.s∧qc w' b1 (o1+s.toNat*12+11) (.slice a1.xA x.value.kids a1.xc))
      (first
       | (go_split_ands
          with_reducible exact ⟨aA hx3 ‹_›,aA hx3 ‹_›,aA hx3 ‹_›,aA hx3 ‹_›,aA hx3 ‹_›,aA hx3 ‹_›,aA hx3 ‹_›,aA hx3 ‹_›,aA hx3 ‹_›,aA hx3 ‹_›,aA hx3 ‹_›,aA hx3 ‹_›,aA hx3 ‹_›,aA hx3 ‹_›,aA hx3 ‹_›⟩)
       | go_keep)
      (first
       | (go_at_call 78;refine (lB x a1 _).mono ?_;rintro e w3 ⟨rfl,hx3⟩))
     go_upto_region 12 with fail
     have hmn:I64 (if aP x - 1<rv then aP x - 1 else rv):=by
      unfold I64 at hi64 ⊢;split <;> omega
     clear hopw;generalize (if aP x - 1<rv then aP x - 1 else rv)=mn at *
     have HC64:=aYf (show I64 (if 0<mn then mn else 0) by
      split
      ·exact hmn
      ·exact nA)
     clear hmn;generalize (if 0<mn then mn else 0)=cv at *;have HX3:=aYf ((aq wr).drew'.trans' hx3);clear hx3 gp;have hsz3:=HX3.out.size;have HB3:=aYf (HB.out.ext HX3.out);have BT3:=aYf ((BTW.out.fr HFR.out I).ext HX3.out);clear r0 r1 r2 r3 r4 r5 r6 f0 f1 f2 f3 f4 f5 f6 y0 cc0 cc1 cc2 cc3 cc4 cc5 cc6 cc7 cc8 cc9 cc10 cc11;go_upto_region 13 with (at_builtin;go_must (refine aS _ rfl (.tmp 45) (.tmp 47) 22 dd W 3 i3 _ 1 8 Tryz.underlying22 HI3.out hz30 hz31 hz32 rfl I (.slice A7 p c7) _ _ rfl ((HOWN.out.ext_ HX3.out).alloc _) (fun _=>True) (qp w3) 1 1 [.int .i64 cv] rfl (Sl.new w3 _ _ _ _ rfl) ci I I bh ?_);intro v9 w4 ho4 hf4 hb4);have HO4:=aYf (ho4.len_cast (show p.length+1=(p ++ [cv]).length by simp) (show p.map (Value.int .i64) ++ [.int .i64 cv]=(p ++ [cv]).map (Value.int .i64) by simp));have HOB:=aYf (show ∀ b,(Value.slice A7 p c7).ownBlock=some b->W<=b from fun b hb=>HOWN.out.block_ge hb);have HB4:=aYf ((HB3.out.alloc (qk #[↑cv] 3)).fr hf4 (fun e=>by have:=HOB.out _ e.symm;omega));have BT4:=aYf ((BT3.out.alloc (qk #[↑cv] 3)).fr hf4 (fun e=>by have:=HOB.out _ e.symm;omega))
     have HFR4:=aYf (show Fr (fun b=>b=g) W w4 from (HFR.out.trans (ar (HX3.out.alloc' (qk #[↑cv] 3)))).trans_new (hf4.mono (fun b hb=>.inr (HOB.out b hb.symm))));have HE4:=aYf (show Ext w w4 from Fr.new_ext ((ar HW.out).trans HFR4.out) (fun b hb=>by omega));obtain ⟨A9,c9,e9,-,-,-⟩:=Sl.of_own ho4;subst e9;have H64':=aYf (show ∀ z ∈ p ++ [cv],I64 z from fun z hz=>(ap.1 hz).elim (H64.out z) (fun h=>by rw [List.mem_singleton.1 h];exact HC64.out));have y0:=BT4.out.cell' (u:=.slice (qt b1 o1) t cn) 0 rfl;clear ho4 hf4 hb4;have HRC:=aYf (pJ t (p ++ [cv]) (fun b=>b<w4.heap.size) (.slice (qt b1 o1) t cn) (.slice A9 (p+1) c9) w4 (HRD.out _ bh) hne (fun b hb=>hb) (HT.out.carry (aB.of_ext HE4.out) (fun b hb _=>by have:=HE4.out.size;omega)) (bL.of_own (HO4.out.len_cast rfl rfl) H64'.out bh (fun b hb=>HO4.out.block_lt hb)));go_wp2_with fail;refine HRC.out.mono ?_;rintro e w5 ⟨A6,d6,sv6,rfl,-,⟨A8,m8,c8,rfl⟩,hx5⟩;have HX5:=aYf hx5;have HB5:=aYf (HB4.out.ext hx5);clear hx5 y0;have r0:=HB5.out.cell' (u:=.int .i64 (bP t p).val.kind) 0 rfl;have f0:=HB5.out.frozen 0;have r1:=HB5.out.cell' (u:=.int .i64 (bP t p).val.n) 1 rfl;have f1:=HB5.out.frozen 1;have r2:=HB5.out.cell' (u:=.string (bP t p).val.s) 2 rfl;have f2:=HB5.out.frozen 2;have r3:=HB5.out.cell' (u:=.slice A4 (bP t p).val.kids.length d4) 3 rfl;have f3:=HB5.out.frozen 3;have r4:=HB5.out.cell' (u:=.int .i64 (bP t p).used) 4 rfl;have f4:=HB5.out.frozen 4;have r5:=HB5.out.cell' (u:=.int .i64 (bP t p).stop) 5 rfl;have f5:=HB5.out.frozen 5;have r6:=HB5.out.cell' (u:=.slice A5 m5 c5) 6 rfl;have f6:=HB5.out.frozen 6;go_wp2_with fail;go_roundw
     case rel =>
      refine ⟨p ++ [cv],A6,d6,A8,m8,c8,?_,CB HB5.out _ _ _ _ _ _ _,H64'.out,bh,?_,HFN.out.snoc HST.out (HFC1.out hlr)⟩
      ·exact Cd ((HO4.out.ext_ HX5.out)) (show g<W by omega) (.int .i64 (bP t (p ++ [cv])).val.kind) (.int .i64 (bP t (p ++ [cv])).val.n) (.string (bP t (p ++ [cv])).val.s) (.slice A6 (bP t (p ++ [cv])).val.kids.length d6) (.int .i64 (bP t (p ++ [cv])).used) (.int .i64 (bP t (p ++ [cv])).stop) (.slice A8 m8 c8)
      ·exact AD ((HFR4.out.trans (ar HX5.out))) rfl (.int .i64 (bP t (p ++ [cv])).val.kind) (.int .i64 (bP t (p ++ [cv])).val.n) (.string (bP t (p ++ [cv])).val.s) (.slice A6 (bP t (p ++ [cv])).val.kids.length d6) (.int .i64 (bP t (p ++ [cv])).used) (.int .i64 (bP t (p ++ [cv])).stop) (.slice A8 m8 c8)
     case measure=>simp [lenOf];omega
    ·skip
     have HC64:=aYf (show I64 0 from nA);have HX3:=aYf (aq wr);go_upto_region 12 with fail;have hsz3:=HX3.out.size;have HB3:=aYf (HB.out.ext HX3.out);have BT3:=aYf ((BTW.out.fr HFR.out I).ext HX3.out);clear r0 r1 r2 r3 r4 r5 r6 f0 f1 f2 f3 f4 f5 f6 y0 cc0 cc1 cc2 cc3 cc4 cc5 cc6 cc7 cc8 cc9 cc10 cc11;go_upto_region 13 with (at_builtin;go_must (refine aS _ rfl (.tmp 45) (.tmp 47) 22 dd W 3 i3 _ 1 8 Tryz.underlying22 HI3.out hz30 hz31 hz32 rfl I (.slice A7 p c7) _ _ rfl ((HOWN.out.ext_ HX3.out).alloc _) (fun _=>True) (qp wr) 1 1 [qz] rfl (Sl.new wr _ _ _ _ rfl) ci I I bh ?_);intro v9 w4 ho4 hf4 hb4);have HO4:=aYf (ho4.len_cast (show p.length+1=(p ++ [0]).length by simp) (show p.map (Value.int .i64) ++ [↑qz]=(p ++ [0]).map (Value.int .i64) by simp));have HOB:=aYf (show ∀ b,(Value.slice A7 p c7).ownBlock=some b->W<=b from fun b hb=>HOWN.out.block_ge hb);have HB4:=aYf ((HB3.out.alloc (qk #[qz] 3)).fr hf4 (fun e=>by have:=HOB.out _ e.symm;omega));have BT4:=aYf ((BT3.out.alloc (qk #[qz] 3)).fr hf4 (fun e=>by have:=HOB.out _ e.symm;omega))
     have HFR4:=aYf (show Fr (fun b=>b=g) W w4 from (HFR.out.trans (ar (HX3.out.alloc' (qk #[qz] 3)))).trans_new (hf4.mono (fun b hb=>.inr (HOB.out b hb.symm))));have HE4:=aYf (show Ext w w4 from Fr.new_ext ((ar HW.out).trans HFR4.out) (fun b hb=>by omega));obtain ⟨A9,c9,e9,-,-,-⟩:=Sl.of_own ho4;subst e9;have H64':=aYf (show ∀ z ∈ p ++ [0],I64 z from fun z hz=>(ap.1 hz).elim (H64.out z) (fun h=>by rw [List.mem_singleton.1 h];exact HC64.out));have y0:=BT4.out.cell' (u:=.slice (qt b1 o1) t cn) 0 rfl;clear ho4 hf4 hb4;have HRC:=aYf (pJ t (p ++ [0]) (fun b=>b<w4.heap.size) (.slice (qt b1 o1) t cn) (.slice A9 (p+1) c9) w4 (HRD.out _ bh) hne (fun b hb=>hb) (HT.out.carry (aB.of_ext HE4.out) (fun b hb _=>by have:=HE4.out.size;omega)) (bL.of_own (HO4.out.len_cast rfl rfl) H64'.out bh (fun b hb=>HO4.out.block_lt hb)));go_wp2_with fail;refine HRC.out.mono ?_;rintro e w5 ⟨A6,d6,sv6,rfl,-,⟨A8,m8,c8,rfl⟩,hx5⟩;have HX5:=aYf hx5;have HB5:=aYf (HB4.out.ext hx5);clear hx5 y0;have r0:=HB5.out.cell' (u:=.int .i64 (bP t p).val.kind) 0 rfl;have f0:=HB5.out.frozen 0;have r1:=HB5.out.cell' (u:=.int .i64 (bP t p).val.n) 1 rfl;have f1:=HB5.out.frozen 1;have r2:=HB5.out.cell' (u:=.string (bP t p).val.s) 2 rfl;have f2:=HB5.out.frozen 2;have r3:=HB5.out.cell' (u:=.slice A4 (bP t p).val.kids.length d4) 3 rfl;have f3:=HB5.out.frozen 3;have r4:=HB5.out.cell' (u:=.int .i64 (bP t p).used) 4 rfl;have f4:=HB5.out.frozen 4;have r5:=HB5.out.cell' (u:=.int .i64 (bP t p).stop) 5 rfl;have f5:=HB5.out.frozen 5;have r6:=HB5.out.cell' (u:=.slice A5 m5 c5) 6 rfl;have f6:=HB5.out.frozen 6;go_wp2_with fail;go_roundw
     case rel =>
      refine ⟨p ++ [0],A6,d6,A8,m8,c8,?_,CB HB5.out _ _ _ _ _ _ _,H64'.out,bh,?_,HFN.out.snoc HST.out (HFC0.out hlr)⟩
      ·exact Cd ((HO4.out.ext_ HX5.out)) (show g<W by omega) (.int .i64 (bP t (p ++ [0])).val.kind) (.int .i64 (bP t (p ++ [0])).val.n) (.string (bP t (p ++ [0])).val.s) (.slice A6 (bP t (p ++ [0])).val.kids.length d6) (.int .i64 (bP t (p ++ [0])).used) (.int .i64 (bP t (p ++ [0])).stop) (.slice A8 m8 c8)
      ·exact AD ((HFR4.out.trans (ar HX5.out))) rfl (.int .i64 (bP t (p ++ [0])).val.kind) (.int .i64 (bP t (p ++ [0])).val.n) (.string (bP t (p ++ [0])).val.s) (.slice A6 (bP t (p ++ [0])).val.kids.length d6) (.int .i64 (bP t (p ++ [0])).used) (.int .i64 (bP t (p ++ [0])).stop) (.slice A8 m8 c8)
     case measure=>simp [lenOf];omega
   ·have ts:decide (0<=(bP t p).stop)=false:=aYj hst
    go_wp2_with fail;go_ret2;exact ⟨_,p,0,rfl,bL.of_own HOWN.out H64.out I (fun b hb=>.inr (by have:=HOWN.out.block_ge hb;omega)),hpl,HEW.out,.inr ⟨hne,rfl,HFN.out,Int.not_le.2 hst⟩⟩
 ·have hl0:((t:Int) == 0)=true:=aYh I
  go_wp2_with fail;go_ret2;exact ⟨_,[],10,rfl,⟨none,0,rfl,U,U,U,⟨rfl,fun h=>absurd h U⟩⟩,U,HX1.out,.inl ⟨I,rfl,rfl⟩⟩
def j9 (l:List Int)(n:Nat):List Int:=(List.range n).map (fun i:Nat=>vK l (i:Int) 9 - vK l ((i:Int)+1) 20 / 19)
theorem K7 (l:List Int)(n:Nat):j9 l (n+1)=j9 l n ++ [vK l (n:Int) 9 - vK l ((n:Int)+1) 20 / 19]:=by
 unfold j9;rw [List.range_succ];simp
theorem vJ (l:List Int)(n:Nat):(j9 l n)=n:=by unfold j9;simp
def Bw (l0:List Int)(n:Nat)(w:World)(e:Ending)(w':World):Prop:=∃ (A:Option Addr)(c:Nat),e=.returned (.slice A (j9 l0 n) c)∧bL w' (fun b=>w.heap.size<=b) (.slice A (j9 l0 n) c) (j9 l0 n)∧Ext w w'
def E1 (l0:List Int)(n:Nat)(W:World)(v i:Value)(wr:World):Prop :=
 ∃ (k:Nat) (l:List Int),k<=n∧i=↑k∧l=j9 l0 k∧l=k∧(∀ x ∈ l,I64 x)∧wr.ownsRow W 3 1 v k (l.map (Value.int .i64))∧Ext W wr
theorem Dc (l:List Int)(n:Nat)(P:Nat->Prop)(v:Value)(w:World)(hv:bL w P v l)(hn:n<=1000):qg 47 #[v,↑n] w (Bw l n w):=by
 have HV:=aYf hv;obtain ⟨Al,cl,el,h1,h2⟩:=hv.form;subst el;clear hv;obtain ⟨i0,hi,hz0,hz1,hz2⟩:=info_parts Tryz.info3;have HI:=aYf hi;clear hi;go_enter Tryz.func47,Tryz.ntmps47;go_wp2_with fail;go_loopw [5,6] (fun v i wr=>E1 l n w v i wr) (fun _ i _=>n - (intOf i).toNat)
 case atStart=>exact ⟨0,[],af _,rfl,rfl,rfl,U,aT _ _ _ _,aq _⟩
 case round =>
  obtain ⟨k,l',hk,rfl,hlf,hl',h64,hown,hx⟩:=hrel;have HLF:=aYf hlf;have HLS:=aYf (K7 l k);clear hlf;obtain ⟨A5,c5,e5,-,-,-⟩:=Sl.of_own hown;subst e5;have HOWN:=aYf hown;have H64:=aYf h64;have HX:=aYf hx;have hsz:=hx.size;have HL:=aYf hl';clear hown h64 hx hl';by_cases hlt:k<n
  ·have HP1:=aYf (kJ l (k:Int) 9 P _ wr (HV.out.ext HX.out) dg I I)
   have HP2:=aYf (kJ l ((k:Int)+1) 20 P _ wr (HV.out.ext HX.out) dg I I);have b1:=kI (l:=l) (i:=(k:Int)) (m:=9) I;have b2:=kI (l:=l) (i:=(k:Int)+1) (m:=20) I;generalize vK l (k:Int) 9=p1 at *;generalize vK l ((k:Int)+1) 20=p2 at *;go_wp2_with fail;refine HP1.out.mono ?_;rintro e w' ⟨rfl,rfl⟩;go_wp2_with fail;refine HP2.out.mono ?_;rintro e w' ⟨rfl,rfl⟩;go_wp2_with (at_builtin;go_must (refine aS _ rfl (.tmp 12) (.tmp 22) 22 dd w 3 i0 _ 1 8 Tryz.underlying22 HI.out hz0 hz1 hz2 rfl I (.slice A5 k c5) _ _ rfl (HOWN.out.alloc _) (fun _=>True) (qp wr) 1 1 [.int .i64 (p1 - p2 / 19)] rfl (Sl.new wr _ _ _ _ rfl) ci I I bh ?_);intro v9 w4 ho4 hf4 hb4);go_roundw
   case rel =>
    refine ⟨k+1,l' ++ [p1 - p2 / 19],I,by go_num,by rw [HLS.out,<- HLF.out],by rw [aa,HL.out];rfl,?_,?_,?_⟩
    ·intro x hx
     rcases ap.1 hx with hx | hx
     ·exact H64.out x hx
     ·simp only [List.mem_singleton] at hx;subst hx;unfold I64;omega
    ·exact ho4.len_cast rfl U
    ·exact Fr.new_ext (((ar HX.out).alloc _).trans hf4) (fun b hb=>HOWN.out.block_ge hb.symm)
   case measure=>simp [intOf];omega
  ·obtain rfl:k=n:=by omega
   have HH:=aYf (show bL wr (fun b=>w.heap.size<=b) (.slice A5 k c5) l' from bL.of_own (HOWN.out.len_cast HL.out.symm rfl) H64.out (by rw [HL.out];omega) (fun b hb=>HOWN.out.block_ge hb));go_wp2_with fail;go_ret;exact ⟨A5,c5,by rw [vJ];rfl,by rw [vJ,<- HLF.out];exact HH.out,HX.out⟩

structure GG where
 path:List Int
 kind:Int
 at_:Int
 code:Int
 fresh:Bool
instance:Inhabited GG:=⟨⟨[],0,0,0,false⟩⟩
structure GAt (w:World)(P:Nat->Prop)(x:GG)(A:Option Addr)(c:Nat):Prop where
 path:bL w P (.slice A x.path c) x.path
 short:x.path.length<=256
 kind:I64 x.kind
 at_:I64 x.at_
 code:I64 x.code
def qP (x:GG)(A:Option Addr)(c:Nat):List Value:=[.slice A x.path c,x.kind,x.at_,x.code,x.fresh]
def RGg (w:World)(P:Nat->Prop)(x:GG)(cs:List Value):Prop:=∃ A c,cs=qP x A c∧GAt w P x A c
section
variable {w w':World}{P Q:Nat->Prop}
theorem GAt.carry {x:GG}{A:Option Addr}{c:Nat}(h:GAt w P x A c)(hk:aB P w w')(hPQ:∀ b,b<w.heap.size->P b->Q b):GAt w' Q x A c:=⟨h.path.carry hk hPQ,h.short,h.kind,h.at_,h.code⟩
theorem oe:ll 5 RGg:=⟨fun _ _ _ _ h=>by obtain ⟨A,c,rfl,_⟩:=h;rfl,fun _ _ _ _ _ _ h hk hPQ=>by obtain ⟨A,c,e,h⟩:=h;exact ⟨A,c,e,h.carry hk hPQ⟩⟩
end
def Gvs (w:World)(P:Nat->Prop)(v:Value)(L:List GG):Prop:=Lst w P 5 (RGg w P) v L
section
variable {w w':World}{P Q:Nat->Prop}
theorem Gvs.carry {v:Value}{L:List GG}(h:Gvs w P v L)(hk:aB P w w')(hPQ:∀ b,b<w.heap.size->P b->Q b):Gvs w' Q v L:=Lst.carry h I hk hPQ (fun x _ cs hx=>oe.carry _ _ _ _ _ _ hx hk hPQ)
theorem Gvs.get {A:Option Addr}{n c:Nat}{L:List GG}(h:Gvs w P (.slice A n c) L){i:Nat}(hi:i<L):∃ b off A' d,A=some ↑(qt b off)∧P b∧GAt w P (L.getD i default) A' d∧(∀ j u,(qP (L.getD i default) A' d)[j]?=some u->qc w b (off+i*5+j) u):=by
 obtain ⟨b,off,c',cs,e,hb,_,_,⟨A',d,rfl,hv⟩,hc⟩:=Lst.at_ (oe.len w P) h default hi;injection e with e _ _;exact ⟨b,off,A',d,e,hb,hv,hc⟩
end
theorem Tryz.info70:(Tryz.prog.info? 70).map (fun i=>(i.zero,i.size,i.bytes))=some (some (.agg #[qn,qz,qz,qz,false]),5,56):=av
theorem pR {S:Nat->Prop}{W wr w1 w4:World}{v v':Value}{gs:List GG}{xs:List Value}{x:GG}{A:Option Addr}{c:Nat}(ho:wr.ownsRow W 70 5 v gs xs)(hr:RL (RGg wr (fun b=>b<wr.heap.size∧some b ≠ v.ownBlock∧S b)) gs xs)(h1:Ext wr w1)(hg:GAt w1 (fun b=>some b ≠ v.ownBlock∧S b) x A c)
  (hf:Fr (fun k=>some k=v.ownBlock) w1 w4)(hown:v'.ownBlock=v.ownBlock∨∃ b,v'.ownBlock=some b∧w1<=b):RL (RGg w4 (fun b=>b<w4.heap.size∧some b ≠ v'.ownBlock∧S b)) (gs ++ [x]) (xs ++ qP x A c):=by
 have hs1:=h1.size;have hs4:=hf.size
 have hne:∀ b,b<w1.heap.size->some b ≠ v.ownBlock->some b ≠ v'.ownBlock:=by
  intro b hb h;rcases hown with e | ⟨b',e,h'⟩
  ·rw [e];exact h
  ·rw [e];intro e';injection e' with e';omega
 refine (hr.move oe (fun b hb h=>(hf.block b I (fun e=>h.2.1 e)).trans (h1.block b hb)) (fun b hb h=>⟨I,hne b I h.2.1,h.2.2⟩)).append (RL.one ⟨A,c,rfl,hg.carry (fun b hb h=>hf.block b hb (fun e=>h.1 e)) (fun b hb h=>⟨I,hne b hb h.1,h.2⟩)⟩)
def mkG (n:Int)(raw pf:List Int)(nf:Int):GG :=
 if n / 3 % 4=0 then ⟨if ¬ nf=0∨n % 23=0 then raw else pf,1,n % 2,0,n % 3 == 0⟩ else if n / 3 % 4=1 then ⟨if ¬ nf=0∨n % 23=0 then raw else pf,2,0,15,n % 3 == 0⟩ else ⟨if ¬ nf=0∨n % 23=0 then raw else pf,0,0,0,n % 3 == 0⟩
def xS (t:List GN)(l:List Int)(i:Nat)(x:GG):Prop:=∃ pf nf,tZ t (j9 [l.getD (3*i) 0,l.getD (3*i+1) 0,l.getD (3*i+2) 0] 8) pf nf∧x=mkG (fH (l.getD (3*i) 0) 1048576) (j9 [l.getD (3*i) 0,l.getD (3*i+1) 0,l.getD (3*i+2) 0] 8) pf nf
section
variable {t:List GN}{l:List Int}{i k most:Nat}{gs gs':List GG}
theorem Dz:∀ (x:GG) pf nf,tZ t (j9 [l.getD (3*i) 0,l.getD (3*i+1) 0,l.getD (3*i+2) 0] 8) pf nf->x=mkG (fH (l.getD (3*i) 0) 1048576) (j9 [l.getD (3*i) 0,l.getD (3*i+1) 0,l.getD (3*i+2) 0] 8) pf nf->xS t l i x:=fun _ pf nf h1 h2=>⟨pf,nf,h1,h2⟩
theorem nE {x:GG}(hl:gs=k)(h:∀ i,i<k->3*i+2<l.length∧xS t l i (gs.getD i default))(h1:3*k+2<l)(hx:xS t l k x):∀ i,i<k+1->3*i+2<l.length∧xS t l i ((gs ++ [x]).getD i default):=by
 intro i hi;rcases Nat.lt_or_ge i k with h2 | h2
 ·have:=h i h2
  rwa [show (gs ++ [x]).getD i default=gs.getD i default by simp [List.getD,List.getElem?_append_left (show i<gs by omega)]]
 ·obtain rfl:i=k:=by omega
  subst hl;rw [show (gs ++ [x]).getD gs default=x by simp [List.getD]];exact ⟨h1,hx⟩
def lD (t:List GN)(l:List Int)(most:Nat)(gs:List GG):Prop:=gs.length<=most∧(∀ i,i<gs.length->3*i+2<l.length∧xS t l i (gs.getD i default))∧(gs<most->¬ 3*gs.length+2<l)
end
def pI (t:List GN)(l:List Int)(S:Nat->Prop)(most:Nat)(w:World)(e:Ending)(w':World):Prop:=∃ A c gs,e=.returned (.slice A gs.length c)∧Gvs w' (fun b=>b<w'.heap.size∧S b) (.slice A gs.length c) gs∧gs<=most∧Ext w w'∧lD t l most gs
def G0 (t:List GN)(l:List Int)(S:Nat->Prop)(most:Nat)(W:World)(v i:Value)(wr:World):Prop :=
 ∃ (k:Nat) (gs:List GG) (xs:List Value),k<=most∧i=↑k∧gs=k∧wr.ownsRow W 70 5 v k xs∧RL (RGg wr (fun b=>b<wr.heap.size∧some b ≠ v.ownBlock∧S b)) gs xs∧Ext W wr∧∀ i,i<k->3*i+2<l.length∧xS t l i (gs.getD i default)
theorem xT (t:List GN)(l:List Int)(most:Nat)(P Q:Nat->Prop)(vn vl:Value)(w:World)(hgd:bE t=0)(hfw:∀ x ∈ t,x.kind=3->x.kids.length<=5)(hlen:t.length<=14)(hmost:most<=1000)(hP:∀ b,P b->b<w)(hQ:∀ b,Q b->b<w)(ht:Nds w P vn t)(hl:bL w Q vl l) :
  qg 24 #[.agg #[vn],vl,↑most] w (pI t l (fun b=>P b∨w<=b) most w):=by
 have HT:=aYf ht;have HL:=aYf hl;have HGD:=aYf hgd;have HFW:=aYf hfw;have HP:=aYf hP;obtain ⟨An,cn,en,hn1,hn2⟩:=ht.form;subst en;obtain ⟨Al,cl,el,hl1,hl2⟩:=hl.form;subst el;obtain ⟨i0,hi,hz0,hz1,hz2⟩:=info_parts Tryz.info70;have HI:=aYf hi;clear ht hl hgd hfw hP hQ hi;go_enter Tryz.func24,Tryz.ntmps24;go_wp2_with fail;have HE:=aYf ((aq w).alloc' (qk #[.slice An t cn] 25));have HB:=aYf (aw w 25 #[.slice An t cn]);generalize w.alloc (qk #[.slice An t cn] 25)=W at *;have hsW:=HE.out.size;go_loopw [7,8] (fun v i wr=>G0 t l (fun b=>P b∨w<=b) most W v i wr) (fun _ i _=>most - (intOf i).toNat)
 case atStart=>exact ⟨0,[],[],af _,rfl,rfl,aT _ _ _ _,gh,aq _,fun i hi=>by omega⟩
 case round =>
  obtain ⟨k,gs,xs,hk,rfl,hgl,hown,hr,hx,hsg⟩:=hrel;have HSG:=aYf hsg;have HGO:=aYf (Dz (t:=t) (l:=l) (i:=k));clear hsg;obtain ⟨A7,c7,e7,-,-,-⟩:=Sl.of_own hown;subst e7;have HOWN:=aYf hown;have HR:=aYf hr;have HX:=aYf hx;have HGL:=aYf hgl;have hsz:=hx.size;have HDONE:=aYf (show (k<most->¬ 3*k+2<l)->pI t l (fun b=>P b∨w<=b) most w (.returned (.slice A7 k c7)) wr from fun hstop=>⟨A7,c7,gs,by rw [hgl],by rw [hgl];exact Lst.of_own (hown.len_cast hgl.symm rfl) (hr.move oe (fun _ _ _=>rfl) (fun _ _ h=>⟨h.1,h.2.2⟩)) I (fun b hb=>⟨hown.block_lt hb,.inr (ae hsW (hown.block_ge hb))⟩),I,HE.out.trans' hx,by rw [hgl];exact hk,fun i hi=>HSG.out i (by rw [<- hgl];exact hi),by rw [hgl];exact hstop⟩);clear hown hr hx hgl;by_cases h1:3*k+2<l
  ·have d1:decide (3*(k:Int)+2<(l:Int))=true:=aYi I
   by_cases h2:k<most
   ·have d2:decide ((k:Int)<(most:Int))=true:=aYi I
    clear HDONE;obtain ⟨bl,ol,rfl,-,i64a,ga⟩:=(HL.out.ext (HE.out.trans' HX.out)).get (i:=3*k) I;obtain ⟨bl',ol',e',-,i64b,gb⟩:=(HL.out.ext (HE.out.trans' HX.out)).get (i:=3*k+1) I;injection e' with e';injection e' with e1 e2;subst e1 e2;obtain ⟨bl',ol',e',-,i64c,gc⟩:=(HL.out.ext (HE.out.trans' HX.out)).get (i:=3*k+2) I;injection e' with e';injection e' with e1 e2;subst e1 e2;generalize l.getD (3*k) 0=xa at *;generalize l.getD (3*k+1) 0=xb at *;generalize l.getD (3*k+2) 0=xc at *;go_upto_region 6 with (go_at_call 5;refine (fL xa 1048576 _ i64a I I).mono ?_;rintro e w' ⟨rfl,rfl⟩);have hna:=gM (n:=xa) (m:=1048576) I;generalize fH xa 1048576=n at *;have hw0:IntKind.i64.wrap (3*(k:Int))=3*(k:Int):=IntWalk.i64_in _ I;have hw1:IntKind.i64.wrap (3*(k:Int)+1)=3*(k:Int)+1:=IntWalk.i64_in _ I;have hw2:IntKind.i64.wrap (3*(k:Int)+2)=3*(k:Int)+2:=IntWalk.i64_in _ I;have q0:(0:Int)<=3*(k:Int):=by omega
    have q1:3*(k:Int)<(l:Int):=I;have q2:(0:Int)<=3*(k:Int)+1:=I;have q3:3*(k:Int)+1<(l:Int):=I;have q4:(0:Int)<=3*(k:Int)+2:=I;have q5:3*(k:Int)+2<(l:Int):=I
    have HRAW:=aYf (show qg 47 #[.slice (qp wr) 3 3,.int .i64 8] ((wr.alloc (qk #[↑xa,↑xb,↑xc] 3)).drew) (Bw [xa,xb,xc] 8 ((wr.alloc (qk #[↑xa,↑xb,↑xc] 3)).drew)) from
     Dc [xa,xb,xc] 8 (fun _=>True) _ _ (bL.ext (w:=wr.alloc (qk #[↑xa,↑xb,↑xc] 3)) ⟨some ↑(qp wr),3,rfl,U,U,by
      intro x hx;simp only [ao,List.not_mem_nil,or_false] at hx;rcases hx with rfl | rfl | rfl <;> assumption,Sl.new wr _ _ _ _ rfl⟩ (aq _).drew') I)
    rw [show 3*k=(3*(k:Int)).toNat by omega] at ga;rw [show 3*k+1=(3*(k:Int)+1).toNat by omega] at gb;rw [show 3*k+2=(3*(k:Int)+2).toNat by omega] at gc
    go_region_held3 (fun w'=>qc w' bl (ol+(3*(k:Int)).toNat) xa∧qc w' bl (ol+(3*(k:Int)+1).toNat) xb∧qc w' bl (ol+(3*(k:Int)+2).toNat) xc)
     (first
      | (go_split_ands
         with_reducible exact ⟨aA hx3 ‹_›,aA hx3 ‹_›,aA hx3 ‹_›⟩)
      | go_keep)
     (first
      | (go_at_call 47;refine HRAW.out.mono ?_;rintro e w3 ⟨A3,c3,rfl,hraw,hx3⟩;have HRL:=aYf (vJ [xa,xb,xc] 8);generalize j9 [xa,xb,xc] 8=raw at *))
    clear hw0 hw1 hw2 q0 q1 q2 q3 q4 q5 HRAW;have HX3:=aYf (show Ext wr w3 from ((aq wr).alloc' _).drew'.trans' hx3);have hs3:wr.heap.size+1<=w3:=by have:=hx3.size;simp at this;exact this
    have HOL:=aYf (show ∀ b,(Value.slice A7 k c7).ownBlock=some b->W<=b∧b<wr from fun b hb=>⟨HOWN.out.block_ge hb,HOWN.out.block_lt hb⟩);have HRW:=aYf (hraw.carry (Q:=fun b=>some b ≠ (Value.slice A7 k c7).ownBlock∧(P b∨w<=b)) (fun _ _ _=>rfl) (fun b hb h=>⟨fun e=>by have:=(HOL.out b e.symm).2;simp at h;omega,.inr (by simp at h;omega)⟩));have hcap:=hraw.form;have HT3:=aYf (HT.out.carry (Q:=fun b=>some b ≠ (Value.slice A7 k c7).ownBlock∧(P b∨w<=b)) (aB.of_ext (HE.out.trans' (HX.out.trans' HX3.out))) (fun b hb h=>⟨fun e=>by have:=(HOL.out b e.symm).1;have:=HP.out b h;omega,.inl h⟩));have b3:=(HB.out.ext (HX.out.trans' HX3.out)).cell' (u:=.slice An t cn) 0 rfl;clear hraw hx3 ga gb gc hcap;have HFT:=aYf (JP t raw _ _ _ w3 HGD.out hlen HFW.out HT3.out HRW.out);go_upto_region 8 with (go_at_call 48;refine HFT.out.mono ?_;rintro e w4 ⟨vf,pf,nf,rfl,hpf,hpl,hx4,hfr0⟩);have HFRL:=aYf hfr0;clear hfr0;obtain ⟨Af,cf,ef,hpf1,hpf2⟩:=hpf.form;subst ef;have HX4:=aYf (HX3.out.trans' hx4)
    have HPF:=aYf (hpf.carry (Q:=fun b=>some b ≠ (Value.slice A7 k c7).ownBlock∧(P b∨w<=b)) (fun _ _ _=>rfl) (fun b hb h=>by
     rcases h with h | h
     ·exact h
     ·exact ⟨fun e=>by have:=(HOL.out b e.symm).2;omega,.inr I⟩))
    have HRW4:=aYf (HRW.out.ext hx4);clear hpf hx4 b3 HFT;go_cut [64] from 14 to 87 (fun s wx=>(∃ bb,s=.bool bb∧(bb=true ↔ (¬ nf=0∨n % 23=0)))∧w4=wx)
    case first =>
     by_cases he:nf=0
     ·have e1:(nf == 0)=true:=aYh he
      go_wp2_with fail;go_meet;exact ⟨⟨_,rfl,j8⟩,rfl⟩
     ·have e1:(nf == 0)=false:=aYg he
      go_wp2_with fail;go_meet;exact ⟨⟨_,rfl,j8⟩,rfl⟩
    case rest =>
     obtain ⟨⟨bb,rfl,hbb⟩,rfl⟩:=hcut;have HBB:=aYf hbb;clear hbb;go_upto_if 64 with fail;go_cut [11] from 14 to 87 (fun s wx=>(∃ A c p,s=.slice A p.length c∧bL w4 (fun b=>some b ≠ (Value.slice A7 k c7).ownBlock∧(P b∨w<=b)) (.slice A p.length c) p∧p.length<=256∧p=(if ¬ nf=0∨n % 23=0 then raw else pf))∧w4=wx)
     case first =>
      cases bb
      ·go_wp2_with fail
       go_meet;exact ⟨⟨_,_,_,rfl,HPF.out,hpl,by rw [if_neg (fun h=>absurd (HBB.out.2 h) U)]⟩,rfl⟩
      ·go_wp2_with fail
       go_meet;exact ⟨⟨_,_,_,rfl,HRW4.out,by rw [HRL.out];omega,by rw [if_pos (HBB.out.1 trivial)]⟩,rfl⟩
     case rest =>
      obtain ⟨⟨Ap,cp,p,rfl,hp,hpl2,hpp⟩,rfl⟩:=hcut;have HPP:=aYf hpp;clear hpp;have HP2:=aYf hp;clear hp;have hs4:=HX4.out.size;generalize hfb:(n % 3 == 0)=fb at *;have HFB:=aYf hfb;by_cases s0:n / 3 % 4=0
      ·have t0:(n / 3 % 4 == 0)=true:=aYh s0
       have HSL:=aYf (show Sl ((w4.alloc (qk #[.slice Ap p cp,.int .i64 1,.int .i64 (n % 2),qz,fb] 70)).alloc (qk #[.slice Ap p cp,.int .i64 1,.int .i64 (n % 2),qz,fb] 70)) (fun _=>True) 5 (qp (w4+1)) 1 [.slice Ap p cp,.int .i64 1,.int .i64 (n % 2),qz,fb] from by
        have h:=Sl.new (w4.alloc (qk #[.slice Ap p cp,.int .i64 1,.int .i64 (n % 2),qz,fb] 70)) [.slice Ap p cp,.int .i64 1,.int .i64 (n % 2),qz,fb] 70 1 5 rfl;rw [World.size_alloc] at h;exact h)
       go_wp2_with (at_builtin;go_must (refine aS _ rfl (.tmp 84) (.tmp 86) 65 dd W 70 i0 _ 5 56 Tryz.underlying65 HI.out hz0 hz1 hz2 rfl I (.slice A7 k c7) k xs rfl (((HOWN.out.ext_ HX4.out).alloc _).alloc _) (fun _=>True) (qp (w4+1)) 1 1 [.slice Ap p cp,.int .i64 1,.int .i64 (n % 2),qz,fb] rfl HSL.out ci I I bh ?_);intro v9 w9 ho9 hf9 hb9);go_roundw
       case rel =>
        have hE5:Ext wr ((w4.alloc (qk #[.slice Ap p cp,.int .i64 1,.int .i64 (n % 2),qz,fb] 70)).alloc (qk #[.slice Ap p cp,.int .i64 1,.int .i64 (n % 2),qz,fb] 70)):=(HX4.out.alloc' _).alloc' _;have hfr:Fr (fun k'=>some k'=(Value.slice A7 k c7).ownBlock) wr w9:=(ar hE5).trans hf9;refine ⟨k+1,gs ++ [⟨p,1,(n % 2),0,fb⟩],xs ++ qP ⟨p,1,(n % 2),0,fb⟩ Ap cp,I,by go_num,by rw [aa,HGL.out];rfl,ho9,?_,Fr.new_ext ((ar HX.out).trans hfr) (fun b hb=>(HOL.out b hb.symm).1),nE HGL.out HSG.out h1 (HGO.out _ pf nf HFRL.out (by unfold mkG;rw [if_pos s0,<- HPP.out,<- HFB.out]))⟩;refine pR (W:=W) (HOWN.out.len_cast HGL.out.symm rfl) HR.out hE5 ⟨HP2.out.ext (((aq w4).alloc' _).alloc' _),hpl2,show I64 1 by unfold I64;omega,show I64 (n % 2) by unfold I64;omega,show I64 0 by unfold I64;omega⟩ hf9 ?_;rcases hb9 with h | h
        ·exact .inl h
        ·exact .inr ⟨_,h,U⟩
       case measure=>simp [intOf];omega
      ·have t0:(n / 3 % 4 == 0)=false:=aYg s0
       by_cases s1:n / 3 % 4=1
       ·have t1:(n / 3 % 4 == 1)=true:=aYh s1
        have HSL:=aYf (show Sl ((w4.alloc (qk #[.slice Ap p cp,.int .i64 2,qz,.int .i64 15,fb] 70)).alloc (qk #[.slice Ap p cp,.int .i64 2,qz,.int .i64 15,fb] 70)) (fun _=>True) 5 (qp (w4+1)) 1 [.slice Ap p cp,.int .i64 2,qz,.int .i64 15,fb] from by
         have h:=Sl.new (w4.alloc (qk #[.slice Ap p cp,.int .i64 2,qz,.int .i64 15,fb] 70)) [.slice Ap p cp,.int .i64 2,qz,.int .i64 15,fb] 70 1 5 rfl;rw [World.size_alloc] at h;exact h)
        go_wp2_with (at_builtin;go_must (refine aS _ rfl (.tmp 84) (.tmp 86) 65 dd W 70 i0 _ 5 56 Tryz.underlying65 HI.out hz0 hz1 hz2 rfl I (.slice A7 k c7) k xs rfl (((HOWN.out.ext_ HX4.out).alloc _).alloc _) (fun _=>True) (qp (w4+1)) 1 1 [.slice Ap p cp,.int .i64 2,qz,.int .i64 15,fb] rfl HSL.out ci I I bh ?_);intro v9 w9 ho9 hf9 hb9);go_roundw
        case rel =>
         have hE5:Ext wr ((w4.alloc (qk #[.slice Ap p cp,.int .i64 2,qz,.int .i64 15,fb] 70)).alloc (qk #[.slice Ap p cp,.int .i64 2,qz,.int .i64 15,fb] 70)):=(HX4.out.alloc' _).alloc' _;have hfr:Fr (fun k'=>some k'=(Value.slice A7 k c7).ownBlock) wr w9:=(ar hE5).trans hf9;refine ⟨k+1,gs ++ [⟨p,2,0,15,fb⟩],xs ++ qP ⟨p,2,0,15,fb⟩ Ap cp,I,by go_num,by rw [aa,HGL.out];rfl,ho9,?_,Fr.new_ext ((ar HX.out).trans hfr) (fun b hb=>(HOL.out b hb.symm).1),nE HGL.out HSG.out h1 (HGO.out _ pf nf HFRL.out (by unfold mkG;rw [if_neg s0,if_pos s1,<- HPP.out,<- HFB.out]))⟩;refine pR (W:=W) (HOWN.out.len_cast HGL.out.symm rfl) HR.out hE5 ⟨HP2.out.ext (((aq w4).alloc' _).alloc' _),hpl2,show I64 2 by unfold I64;omega,show I64 0 by unfold I64;omega,show I64 15 by unfold I64;omega⟩ hf9 ?_;rcases hb9 with h | h
         ·exact .inl h
         ·exact .inr ⟨_,h,U⟩
        case measure=>simp [intOf];omega
       ·have t1:(n / 3 % 4 == 1)=false:=aYg s1
        have HSL:=aYf (show Sl ((w4.alloc (qk #[.slice Ap p cp,qz,qz,qz,fb] 70)).alloc (qk #[.slice Ap p cp,qz,qz,qz,fb] 70)) (fun _=>True) 5 (qp (w4+1)) 1 [.slice Ap p cp,qz,qz,qz,fb] from by
         have h:=Sl.new (w4.alloc (qk #[.slice Ap p cp,qz,qz,qz,fb] 70)) [.slice Ap p cp,qz,qz,qz,fb] 70 1 5 rfl;rw [World.size_alloc] at h;exact h)
        go_wp2_with (at_builtin;go_must (refine aS _ rfl (.tmp 84) (.tmp 86) 65 dd W 70 i0 _ 5 56 Tryz.underlying65 HI.out hz0 hz1 hz2 rfl I (.slice A7 k c7) k xs rfl (((HOWN.out.ext_ HX4.out).alloc _).alloc _) (fun _=>True) (qp (w4+1)) 1 1 [.slice Ap p cp,qz,qz,qz,fb] rfl HSL.out ci I I bh ?_);intro v9 w9 ho9 hf9 hb9);go_roundw
        case rel =>
         have hE5:Ext wr ((w4.alloc (qk #[.slice Ap p cp,qz,qz,qz,fb] 70)).alloc (qk #[.slice Ap p cp,qz,qz,qz,fb] 70)):=(HX4.out.alloc' _).alloc' _;have hfr:Fr (fun k'=>some k'=(Value.slice A7 k c7).ownBlock) wr w9:=(ar hE5).trans hf9;refine ⟨k+1,gs ++ [⟨p,0,0,0,fb⟩],xs ++ qP ⟨p,0,0,0,fb⟩ Ap cp,I,by go_num,by rw [aa,HGL.out];rfl,ho9,?_,Fr.new_ext ((ar HX.out).trans hfr) (fun b hb=>(HOL.out b hb.symm).1),nE HGL.out HSG.out h1 (HGO.out _ pf nf HFRL.out (by unfold mkG;rw [if_neg s0,if_neg s1,<- HPP.out,<- HFB.out]))⟩;refine pR (W:=W) (HOWN.out.len_cast HGL.out.symm rfl) HR.out hE5 ⟨HP2.out.ext (((aq w4).alloc' _).alloc' _),hpl2,show I64 0 by unfold I64;omega,show I64 0 by unfold I64;omega,show I64 0 by unfold I64;omega⟩ hf9 ?_;rcases hb9 with h | h
         ·exact .inl h
         ·exact .inr ⟨_,h,U⟩
        case measure=>simp [intOf];omega
   ·have d2:decide ((k:Int)<(most:Int))=false:=aYj I
    go_wp2_with fail;go_ret;exact HDONE.out (fun h=>absurd h h2)
  ·have d1:decide (3*(k:Int)+2<(l:Int))=false:=aYj I
   go_wp2_with fail;go_ret;exact HDONE.out (fun _=>h1)
