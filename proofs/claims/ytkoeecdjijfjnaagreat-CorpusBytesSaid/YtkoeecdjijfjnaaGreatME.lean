/- Contracts and laws. Conditions: none. -/
import Derived.Test.YtkoeecdjijfjnaaGreatMA
import Derived.Test.YtkoeecdjijfjnaaGreatSJ
set_option linter.all false
set_option maxRecDepth 100000
set_option maxHeartbeats 8000000
namespace Go.Proofs.YtkoeecdjijfjnaaGreat
open Go.RowKit
def aJa (t:List GN)(p:List Int):Prop:=0<=(bF t p).stop
def aRm (t:List GN)(raw p:List Int):Int :=
 if p.length<raw then (if 0<(if aW (t.getD (bF t p).stop.toNat default) - 1<raw.getD p 0 then aW (t.getD (bF t p).stop.toNat default) - 1 else raw.getD p 0) then (if aW (t.getD (bF t p).stop.toNat default) - 1<raw.getD p 0 then aW (t.getD (bF t p).stop.toNat default) - 1 else raw.getD p 0) else 0) else 0
section
variable {t:List GN}{raw p q:List Int}
theorem aLr:p.length<raw->(if 0<(if aW (t.getD (bF t p).stop.toNat default) - 1<raw.getD p 0 then aW (t.getD (bF t p).stop.toNat default) - 1 else raw.getD p 0) then (if aW (t.getD (bF t p).stop.toNat default) - 1<raw.getD p 0 then aW (t.getD (bF t p).stop.toNat default) - 1 else raw.getD p 0) else 0)=aRm t raw p:=fun h=>by unfold aRm;rw [if_pos h]
theorem aLs:¬ p.length<raw->0=aRm t raw p:=fun h=>by unfold aRm;rw [if_neg h]
def aGg (t:List GN)(raw p:List Int):Prop:=∀ j,j<p.length->aJa t (p.take j)∧p.getD j 0=aRm t raw (p.take j)
theorem aGg.snoc {c}(h:aGg t raw p)(hs:aJa t p)(hc:c=aRm t raw p):aGg t raw (p ++ [c]):=by
 intro j hj;rw [aa,List.length_singleton] at hj;rcases Nat.lt_or_ge j p.length with h1 | h1
 ·have h2:=h j h1
  rw [List.take_append_of_le_length I];refine ⟨h2.1,?_⟩;rw [<- h2.2];simp [List.getD,List.getElem?_append_left h1]
 ·obtain rfl:j=p:=by omega
  rw [List.take_left];exact ⟨hs,by simp [<- hc]⟩
def vR (t:List GN)(raw p:List Int)(n:Int):Prop:=(t.length=0∧p=[]∧n=10)∨(0<t.length∧n=0∧aGg t raw p∧¬ 0<=(bF t p).stop)
theorem aGg.same (h:aGg t raw p)(h':aGg t raw q):∀ j,j<=p.length->j<=q.length->p.take j=q.take j
 | 0,_,_=>by simp
 | j+1,h1,h2=>by
  have ih:=aGg.same h h' j I I;have e1:=(h j I).2;have e2:=(h' j I).2;rw [ih] at e1;rw [<- e2] at e1;rw [List.take_add_one,List.take_add_one,ih];have g1:p[j]?=some (p.getD j 0):=by simp [List.getD,show j<p by omega]
  have g2:q[j]?=some (q.getD j 0):=by simp [List.getD,show j<q by omega]
  rw [g1,g2,e1]
theorem vR.uniq {n m}(h:vR t raw p n)(h':vR t raw q m):p=q∧n=m:=by
 rcases h with ⟨h1,rfl,rfl⟩ | ⟨h1,rfl,h2,h3⟩
 ·rcases h' with ⟨_,rfl,rfl⟩ | ⟨h4,_⟩
  ·exact ⟨rfl,rfl⟩
  ·omega
 ·rcases h' with ⟨h4,_⟩ | ⟨_,rfl,h4,h5⟩
  ·omega
  ·refine ⟨?_,rfl⟩
   rcases Nat.lt_trichotomy p q.length with hl | hl | hl
   ·have:=(h4 p hl).1
    rw [<- aGg.same h2 h4 p (ab _) I,List.take_length] at this;exact absurd this h3
   ·have:=aGg.same h2 h4 p (ab _) I
    rw [List.take_length,hl,List.take_length] at this;exact this
   ·have:=(h2 q hl).1
    rw [aGg.same h2 h4 q I (ab _),List.take_length] at this;exact absurd this h5
end
def aQ6 (t:List GN)(raw:List Int)(P:Nat->Prop)(w:World)(e:Ending)(w':World):Prop :=
 ∃ (v:Value) (p:List Int) (n:Int),e=.returned (.tuple #[v,↑n])∧Ints w' (New P w) v p∧p.length<=256∧Ext w w'∧vR t raw p n
def aRi (t:List GN)(raw:List Int)(P:Nat->Prop)(W:World)(g:Nat)(v:Value)(wr:World):Prop :=
 ∃ (p:List Int) (A:Option Addr) (c:Nat) (A3:Option Addr) (m c3:Nat),wr.ownsRow W 3 1 v p (p.map (Value.int .i64))∧Blk wr g 154 (bP (bF t p) A c (.slice A3 m c3))∧(∀ x ∈ p,I64 x)∧p.length<=256∧Fr (fun b=>b=g) W wr∧aGg t raw p
theorem aLq (t raw P vn vp w)(hv:aY t=0)(hsm:t.length<=14)(hfew:∀ x ∈ t,x.kind=3->x.kids.length<=5)(ht:Nds w P vn t)(hvp:Ints w P vp raw) :
  qg 46 #[.agg #[vn],vp] w (aQ6 t raw P w):=by
 have hgood:=eE.1 hv;have hRD:∀ p:List Int,p.length<=1000000000->RdT t p:=fun p hp=>⟨hgood,hsm,hfew,hp⟩
 have HRD:=a4b hRD
 have hvl:∀ x ∈ t,x.values.length<=1000000000:=by
  intro x hx;obtain ⟨j,hj,e⟩:=List.getElem_of_mem hx;have:=(eX hgood hj).2.1;have e2:t.getD j default=x:=by rw [<- e];simp [hj]
  rw [e2] at this;omega
 have HVL:=a4b hvl;have HT:=a4b ht;have HVP:=a4b hvp;have HV:=a4b hv;have HG:=a4b hgood;obtain ⟨An,cn,en,hn1,hn2⟩:=ht.form;subst en;obtain ⟨Ap,cp,ep,hp1,hp2⟩:=hvp.form;subst ep;obtain ⟨i3,hi3,hz30,hz31,hz32⟩:=info_parts Tryz.info3;have HI3:=a4b hi3;clear ht hvp hv hRD hfew hvl hgood hi3;go_enter Tryz.func46,Tryz.ntmps46;go_wp2_with fail;have HE:=a4b (show Ext w (w.alloc (qk #[.slice An t cn] 25)) from (aq w).alloc' _);have HBT:=a4b (aw w 25 #[.slice An t cn]);generalize hW:w.alloc (qk #[.slice An t cn] 25)=W0 at *;clear hW;refine (jW t P _ _ (HT.out.ext HE.out) HVL.out).mono ?_;rintro e w1 ⟨rfl,hx1⟩;rw [HV.out];have HX1:=a4b (HE.out.trans' hx1);have BT1:=a4b (HBT.out.ext hx1);have y0:=BT1.out.cell' (u:=.slice An t cn) 0 rfl;clear hx1;by_cases hne:0<t.length
 ·have hl0:((t:Int) == 0)=false:=a4c I
  go_wp2_with fail;refine (qU t [] (fun b=>b<w1.heap.size) _ _ _ (HRD.out [] O) hne (fun b hb=>hb) (HT.out.carry (aB.of_ext HX1.out) (fun b hb _=>by have:=HX1.out.size;omega)) ⟨none,0,rfl,O,O,O,⟨rfl,fun h=>absurd h O⟩⟩).mono ?_;rintro e w2 ⟨A2,d2,sv,rfl,-,⟨A3,m3,c3,rfl⟩,hx2⟩;have HX2:=a4b (HX1.out.trans' hx2);have BT2:=a4b (BT1.out.ext hx2);clear hx2 y0;go_wp2_with fail;have HW:=a4b (show Ext w (w2.alloc (qk (bP (bF t []) A2 d2 (.slice A3 m3 c3)) 154)) from HX2.out.alloc' _);have BTW:=a4b (BT2.out.alloc (qk (bP (bF t []) A2 d2 (.slice A3 m3 c3)) 154));have BRW:=a4b (aw w2 154 (bP (bF t []) A2 d2 (.slice A3 m3 c3)));have hlt2:w2.heap.size<(w2.alloc (qk (bP (bF t []) A2 d2 (.slice A3 m3 c3)) 154)):=by simp
  have hbt:=BT2.out.lt;generalize hW:w2.alloc (qk (bP (bF t []) A2 d2 (.slice A3 m3 c3)) 154)=W at *;clear hW;generalize hg:w2.heap.size=g at *;clear hg;go_loopw [7] (fun v wr=>aRi t raw P W g v wr) (fun v _=>300 - lenOf v)
  case atStart=>exact ⟨[],A2,d2,A3,m3,c3,aP _ _ _ _,BRW.out,O,O,au _ _,fun j hj=>by simp at hj⟩
  case round =>
   obtain ⟨p,A4,d4,A5,m5,c5,hown,hB,h64,hpl,hfr,hfn⟩:=hrel;have HFN:=a4b hfn;have HFC1:=a4b (aLr (t:=t) (raw:=raw) (p:=p));have HFC0:=a4b (aLs (t:=t) (raw:=raw) (p:=p));have HOWN:=a4b hown;have HB:=a4b hB;have H64:=a4b h64;have HFR:=a4b hfr;obtain ⟨A7,c7,e7,-,-,-⟩:=Sl.of_own hown;subst e7;have r0:=hB.cell' (u:=.int .i64 (bF t p).val.kind) 0 rfl;have r1:=hB.cell' (u:=.int .i64 (bF t p).val.n) 1 rfl;have r2:=hB.cell' (u:=.string (bF t p).val.s) 2 rfl;have r3:=hB.cell' (u:=.slice A4 (bF t p).val.kids.length d4) 3 rfl;have r4:=hB.cell' (u:=.int .i64 (bF t p).used) 4 rfl;have r5:=hB.cell' (u:=.int .i64 (bF t p).stop) 5 rfl;have r6:=hB.cell' (u:=.slice A5 m5 c5) 6 rfl;have f0:=hB.frozen 0;have f1:=hB.frozen 1;have f2:=hB.frozen 2;have f3:=hB.frozen 3;have f4:=hB.frozen 4;have f5:=hB.frozen 5;have f6:=hB.frozen 6;have HEW:=a4b (show Ext w wr from Fr.new_ext ((ar HW.out).trans hfr) (fun b hb=>by omega));clear hown hB h64 hfr hfn;by_cases hst:0<=(bF t p).stop
   ·have HST:=a4b (show aJa t p from hst)
    have hstp:=aF9 (HRD.out p I) hne hst;generalize hs:(bF t p).stop=s at *;clear hs;obtain ⟨hs1,hs2,hs3⟩:=hstp;obtain ⟨b1,o1,a1,rfl,-,ha1,hc1⟩:=(HT.out.ext HEW.out).get (i:=s.toNat) I;have HN:=a4b (HG.out.at_ (j:=s.toNat) I).node;have cc0:=hc1.c0;have cc1:=hc1.c1;have cc2:=hc1.c2;have cc3:=hc1.c3;have cc4:=hc1.c4;have cc5:=hc1.c5;have cc6:=hc1.c6;have cc7:=hc1.c7;have cc8:=hc1.c8;have cc9:=hc1.c9;have cc10:=hc1.c10;have cc11:=hc1.c11;have hkl1:=ha1.kids.le.2.1;clear hs3 hc1 ha1;generalize t.getD s.toNat default=x at *;have y0:=(BTW.out.fr HFR.out I).cell' (u:=.slice (qt b1 o1) t cn) 0 rfl;have hgw:=HFR.out.size;by_cases hlr:p.length<raw
    ·obtain ⟨bp,op,rfl,-,hi64,gp⟩:=(HVP.out.ext HEW.out).get hlr
     generalize raw.getD p 0=rv at *;have hpl0:(0:Int)<=(p:Int):=by omega
     have hpl1:(p:Int)<(raw:Int):=I;have hopt:=iJ HN.out;have hnum:=cS HN.out.numbers
     have hob:0<=aW x∧aW x<=17592186044416:=by
      rw [hopt];split
      ·omega
      ·omega
     have hopw:IntKind.i64.wrap (aW x - 1)=aW x - 1:=IntWalk.i64_in _ I;clear hopt hnum;go_upto_region 11 with fail
     go_region_held3 (fun w'=>qc w' bp (op+p) rv∧qc w' w 0 (.slice (qt b1 o1) t cn)∧qc w' g 5 s∧qc w' b1 (o1+s.toNat*12) x.kind∧qc w' b1 (o1+s.toNat*12+1) x.name∧qc w' b1 (o1+s.toNat*12+2) x.lo∧qc w' b1 (o1+s.toNat*12+3) x.hi∧qc w' b1 (o1+s.toNat*12+4) (.slice a1.wA x.weights a1.wc)∧qc w' b1 (o1+s.toNat*12+5) (.slice a1.lA x.labels a1.lc)∧qc w' b1 (o1+s.toNat*12+6) (.slice a1.vA x.values a1.vc)∧qc w' b1 (o1+s.toNat*12+7) (.slice a1.kA x.kids a1.kc)∧qc w' b1 (o1+s.toNat*12+8) x.value.kind∧qc w' b1 (o1+s.toNat*12+9) x.value.n∧qc w' b1 (o1+s.toNat*12+10) x.value.s∧qc w' b1 (o1+s.toNat*12+11) (.slice a1.xA x.value.kids a1.xc))
      (first
       | (go_split_ands
          with_reducible exact ⟨aA hx3 ‹_›,aA hx3 ‹_›,aA hx3 ‹_›,aA hx3 ‹_›,aA hx3 ‹_›,aA hx3 ‹_›,aA hx3 ‹_›,aA hx3 ‹_›,aA hx3 ‹_›,aA hx3 ‹_›,aA hx3 ‹_›,aA hx3 ‹_›,aA hx3 ‹_›,aA hx3 ‹_›,aA hx3 ‹_›⟩)
       | go_keep)
      (first
       | (go_at_call 99;refine (lG x a1 _).mono ?_;rintro e w3 ⟨rfl,hx3⟩))
     go_upto_region 12 with fail
     have hmn:I64 (if aW x - 1<rv then aW x - 1 else rv):=by
      unfold I64 at hi64 ⊢;split <;> omega
     clear hopw;generalize (if aW x - 1<rv then aW x - 1 else rv)=mn at *
     have HC64:=a4b (show I64 (if 0<mn then mn else 0) by
      split
      ·exact hmn
      ·exact jE)
     clear hmn;generalize (if 0<mn then mn else 0)=cv at *;have HX3:=a4b ((aq wr).drew'.trans' hx3);clear hx3 gp;have hsz3:=HX3.out.size;have HB3:=a4b (HB.out.ext HX3.out);have BT3:=a4b ((BTW.out.fr HFR.out I).ext HX3.out);clear r0 r1 r2 r3 r4 r5 r6 f0 f1 f2 f3 f4 f5 f6 y0 cc0 cc1 cc2 cc3 cc4 cc5 cc6 cc7 cc8 cc9 cc10 cc11;go_upto_region 13 with (at_builtin;go_must (refine aN _ rfl (.tmp 45) (.tmp 47) 22 ba W 3 i3 _ 1 8 Tryz.underlying22 HI3.out hz30 hz31 hz32 rfl I (.slice A7 p c7) _ _ rfl ((HOWN.out.ext_ HX3.out).alloc _) (fun _=>True) (qp w3) 1 1 [.int .i64 cv] rfl (Sl.new w3 _ _ _ _ rfl) cd I I bh ?_);intro v9 w4 ho4 hf4 hb4);have HO4:=a4b (ho4.len_cast (show p.length+1=(p ++ [cv]).length by simp) (show p.map (Value.int .i64) ++ [.int .i64 cv]=(p ++ [cv]).map (Value.int .i64) by simp));have HOB:=a4b (show ∀ b,(Value.slice A7 p c7).ownBlock=some b->W<=b from fun b hb=>HOWN.out.block_ge hb);have HB4:=a4b ((HB3.out.alloc (qk #[↑cv] 3)).fr hf4 (fun e=>by have:=HOB.out _ e.symm;omega));have BT4:=a4b ((BT3.out.alloc (qk #[↑cv] 3)).fr hf4 (fun e=>by have:=HOB.out _ e.symm;omega))
     have HFR4:=a4b (show Fr (fun b=>b=g) W w4 from (HFR.out.trans (ar (HX3.out.alloc' (qk #[↑cv] 3)))).trans_new (hf4.mono (fun b hb=>.inr (HOB.out b hb.symm))));have HE4:=a4b (show Ext w w4 from Fr.new_ext ((ar HW.out).trans HFR4.out) (fun b hb=>by omega));obtain ⟨A9,c9,e9,-,-,-⟩:=Sl.of_own ho4;subst e9;have H64':=a4b (show ∀ z ∈ p ++ [cv],I64 z from fun z hz=>(ap.1 hz).elim (H64.out z) (fun h=>by rw [List.mem_singleton.1 h];exact HC64.out));have y0:=BT4.out.cell' (u:=.slice (qt b1 o1) t cn) 0 rfl;clear ho4 hf4 hb4;have HRC:=a4b (qU t (p ++ [cv]) (fun b=>b<w4.heap.size) (.slice (qt b1 o1) t cn) (.slice A9 (p+1) c9) w4 (HRD.out _ bh) hne (fun b hb=>hb) (HT.out.carry (aB.of_ext HE4.out) (fun b hb _=>by have:=HE4.out.size;omega)) (Ints.of_own (HO4.out.len_cast rfl rfl) H64'.out bh (fun b hb=>HO4.out.block_lt hb)));go_wp2_with fail;refine HRC.out.mono ?_;rintro e w5 ⟨A6,d6,sv6,rfl,-,⟨A8,m8,c8,rfl⟩,hx5⟩;have HX5:=a4b hx5;have HB5:=a4b (HB4.out.ext hx5);clear hx5 y0;have r0:=HB5.out.cell' (u:=.int .i64 (bF t p).val.kind) 0 rfl;have f0:=HB5.out.frozen 0;have r1:=HB5.out.cell' (u:=.int .i64 (bF t p).val.n) 1 rfl;have f1:=HB5.out.frozen 1;have r2:=HB5.out.cell' (u:=.string (bF t p).val.s) 2 rfl;have f2:=HB5.out.frozen 2;have r3:=HB5.out.cell' (u:=.slice A4 (bF t p).val.kids.length d4) 3 rfl;have f3:=HB5.out.frozen 3;have r4:=HB5.out.cell' (u:=.int .i64 (bF t p).used) 4 rfl;have f4:=HB5.out.frozen 4;have r5:=HB5.out.cell' (u:=.int .i64 (bF t p).stop) 5 rfl;have f5:=HB5.out.frozen 5;have r6:=HB5.out.cell' (u:=.slice A5 m5 c5) 6 rfl;have f6:=HB5.out.frozen 6;go_wp2_with fail;go_roundw
     case rel =>
      refine ⟨p ++ [cv],A6,d6,A8,m8,c8,?_,aDa HB5.out _ _ _ _ _ _ _,H64'.out,bh,?_,HFN.out.snoc HST.out (HFC1.out hlr)⟩
      ·exact aC9 ((HO4.out.ext_ HX5.out)) (show g<W by omega) (.int .i64 (bF t (p ++ [cv])).val.kind) (.int .i64 (bF t (p ++ [cv])).val.n) (.string (bF t (p ++ [cv])).val.s) (.slice A6 (bF t (p ++ [cv])).val.kids.length d6) (.int .i64 (bF t (p ++ [cv])).used) (.int .i64 (bF t (p ++ [cv])).stop) (.slice A8 m8 c8)
      ·exact aG2 ((HFR4.out.trans (ar HX5.out))) rfl (.int .i64 (bF t (p ++ [cv])).val.kind) (.int .i64 (bF t (p ++ [cv])).val.n) (.string (bF t (p ++ [cv])).val.s) (.slice A6 (bF t (p ++ [cv])).val.kids.length d6) (.int .i64 (bF t (p ++ [cv])).used) (.int .i64 (bF t (p ++ [cv])).stop) (.slice A8 m8 c8)
     case measure=>simp [lenOf];omega
    ·skip
     have HC64:=a4b (show I64 0 from jE);have HX3:=a4b (aq wr);go_upto_region 12 with fail;have hsz3:=HX3.out.size;have HB3:=a4b (HB.out.ext HX3.out);have BT3:=a4b ((BTW.out.fr HFR.out I).ext HX3.out);clear r0 r1 r2 r3 r4 r5 r6 f0 f1 f2 f3 f4 f5 f6 y0 cc0 cc1 cc2 cc3 cc4 cc5 cc6 cc7 cc8 cc9 cc10 cc11;go_upto_region 13 with (at_builtin;go_must (refine aN _ rfl (.tmp 45) (.tmp 47) 22 ba W 3 i3 _ 1 8 Tryz.underlying22 HI3.out hz30 hz31 hz32 rfl I (.slice A7 p c7) _ _ rfl ((HOWN.out.ext_ HX3.out).alloc _) (fun _=>True) (qp wr) 1 1 [qz] rfl (Sl.new wr _ _ _ _ rfl) cd I I bh ?_);intro v9 w4 ho4 hf4 hb4);have HO4:=a4b (ho4.len_cast (show p.length+1=(p ++ [0]).length by simp) (show p.map (Value.int .i64) ++ [↑qz]=(p ++ [0]).map (Value.int .i64) by simp));have HOB:=a4b (show ∀ b,(Value.slice A7 p c7).ownBlock=some b->W<=b from fun b hb=>HOWN.out.block_ge hb);have HB4:=a4b ((HB3.out.alloc (qk #[qz] 3)).fr hf4 (fun e=>by have:=HOB.out _ e.symm;omega));have BT4:=a4b ((BT3.out.alloc (qk #[qz] 3)).fr hf4 (fun e=>by have:=HOB.out _ e.symm;omega))
     have HFR4:=a4b (show Fr (fun b=>b=g) W w4 from (HFR.out.trans (ar (HX3.out.alloc' (qk #[qz] 3)))).trans_new (hf4.mono (fun b hb=>.inr (HOB.out b hb.symm))));have HE4:=a4b (show Ext w w4 from Fr.new_ext ((ar HW.out).trans HFR4.out) (fun b hb=>by omega));obtain ⟨A9,c9,e9,-,-,-⟩:=Sl.of_own ho4;subst e9;have H64':=a4b (show ∀ z ∈ p ++ [0],I64 z from fun z hz=>(ap.1 hz).elim (H64.out z) (fun h=>by rw [List.mem_singleton.1 h];exact HC64.out));have y0:=BT4.out.cell' (u:=.slice (qt b1 o1) t cn) 0 rfl;clear ho4 hf4 hb4;have HRC:=a4b (qU t (p ++ [0]) (fun b=>b<w4.heap.size) (.slice (qt b1 o1) t cn) (.slice A9 (p+1) c9) w4 (HRD.out _ bh) hne (fun b hb=>hb) (HT.out.carry (aB.of_ext HE4.out) (fun b hb _=>by have:=HE4.out.size;omega)) (Ints.of_own (HO4.out.len_cast rfl rfl) H64'.out bh (fun b hb=>HO4.out.block_lt hb)));go_wp2_with fail;refine HRC.out.mono ?_;rintro e w5 ⟨A6,d6,sv6,rfl,-,⟨A8,m8,c8,rfl⟩,hx5⟩;have HX5:=a4b hx5;have HB5:=a4b (HB4.out.ext hx5);clear hx5 y0;have r0:=HB5.out.cell' (u:=.int .i64 (bF t p).val.kind) 0 rfl;have f0:=HB5.out.frozen 0;have r1:=HB5.out.cell' (u:=.int .i64 (bF t p).val.n) 1 rfl;have f1:=HB5.out.frozen 1;have r2:=HB5.out.cell' (u:=.string (bF t p).val.s) 2 rfl;have f2:=HB5.out.frozen 2;have r3:=HB5.out.cell' (u:=.slice A4 (bF t p).val.kids.length d4) 3 rfl;have f3:=HB5.out.frozen 3;have r4:=HB5.out.cell' (u:=.int .i64 (bF t p).used) 4 rfl;have f4:=HB5.out.frozen 4;have r5:=HB5.out.cell' (u:=.int .i64 (bF t p).stop) 5 rfl;have f5:=HB5.out.frozen 5;have r6:=HB5.out.cell' (u:=.slice A5 m5 c5) 6 rfl;have f6:=HB5.out.frozen 6;go_wp2_with fail;go_roundw
     case rel =>
      refine ⟨p ++ [0],A6,d6,A8,m8,c8,?_,aDa HB5.out _ _ _ _ _ _ _,H64'.out,bh,?_,HFN.out.snoc HST.out (HFC0.out hlr)⟩
      ·exact aC9 ((HO4.out.ext_ HX5.out)) (show g<W by omega) (.int .i64 (bF t (p ++ [0])).val.kind) (.int .i64 (bF t (p ++ [0])).val.n) (.string (bF t (p ++ [0])).val.s) (.slice A6 (bF t (p ++ [0])).val.kids.length d6) (.int .i64 (bF t (p ++ [0])).used) (.int .i64 (bF t (p ++ [0])).stop) (.slice A8 m8 c8)
      ·exact aG2 ((HFR4.out.trans (ar HX5.out))) rfl (.int .i64 (bF t (p ++ [0])).val.kind) (.int .i64 (bF t (p ++ [0])).val.n) (.string (bF t (p ++ [0])).val.s) (.slice A6 (bF t (p ++ [0])).val.kids.length d6) (.int .i64 (bF t (p ++ [0])).used) (.int .i64 (bF t (p ++ [0])).stop) (.slice A8 m8 c8)
     case measure=>simp [lenOf];omega
   ·have ts:decide (0<=(bF t p).stop)=false:=a4f hst
    go_wp2_with fail;go_ret2;exact ⟨_,p,0,rfl,Ints.of_own HOWN.out H64.out I (fun b hb=>.inr (by have:=HOWN.out.block_ge hb;omega)),hpl,HEW.out,.inr ⟨hne,rfl,HFN.out,Int.not_le.2 hst⟩⟩
 ·have hl0:((t:Int) == 0)=true:=a4d I
  go_wp2_with fail;go_ret2;exact ⟨_,[],10,rfl,⟨none,0,rfl,O,O,O,⟨rfl,fun h=>absurd h O⟩⟩,O,HX1.out,.inl ⟨I,rfl,rfl⟩⟩
def aDg (l:List Int)(n:Nat):List Int:=(List.range n).map (fun i:Nat=>xB l (i:Int) 9 - xB l ((i:Int)+1) 20 / 19)
theorem aHa (l n):aDg l (n+1)=aDg l n ++ [xB l (n:Int) 9 - xB l ((n:Int)+1) 20 / 19]:=by
 unfold aDg;rw [List.range_succ];simp
theorem wZ (l n):(aDg l n)=n:=by unfold aDg;simp
def aJc (l0:List Int)(n:Nat)(w:World)(e:Ending)(w':World):Prop:=∃ (A:Option Addr)(c:Nat),e=.returned (.slice A (aDg l0 n) c)∧Ints w' (fun b=>w.heap.size<=b) (.slice A (aDg l0 n) c) (aDg l0 n)∧Ext w w'
def aRa (l0:List Int)(n:Nat)(W:World)(v i:Value)(wr:World):Prop :=
 ∃ (k:Nat) (l:List Int),k<=n∧i=↑k∧l=aDg l0 k∧l=k∧(∀ x ∈ l,I64 x)∧wr.ownsRow W 3 1 v k (l.map (Value.int .i64))∧Ext W wr
theorem aK5 (l)(n:Nat)(P v w)(hv:Ints w P v l)(hn:n<=1000):qg 45 #[v,↑n] w (aJc l n w):=by
 have HV:=a4b hv;obtain ⟨Al,cl,el,h1,h2⟩:=hv.form;subst el;clear hv;obtain ⟨i0,hi,hz0,hz1,hz2⟩:=info_parts Tryz.info3;have HI:=a4b hi;clear hi;go_enter Tryz.func45,Tryz.ntmps45;go_wp2_with fail;go_loopw [5,6] (fun v i wr=>aRa l n w v i wr) (fun _ i _=>n - (intOf i).toNat)
 case atStart=>exact ⟨0,[],af _,rfl,rfl,rfl,O,aP _ _ _ _,aq _⟩
 case round =>
  obtain ⟨k,l',hk,rfl,hlf,hl',h64,hown,hx⟩:=hrel;have HLF:=a4b hlf;have HLS:=a4b (aHa l k);clear hlf;obtain ⟨A5,c5,e5,-,-,-⟩:=Sl.of_own hown;subst e5;have HOWN:=a4b hown;have H64:=a4b h64;have HX:=a4b hx;have hsz:=hx.size;have HL:=a4b hl';clear hown h64 hx hl';by_cases hlt:k<n
  ·have HP1:=a4b (kG l (k:Int) 9 P _ wr (HV.out.ext HX.out) br I I)
   have HP2:=a4b (kG l ((k:Int)+1) 20 P _ wr (HV.out.ext HX.out) br I I);have b1:=kF (l:=l) (i:=(k:Int)) (m:=9) I;have b2:=kF (l:=l) (i:=(k:Int)+1) (m:=20) I;generalize xB l (k:Int) 9=p1 at *;generalize xB l ((k:Int)+1) 20=p2 at *;go_wp2_with fail;refine HP1.out.mono ?_;rintro e w' ⟨rfl,rfl⟩;go_wp2_with fail;refine HP2.out.mono ?_;rintro e w' ⟨rfl,rfl⟩;go_wp2_with (at_builtin;go_must (refine aN _ rfl (.tmp 12) (.tmp 22) 22 ba w 3 i0 _ 1 8 Tryz.underlying22 HI.out hz0 hz1 hz2 rfl I (.slice A5 k c5) _ _ rfl (HOWN.out.alloc _) (fun _=>True) (qp wr) 1 1 [.int .i64 (p1 - p2 / 19)] rfl (Sl.new wr _ _ _ _ rfl) cd I I bh ?_);intro v9 w4 ho4 hf4 hb4);go_roundw
   case rel =>
    refine ⟨k+1,l' ++ [p1 - p2 / 19],I,by go_num,by rw [HLS.out,<- HLF.out],by rw [aa,HL.out];rfl,?_,?_,?_⟩
    ·intro x hx
     rcases ap.1 hx with hx | hx
     ·exact H64.out x hx
     ·simp only [List.mem_singleton] at hx;subst hx;unfold I64;omega
    ·exact ho4.len_cast rfl O
    ·exact Fr.new_ext (((ar HX.out).alloc _).trans hf4) (fun b hb=>HOWN.out.block_ge hb.symm)
   case measure=>simp [intOf];omega
  ·obtain rfl:k=n:=by omega
   have HH:=a4b (show Ints wr (fun b=>w.heap.size<=b) (.slice A5 k c5) l' from Ints.of_own (HOWN.out.len_cast HL.out.symm rfl) H64.out (by rw [HL.out];omega) (fun b hb=>HOWN.out.block_ge hb));go_wp2_with fail;go_ret;exact ⟨A5,c5,by rw [wZ];rfl,by rw [wZ,<- HLF.out];exact HH.out,HX.out⟩
def mkG (n:Int)(raw pf:List Int)(nf:Int):GG :=
 if n / 3 % 4=0 then ⟨if ¬ nf=0∨n % 23=0 then raw else pf,1,n % 2,0,n % 3 == 0⟩ else if n / 3 % 4=1 then ⟨if ¬ nf=0∨n % 23=0 then raw else pf,2,0,15,n % 3 == 0⟩ else ⟨if ¬ nf=0∨n % 23=0 then raw else pf,0,0,0,n % 3 == 0⟩
def zK (t:List GN)(l:List Int)(i:Nat)(x:GG):Prop:=∃ pf nf,vR t (aDg [l.getD (3*i) 0,l.getD (3*i+1) 0,l.getD (3*i+2) 0] 8) pf nf∧x=mkG (iC (l.getD (3*i) 0) 1048576) (aDg [l.getD (3*i) 0,l.getD (3*i+1) 0,l.getD (3*i+2) 0] 8) pf nf
section
variable {t:List GN}{l:List Int}{i k most:Nat}{gs gs':List GG}
theorem aJ6:∀ x pf nf,vR t (aDg [l.getD (3*i) 0,l.getD (3*i+1) 0,l.getD (3*i+2) 0] 8) pf nf->x=mkG (iC (l.getD (3*i) 0) 1048576) (aDg [l.getD (3*i) 0,l.getD (3*i+1) 0,l.getD (3*i+2) 0] 8) pf nf->zK t l i x:=fun _ pf nf h1 h2=>⟨pf,nf,h1,h2⟩
theorem aE2 {x y}(h:zK t l i x)(h':zK t l i y):x=y:=by
 obtain ⟨p,n,h1,rfl⟩:=h;obtain ⟨q,m,h2,rfl⟩:=h';obtain ⟨rfl,rfl⟩:=h1.uniq h2;rfl
theorem oI {x}(hl:gs=k)(h:∀ i,i<k->3*i+2<l.length∧zK t l i (gs.getD i default))(h1:3*k+2<l)(hx:zK t l k x):∀ i,i<k+1->3*i+2<l.length∧zK t l i ((gs ++ [x]).getD i default):=by
 intro i hi;rcases Nat.lt_or_ge i k with h2 | h2
 ·have:=h i h2
  rwa [show (gs ++ [x]).getD i default=gs.getD i default by simp [List.getD,List.getElem?_append_left (show i<gs by omega)]]
 ·obtain rfl:i=k:=by omega
  subst hl;rw [show (gs ++ [x]).getD gs default=x by simp [List.getD]];exact ⟨h1,hx⟩
def lK (t:List GN)(l:List Int)(most:Nat)(gs:List GG):Prop:=gs.length<=most∧(∀ i,i<gs.length->3*i+2<l.length∧zK t l i (gs.getD i default))∧(gs<most->¬ 3*gs.length+2<l)
theorem lK.uniq (h:lK t l most gs)(h':lK t l most gs'):gs=gs':=by
 have hl:gs.length=gs':=by
  rcases Nat.lt_trichotomy gs gs'.length with h1 | h1 | h1
  ·have:=(h'.2.1 _ h1).1
   exact absurd this (h.2.2 (by have:=h'.1;omega))
  ·exact h1
  ·have:=(h.2.1 _ h1).1
   exact absurd this (h'.2.2 ji)
 refine List.ext_getElem hl (fun i h1 h2=>?_);have:=aE2 (h.2.1 i h1).2 (h'.2.1 i h2).2
 simpa [List.getD,h1,h2] using this
end
def qT (t:List GN)(l:List Int)(S:Nat->Prop)(most:Nat)(w:World)(e:Ending)(w':World):Prop:=∃ A c gs,e=.returned (.slice A gs.length c)∧Gvs w' (fun b=>b<w'.heap.size∧S b) (.slice A gs.length c) gs∧gs<=most∧Ext w w'∧lK t l most gs
def aMn (t:List GN)(l:List Int)(S:Nat->Prop)(most:Nat)(W:World)(v i:Value)(wr:World):Prop :=
 ∃ (k:Nat) (gs:List GG) (xs:List Value),k<=most∧i=↑k∧gs=k∧wr.ownsRow W 43 5 v k xs∧RL (RGg wr (fun b=>b<wr.heap.size∧some b ≠ v.ownBlock∧S b)) gs xs∧Ext W wr∧∀ i,i<k->3*i+2<l.length∧zK t l i (gs.getD i default)
theorem rF (t l)(most:Nat)(P Q:Nat->Prop)(vn vl)(w:World)(hgd:aY t=0)(hfw:∀ x ∈ t,x.kind=3->x.kids.length<=5)(hlen:t.length<=14)(hmost:most<=1000)(hP:∀ b,P b->b<w)(hQ:∀ b,Q b->b<w)(ht:Nds w P vn t)(hl:Ints w Q vl l) :
  qg 11 #[.agg #[vn],vl,↑most] w (qT t l (fun b=>P b∨w<=b) most w):=by
 have HT:=a4b ht;have HL:=a4b hl;have HGD:=a4b hgd;have HFW:=a4b hfw;have HP:=a4b hP;obtain ⟨An,cn,en,hn1,hn2⟩:=ht.form;subst en;obtain ⟨Al,cl,el,hl1,hl2⟩:=hl.form;subst el;obtain ⟨i0,hi,hz0,hz1,hz2⟩:=info_parts Tryz.info43;have HI:=a4b hi;clear ht hl hgd hfw hP hQ hi;go_enter Tryz.func11,Tryz.ntmps11;go_wp2_with fail;have HE:=a4b ((aq w).alloc' (qk #[.slice An t cn] 25));have HB:=a4b (aw w 25 #[.slice An t cn]);generalize w.alloc (qk #[.slice An t cn] 25)=W at *;have hsW:=HE.out.size;go_loopw [7,8] (fun v i wr=>aMn t l (fun b=>P b∨w<=b) most W v i wr) (fun _ i _=>most - (intOf i).toNat)
 case atStart=>exact ⟨0,[],[],af _,rfl,rfl,aP _ _ _ _,fy,aq _,fun i hi=>by omega⟩
 case round =>
  obtain ⟨k,gs,xs,hk,rfl,hgl,hown,hr,hx,hsg⟩:=hrel;have HSG:=a4b hsg;have HGO:=a4b (aJ6 (t:=t) (l:=l) (i:=k));clear hsg;obtain ⟨A7,c7,e7,-,-,-⟩:=Sl.of_own hown;subst e7;have HOWN:=a4b hown;have HR:=a4b hr;have HX:=a4b hx;have HGL:=a4b hgl;have hsz:=hx.size;have HDONE:=a4b (show (k<most->¬ 3*k+2<l)->qT t l (fun b=>P b∨w<=b) most w (.returned (.slice A7 k c7)) wr from fun hstop=>⟨A7,c7,gs,by rw [hgl],by rw [hgl];exact Lst.of_own (hown.len_cast hgl.symm rfl) (hr.move aL3 (fun _ _ _=>rfl) (fun _ _ h=>⟨h.1,h.2.2⟩)) I (fun b hb=>⟨hown.block_lt hb,.inr (ae hsW (hown.block_ge hb))⟩),I,HE.out.trans' hx,by rw [hgl];exact hk,fun i hi=>HSG.out i (by rw [<- hgl];exact hi),by rw [hgl];exact hstop⟩);clear hown hr hx hgl;by_cases h1:3*k+2<l
  ·have d1:decide (3*(k:Int)+2<(l:Int))=true:=a4e I
   by_cases h2:k<most
   ·have d2:decide ((k:Int)<(most:Int))=true:=a4e I
    clear HDONE;obtain ⟨bl,ol,rfl,-,i64a,ga⟩:=(HL.out.ext (HE.out.trans' HX.out)).get (i:=3*k) I;obtain ⟨bl',ol',e',-,i64b,gb⟩:=(HL.out.ext (HE.out.trans' HX.out)).get (i:=3*k+1) I;injection e' with e';injection e' with e1 e2;subst e1 e2;obtain ⟨bl',ol',e',-,i64c,gc⟩:=(HL.out.ext (HE.out.trans' HX.out)).get (i:=3*k+2) I;injection e' with e';injection e' with e1 e2;subst e1 e2;generalize l.getD (3*k) 0=xa at *;generalize l.getD (3*k+1) 0=xb at *;generalize l.getD (3*k+2) 0=xc at *;go_upto_region 6 with (go_at_call 9;refine (kZ xa 1048576 _ i64a I I).mono ?_;rintro e w' ⟨rfl,rfl⟩);have hna:=kY (n:=xa) (m:=1048576) I;generalize iC xa 1048576=n at *;have hw0:IntKind.i64.wrap (3*(k:Int))=3*(k:Int):=IntWalk.i64_in _ I;have hw1:IntKind.i64.wrap (3*(k:Int)+1)=3*(k:Int)+1:=IntWalk.i64_in _ I;have hw2:IntKind.i64.wrap (3*(k:Int)+2)=3*(k:Int)+2:=IntWalk.i64_in _ I;have q0:(0:Int)<=3*(k:Int):=by omega
    have q1:3*(k:Int)<(l:Int):=I;have q2:(0:Int)<=3*(k:Int)+1:=I;have q3:3*(k:Int)+1<(l:Int):=I;have q4:(0:Int)<=3*(k:Int)+2:=I;have q5:3*(k:Int)+2<(l:Int):=I
    have HRAW:=a4b (show qg 45 #[.slice (qp wr) 3 3,.int .i64 8] ((wr.alloc (qk #[↑xa,↑xb,↑xc] 3)).drew) (aJc [xa,xb,xc] 8 ((wr.alloc (qk #[↑xa,↑xb,↑xc] 3)).drew)) from
     aK5 [xa,xb,xc] 8 (fun _=>True) _ _ (Ints.ext (w:=wr.alloc (qk #[↑xa,↑xb,↑xc] 3)) ⟨some ↑(qp wr),3,rfl,O,O,by
      intro x hx;simp only [ao,List.not_mem_nil,or_false] at hx;rcases hx with rfl | rfl | rfl <;> assumption,Sl.new wr _ _ _ _ rfl⟩ (aq _).drew') I)
    rw [show 3*k=(3*(k:Int)).toNat by omega] at ga;rw [show 3*k+1=(3*(k:Int)+1).toNat by omega] at gb;rw [show 3*k+2=(3*(k:Int)+2).toNat by omega] at gc
    go_region_held3 (fun w'=>qc w' bl (ol+(3*(k:Int)).toNat) xa∧qc w' bl (ol+(3*(k:Int)+1).toNat) xb∧qc w' bl (ol+(3*(k:Int)+2).toNat) xc)
     (first
      | (go_split_ands
         with_reducible exact ⟨aA hx3 ‹_›,aA hx3 ‹_›,aA hx3 ‹_›⟩)
      | go_keep)
     (first
      | (go_at_call 45;refine HRAW.out.mono ?_;rintro e w3 ⟨A3,c3,rfl,hraw,hx3⟩;have HRL:=a4b (wZ [xa,xb,xc] 8);generalize aDg [xa,xb,xc] 8=raw at *))
    clear hw0 hw1 hw2 q0 q1 q2 q3 q4 q5 HRAW;have HX3:=a4b (show Ext wr w3 from ((aq wr).alloc' _).drew'.trans' hx3);have hs3:wr.heap.size+1<=w3:=by have:=hx3.size;simp at this;exact this
    have HOL:=a4b (show ∀ b,(Value.slice A7 k c7).ownBlock=some b->W<=b∧b<wr from fun b hb=>⟨HOWN.out.block_ge hb,HOWN.out.block_lt hb⟩);have HRW:=a4b (hraw.carry (Q:=fun b=>some b ≠ (Value.slice A7 k c7).ownBlock∧(P b∨w<=b)) (fun _ _ _=>rfl) (fun b hb h=>⟨fun e=>by have:=(HOL.out b e.symm).2;simp at h;omega,.inr (by simp at h;omega)⟩));have hcap:=hraw.form;have HT3:=a4b (HT.out.carry (Q:=fun b=>some b ≠ (Value.slice A7 k c7).ownBlock∧(P b∨w<=b)) (aB.of_ext (HE.out.trans' (HX.out.trans' HX3.out))) (fun b hb h=>⟨fun e=>by have:=(HOL.out b e.symm).1;have:=HP.out b h;omega,.inl h⟩));have b3:=(HB.out.ext (HX.out.trans' HX3.out)).cell' (u:=.slice An t cn) 0 rfl;clear hraw hx3 ga gb gc hcap;have HFT:=a4b (aLq t raw _ _ _ w3 HGD.out hlen HFW.out HT3.out HRW.out);go_upto_region 8 with (go_at_call 46;refine HFT.out.mono ?_;rintro e w4 ⟨vf,pf,nf,rfl,hpf,hpl,hx4,hfr0⟩);have HFRL:=a4b hfr0;clear hfr0;obtain ⟨Af,cf,ef,hpf1,hpf2⟩:=hpf.form;subst ef;have HX4:=a4b (HX3.out.trans' hx4)
    have HPF:=a4b (hpf.carry (Q:=fun b=>some b ≠ (Value.slice A7 k c7).ownBlock∧(P b∨w<=b)) (fun _ _ _=>rfl) (fun b hb h=>by
     rcases h with h | h
     ·exact h
     ·exact ⟨fun e=>by have:=(HOL.out b e.symm).2;omega,.inr I⟩))
    have HRW4:=a4b (HRW.out.ext hx4);clear hpf hx4 b3 HFT;go_cut [64] from 14 to 87 (fun s wx=>(∃ bb,s=.bool bb∧(bb=true ↔ (¬ nf=0∨n % 23=0)))∧w4=wx)
    case first =>
     by_cases he:nf=0
     ·have e1:(nf == 0)=true:=a4d he
      go_wp2_with fail;go_meet;exact ⟨⟨_,rfl,iz⟩,rfl⟩
     ·have e1:(nf == 0)=false:=a4c he
      go_wp2_with fail;go_meet;exact ⟨⟨_,rfl,iz⟩,rfl⟩
    case rest =>
     obtain ⟨⟨bb,rfl,hbb⟩,rfl⟩:=hcut;have HBB:=a4b hbb;clear hbb;go_upto_if 64 with fail;go_cut [11] from 14 to 87 (fun s wx=>(∃ A c p,s=.slice A p.length c∧Ints w4 (fun b=>some b ≠ (Value.slice A7 k c7).ownBlock∧(P b∨w<=b)) (.slice A p.length c) p∧p.length<=256∧p=(if ¬ nf=0∨n % 23=0 then raw else pf))∧w4=wx)
     case first =>
      cases bb
      ·go_wp2_with fail
       go_meet;exact ⟨⟨_,_,_,rfl,HPF.out,hpl,by rw [if_neg (fun h=>absurd (HBB.out.2 h) O)]⟩,rfl⟩
      ·go_wp2_with fail
       go_meet;exact ⟨⟨_,_,_,rfl,HRW4.out,by rw [HRL.out];omega,by rw [if_pos (HBB.out.1 trivial)]⟩,rfl⟩
     case rest =>
      obtain ⟨⟨Ap,cp,p,rfl,hp,hpl2,hpp⟩,rfl⟩:=hcut;have HPP:=a4b hpp;clear hpp;have HP2:=a4b hp;clear hp;have hs4:=HX4.out.size;generalize hfb:(n % 3 == 0)=fb at *;have HFB:=a4b hfb;by_cases s0:n / 3 % 4=0
      ·have t0:(n / 3 % 4 == 0)=true:=a4d s0
       have HSL:=a4b (show Sl ((w4.alloc (qk #[.slice Ap p cp,.int .i64 1,.int .i64 (n % 2),qz,fb] 43)).alloc (qk #[.slice Ap p cp,.int .i64 1,.int .i64 (n % 2),qz,fb] 43)) (fun _=>True) 5 (qp (w4+1)) 1 [.slice Ap p cp,.int .i64 1,.int .i64 (n % 2),qz,fb] from by
        have h:=Sl.new (w4.alloc (qk #[.slice Ap p cp,.int .i64 1,.int .i64 (n % 2),qz,fb] 43)) [.slice Ap p cp,.int .i64 1,.int .i64 (n % 2),qz,fb] 43 1 5 rfl;rw [World.size_alloc] at h;exact h)
       go_wp2_with (at_builtin;go_must (refine aN _ rfl (.tmp 84) (.tmp 86) 36 ba W 43 i0 _ 5 56 Tryz.underlying36 HI.out hz0 hz1 hz2 rfl I (.slice A7 k c7) k xs rfl (((HOWN.out.ext_ HX4.out).alloc _).alloc _) (fun _=>True) (qp (w4+1)) 1 1 [.slice Ap p cp,.int .i64 1,.int .i64 (n % 2),qz,fb] rfl HSL.out cd I I bh ?_);intro v9 w9 ho9 hf9 hb9);go_roundw
       case rel =>
        have hE5:Ext wr ((w4.alloc (qk #[.slice Ap p cp,.int .i64 1,.int .i64 (n % 2),qz,fb] 43)).alloc (qk #[.slice Ap p cp,.int .i64 1,.int .i64 (n % 2),qz,fb] 43)):=(HX4.out.alloc' _).alloc' _;have hfr:Fr (fun k'=>some k'=(Value.slice A7 k c7).ownBlock) wr w9:=(ar hE5).trans hf9;refine ⟨k+1,gs ++ [⟨p,1,(n % 2),0,fb⟩],xs ++ sH ⟨p,1,(n % 2),0,fb⟩ Ap cp,I,by go_num,by rw [aa,HGL.out];rfl,ho9,?_,Fr.new_ext ((ar HX.out).trans hfr) (fun b hb=>(HOL.out b hb.symm).1),oI HGL.out HSG.out h1 (HGO.out _ pf nf HFRL.out (by unfold mkG;rw [if_pos s0,<- HPP.out,<- HFB.out]))⟩;refine rE (W:=W) (HOWN.out.len_cast HGL.out.symm rfl) HR.out hE5 ⟨HP2.out.ext (((aq w4).alloc' _).alloc' _),hpl2,show I64 1 by unfold I64;omega,show I64 (n % 2) by unfold I64;omega,show I64 0 by unfold I64;omega⟩ hf9 ?_;rcases hb9 with h | h
        ·exact .inl h
        ·exact .inr ⟨_,h,O⟩
       case measure=>simp [intOf];omega
      ·have t0:(n / 3 % 4 == 0)=false:=a4c s0
       by_cases s1:n / 3 % 4=1
       ·have t1:(n / 3 % 4 == 1)=true:=a4d s1
        have HSL:=a4b (show Sl ((w4.alloc (qk #[.slice Ap p cp,.int .i64 2,qz,.int .i64 15,fb] 43)).alloc (qk #[.slice Ap p cp,.int .i64 2,qz,.int .i64 15,fb] 43)) (fun _=>True) 5 (qp (w4+1)) 1 [.slice Ap p cp,.int .i64 2,qz,.int .i64 15,fb] from by
         have h:=Sl.new (w4.alloc (qk #[.slice Ap p cp,.int .i64 2,qz,.int .i64 15,fb] 43)) [.slice Ap p cp,.int .i64 2,qz,.int .i64 15,fb] 43 1 5 rfl;rw [World.size_alloc] at h;exact h)
        go_wp2_with (at_builtin;go_must (refine aN _ rfl (.tmp 84) (.tmp 86) 36 ba W 43 i0 _ 5 56 Tryz.underlying36 HI.out hz0 hz1 hz2 rfl I (.slice A7 k c7) k xs rfl (((HOWN.out.ext_ HX4.out).alloc _).alloc _) (fun _=>True) (qp (w4+1)) 1 1 [.slice Ap p cp,.int .i64 2,qz,.int .i64 15,fb] rfl HSL.out cd I I bh ?_);intro v9 w9 ho9 hf9 hb9);go_roundw
        case rel =>
         have hE5:Ext wr ((w4.alloc (qk #[.slice Ap p cp,.int .i64 2,qz,.int .i64 15,fb] 43)).alloc (qk #[.slice Ap p cp,.int .i64 2,qz,.int .i64 15,fb] 43)):=(HX4.out.alloc' _).alloc' _;have hfr:Fr (fun k'=>some k'=(Value.slice A7 k c7).ownBlock) wr w9:=(ar hE5).trans hf9;refine ⟨k+1,gs ++ [⟨p,2,0,15,fb⟩],xs ++ sH ⟨p,2,0,15,fb⟩ Ap cp,I,by go_num,by rw [aa,HGL.out];rfl,ho9,?_,Fr.new_ext ((ar HX.out).trans hfr) (fun b hb=>(HOL.out b hb.symm).1),oI HGL.out HSG.out h1 (HGO.out _ pf nf HFRL.out (by unfold mkG;rw [if_neg s0,if_pos s1,<- HPP.out,<- HFB.out]))⟩;refine rE (W:=W) (HOWN.out.len_cast HGL.out.symm rfl) HR.out hE5 ⟨HP2.out.ext (((aq w4).alloc' _).alloc' _),hpl2,show I64 2 by unfold I64;omega,show I64 0 by unfold I64;omega,show I64 15 by unfold I64;omega⟩ hf9 ?_;rcases hb9 with h | h
         ·exact .inl h
         ·exact .inr ⟨_,h,O⟩
        case measure=>simp [intOf];omega
       ·have t1:(n / 3 % 4 == 1)=false:=a4c s1
        have HSL:=a4b (show Sl ((w4.alloc (qk #[.slice Ap p cp,qz,qz,qz,fb] 43)).alloc (qk #[.slice Ap p cp,qz,qz,qz,fb] 43)) (fun _=>True) 5 (qp (w4+1)) 1 [.slice Ap p cp,qz,qz,qz,fb] from by
         have h:=Sl.new (w4.alloc (qk #[.slice Ap p cp,qz,qz,qz,fb] 43)) [.slice Ap p cp,qz,qz,qz,fb] 43 1 5 rfl;rw [World.size_alloc] at h;exact h)
        go_wp2_with (at_builtin;go_must (refine aN _ rfl (.tmp 84) (.tmp 86) 36 ba W 43 i0 _ 5 56 Tryz.underlying36 HI.out hz0 hz1 hz2 rfl I (.slice A7 k c7) k xs rfl (((HOWN.out.ext_ HX4.out).alloc _).alloc _) (fun _=>True) (qp (w4+1)) 1 1 [.slice Ap p cp,qz,qz,qz,fb] rfl HSL.out cd I I bh ?_);intro v9 w9 ho9 hf9 hb9);go_roundw
        case rel =>
         have hE5:Ext wr ((w4.alloc (qk #[.slice Ap p cp,qz,qz,qz,fb] 43)).alloc (qk #[.slice Ap p cp,qz,qz,qz,fb] 43)):=(HX4.out.alloc' _).alloc' _;have hfr:Fr (fun k'=>some k'=(Value.slice A7 k c7).ownBlock) wr w9:=(ar hE5).trans hf9;refine ⟨k+1,gs ++ [⟨p,0,0,0,fb⟩],xs ++ sH ⟨p,0,0,0,fb⟩ Ap cp,I,by go_num,by rw [aa,HGL.out];rfl,ho9,?_,Fr.new_ext ((ar HX.out).trans hfr) (fun b hb=>(HOL.out b hb.symm).1),oI HGL.out HSG.out h1 (HGO.out _ pf nf HFRL.out (by unfold mkG;rw [if_neg s0,if_neg s1,<- HPP.out,<- HFB.out]))⟩;refine rE (W:=W) (HOWN.out.len_cast HGL.out.symm rfl) HR.out hE5 ⟨HP2.out.ext (((aq w4).alloc' _).alloc' _),hpl2,show I64 0 by unfold I64;omega,show I64 0 by unfold I64;omega,show I64 0 by unfold I64;omega⟩ hf9 ?_;rcases hb9 with h | h
         ·exact .inl h
         ·exact .inr ⟨_,h,O⟩
        case measure=>simp [intOf];omega
   ·have d2:decide ((k:Int)<(most:Int))=false:=a4f I
    go_wp2_with fail;go_ret;exact HDONE.out (fun h=>absurd h h2)
  ·have d1:decide (3*(k:Int)+2<(l:Int))=false:=a4f I
   go_wp2_with fail;go_ret;exact HDONE.out (fun _=>h1)
noncomputable def aYa:=RG Tryz.f26 0
noncomputable def aS2:=RG Tryz.f26 1
noncomputable def aS1:=RG Tryz.f26 2
noncomputable def aX9:=RG Tryz.f26 3
noncomputable def aS0:=RG Tryz.f26 4
noncomputable def aX8:=RG Tryz.f26 5
noncomputable def aSz:=RG Tryz.f26 6
noncomputable def aPt:=RG Tryz.f26 7
noncomputable def aPs:=RG Tryz.f26 8
noncomputable def aX7:=RG Tryz.f26 9
def fP (t:List GN)(b:Int)(gs:List GG):List GE:=gs.foldl (fun L x=>lB (aL t) b L (mkE x.path x.kind x.at_ x.code x.fresh)) []
section
variable {t:List GN}{b:Int}{gs:List GG}{k:Nat}
theorem mY (hk:k<gs):fP t b (gs.take (k+1))=lB (aL t) b (fP t b (gs.take k)) (mkE (gs.getD k default).path (gs.getD k default).kind (gs.getD k default).at_ (gs.getD k default).code (gs.getD k default).fresh):=by
 unfold fP;rw [qE default hk,List.foldl_append];rfl
theorem qM:∀ k,k<=gs.length->(fP t b (gs.take k))<=k
 | 0,_=>by simp [fP]
 | k+1,h=>by
  have ih:=qM k I;rw [mY I];have:=aEi (aL t) b (fP t b (gs.take k)) (mkE (gs.getD k default).path (gs.getD k default).kind (gs.getD k default).at_ (gs.getD k default).code (gs.getD k default).fresh);omega
end
section
variable {Q:Exit->Act->World->Prop}{a:Act}{w:World}{gt gc n c i most:Nat}{b z:Int}{A:Option Addr}{vn vl:Value}{t:List GN}{l:List Int}{R:World->Prop}
theorem aO9 {R:Value->World->Prop}(hsz:a.tmps.size=54)(e4:qq a 4 (qp gt))(e1:qq a 1 b)(c4:qc w gt 0 vn)(hc:Calls Tryz.prog 10 #[.agg #[vn],↑b] w fun e w'=>∃ u,e=.returned (.tuple #[u,↑z])∧R u w')
  (h:∀ a' u w',Ag [2,3,4] a a'->qq a' 9 u->qq a' 10 z->R u w'->Q .normal a' w'):qw aS2 Q a w:=by
 refine rW ?_;iterate 2 refine lV ?_
 refine l_c rfl rfl rfl Tryz.func10 ba ba hc av ?_;rintro e w' ⟨u,rfl,hR⟩;refine ⟨_,rfl,?_⟩;iterate 5 refine l_v rfl rfl (by simp [execOp,go_sem,hsz];exact ⟨rfl,rfl⟩) ?_
 exact bS (h _ u _ Y dg dg hR)
theorem aO8 (hsz:a.tmps.size=54)(e9:qq a 9 (qp gc))(e10:qq a 10 qz)
  (h:∀ a',Ag [2,3,4,9] a a'->qq a' 24 false->Q .normal a' w):qw aS1 Q a w:=by
 refine rW ?_;iterate 3 refine lV ?_
 iterate 2 refine l_y rfl rfl rfl av dd rfl (by simp [execOp,go_sem, *];exact ⟨rfl,rfl⟩) ?_
 iterate 1 refine lV ?_
 exact bS (h _ Y av)
theorem aO7 (hsz:a.tmps.size=54)(e4:qq a 4 (qp gt))(e2:qq a 2 vl)(e3:qq a 3 (most:Int))(c4:qc w gt 0 vn){S}(hc:qg 11 #[.agg #[vn],vl,↑(most:Int)] w (qT t l S most w))
  (h:∀ a' A c gs w',Ag [9] a a'->Gvs w' (fun b=>b<w'.heap.size∧S b) (.slice A gs.length c) gs->gs<=most->Ext w w'->lK t l most gs->qq a' 11 (.slice A gs c)->Q .normal a' w'):qw aS0 Q a w:=by
 refine rW ?_;iterate 3 refine lV ?_
 refine l_c rfl rfl rfl Tryz.func11 ba ba hc av ?_;rintro e w' ⟨A,c,gs,rfl,h1,h2,h3,h4⟩;refine ⟨_,rfl,?_⟩;iterate 1 refine l_v rfl rfl (by simp [execOp,go_sem,hsz];exact ⟨rfl,rfl⟩) ?_
 exact bS (h _ A c gs w' Y h1 h2 h3 h4 dg)
theorem aO6 (hsz:a.tmps.size=54)(e11:qq a 11 (.slice A n c))(e12:qq a 12 (i:Int))(h:∀ a',Ag [9,11,12] a a'->qq a' 32 (decide (i<n))->Q .normal a' w):qw aSz Q a w:=by
 refine rW ?_;iterate 4 refine lV ?_
 exact bS (h _ Y av)
theorem aO5 (hsz:a.tmps.size=54)(e12:qq a 12 (i:Int))(hw:IntKind.i64.wrap ((i:Int)+1)=(i:Int)+1)(h:∀ a',Ag [9,11] a a'->qq a' 12 (.int .i64 ((i+1:Nat):Int))->Q .normal a' w):qw aPt Q a w:=by
 refine rW ?_;iterate 3 refine lV ?_
 exact bS (h _ Y av)
theorem aO4 {bg og d x A'}{r1:Bool}{r2:Int}(hsz:a.tmps.size=54)(e9:qq a 9 (qp gc))(e11:qq a 11 (.slice (qt bg og) n c))(e12:qq a 12 (i:Int))(hi:(i:Int)<(n:Int))(hG:∀ w',Ext w w'->GS bg (og+i*5) x A' d w')
  (hc1:∀ w1,Ext w w1->qg 13 #[.agg #[x.kind,x.at_,x.code]] w1 (dI (zY x.kind x.at_ x.code) w1))
  (hc2:∀ w1,Ext w w1->Calls Tryz.prog 12 #[qp gc,.slice A' x.path d,zY x.kind x.at_ x.code,x.fresh] w1 fun e w'=>e=.returned (.tuple #[r1,↑r2])∧R w'∧GS bg (og+i*5) x A' d w')
  (h:∀ a' w',Ag [9,11,12] a a'->R w'->Q .normal a' w'):qw aPs Q a w:=by
 conv=>arg 2;whnf
 have hx0:Ext w w.drew:=(aq w).drew';have hS:=hG _ hx0;refine dF (GS bg (og+i*5) x A' d) (fun _=>true) 18 U U ?_;generalize w.drew=W at *;refine d_t 2 [0,1,2,3,4,5,6,7,8,9,10,12,13,14,15,16] rfl U hS ?_;iterate 16 refine t_v rfl rfl rfl (fun w hw=>by simp [execOp,go_sem,hw.1,hw.2.1,hw.2.2.1,hw.2.2.2.1,hw.2.2.2.2,hsz,e9,e11,e12,hi];rfl) ?_
 refine t_e ?_;refine d_c 11 U rfl rfl rfl rfl Tryz.func13 ba ba (hc1 W hx0) dg ?_;rintro e w1 ⟨rfl,hx1⟩;refine ⟨_,rfl,fun _=>hG _ (hx0.trans' hx1),?_⟩;refine d_c 17 U rfl rfl rfl rfl Tryz.func12 ba ba (hc2 w1 (hx0.trans' hx1)) dg ?_;rintro e w2 ⟨rfl,hR,hS⟩;refine ⟨_,rfl,fun _=>hS,?_⟩;exact jN U (h _ _ Y hR)
end
noncomputable abbrev a26:Code:=.seq (.seq aSz (.cond (.tmp 32) .skip (.exit 0))) (.seq (.block 1 aPs) aPt)
noncomputable abbrev aNh:Code:=.seq aYa (.seq aS2 (.seq (.seq aS1 (.cond (.tmp 24) (.seq aX9 .ret) .skip)) (.seq aS0 (.seq (.seq aX8 (.block 0 (.loop a26))) (.seq aX7 .ret)))))
theorem aVp:Tryz.f26.body=some aNh:=U
def aQ7 (t:List GN)(b:Int)(l:List Int)(most:Nat)(w:World)(e:Ending)(w':World):Prop :=
 ∃ gs n1 g P v,lK t l most gs∧e=.returned (qp g.c)∧lC t n1 b (fP t b gs) g P v w w'∧Ext w w'
section
variable {t:List GN}{n1 vn vl:Value}{b:Int}{L:List GE}{g:CA}{P Z:Nat->Prop}{B:Nat}{w w1 ws:World}{a a0:Act}{gs:List GG}{Av:Option Addr}{cg most:Nat}{l:List Int}{R:Exit->Act->World->Prop}
def I26 (t:List GN)(n1:Value)(b:Int)(g:CA)(B:Nat)(Z:Nat->Prop)(gs:List GG)(Av:Option Addr)(cg:Nat)(a0:Act)(w:World)(k:Nat)(a:Act)(wr:World):Prop :=
 Ag [9,11] a0 a∧k<=gs∧qq a 12 (k:Int)∧∃ P v,lC t n1 b (fP t b (gs.take k)) g P v B wr∧Ext w wr∧Gvs wr Z (.slice Av gs cg) gs∧(∀ q,Z q->¬ g.M v q)∧∀ q,Z q->q<wr
theorem aAv {k}(hsz:a0.tmps.size=54)(e9:qq a0 9 (qp g.c))(e11:qq a0 11 (.slice Av gs cg))(hlen:gs.length<=1000)(hB:w<=B)(hI:I26 t n1 b g B Z gs Av cg a0 w k a w1)(hk:k<gs)
  (hR:∀ a' w',I26 t n1 b g B Z gs Av cg a0 w (k+1) a' w'->R .normal a' w'):qw (.seq (.block 1 aPs) aPt) R a w1:=by
 obtain ⟨hG,-,e12,P,v,hC,hE,hgv,hsep,hZl⟩:=hI;have z1:=hG.sz.trans hsz;have hfl:=qM (t:=t) (b:=b) (gs:=gs) k I;have hsn:=mY (t:=t) (b:=b) hk;obtain ⟨bg,og,A1,d1,rfl,hSb,ga,gc⟩:=hgv.get hk;have hgs:=GS.of gc;have hsh:=ga.short;generalize gs.getD k default=x at *;generalize fP t b (gs.take k)=L at *
 refine wp_seq (wp_block (aO4 (R:=fun w'=>gY t n1 b (lB (aL t) b L (mkE x.path x.kind x.at_ x.code x.fresh)) g P v w1 w') (r1:=tO (aL t) b L (mkE x.path x.kind x.at_ x.code x.fresh)) (r2:=yU (aL t) (mkE x.path x.kind x.at_ x.code x.fresh)) z1 (hG.get 9 e9) (hG.get 11 e11) e12 I (fun w' h=>hgs.ext h) (fun w1 _=>uM x.kind x.at_ x.code w1 ga.kind ga.at_ ga.code)
  (fun w2 hx=>(aCy t n1 b L g P Z v _ x.path x.kind x.at_ x.code x.fresh w2 (hC.ext hx).cor (ga.path.ext hx) hsep ga.kind ga.at_ ga.code I I).mono ?_) ?_))
 ·rintro e w' ⟨rfl,hA⟩
  have hA':=gY.of_ext hx hA;obtain ⟨_,_,-,-,hF,-⟩:=id hA';exact ⟨rfl,hA',hgs.keep (aB.of_fr hF hsep) hSb⟩
 intro a2 w2 g2 hA;have z2:=g2.sz.trans z1;obtain ⟨P2,v2,hC2,hF2,hF3,hP2,hM2⟩:=hC.after hA;have hs2:=hF2.size;refine aO5 (i:=k) z2 (g2.get 12 e12) (IntWalk.i64_in _ I) ?_;intro a3 g3 e12';refine hR _ _ ⟨hG.trans ((g2.mono rfl).trans g3),hk,e12',P2,v2,by rw [hsn];exact hC2,((ar hE).trans hF2).new_ext (fun q hq=>by omega),hgv.carry (aB.of_fr hF3 hsep) (fun _ _ h=>h),fun q hq hm=>?_,fun q hq=>ac (hZl q hq) hs2⟩;rcases hM2 q hm with h | h
 ·exact hsep q hq h
 ·have:=hZl q hq;omega
theorem aIa {Q:Nat->Prop}{A n c}(hv:aY t=0)(hfw:∀ x ∈ t,x.kind=3->x.kids.length<=5)(hsm:∀ x ∈ t,iD x)(hlen:t.length<=14)(hmost:most<=1000)(hb:0<=b∧b<=1099511627776)(hP:∀ q,P q->q<w)(hQ:∀ q,Q q->q<w)(ht:Nds w P (.slice A n c) t)(hl:Ints w Q vl l)
  (hsz:a.tmps.size=54)(e0:qq a 0 (.agg #[.slice A n c]))(e1:qq a 1 b)(e2:qq a 2 vl)(e3:qq a 3 (most:Int))
  (hR:∀ a' w' gs n1 g P v,a'.defers=a.defers->qq a' 8 (qp g.c)->lK t l most gs->lC t n1 b (fP t b gs) g P v w w'->Ext w w'->R .ret a' w'):qw aNh R a w:=by
 refine wp_seq ?_;refine rW ?_;iterate 2 refine lV ?_
 have hx0:Ext w (w.alloc (qk #[.slice A n c] 25)):=(aq w).alloc' _;have hB0:=(aw w 25 #[.slice A n c]).cell' (u:=.slice A n c) 0 rfl;refine bS ?_;generalize ha1:Pt (Pt a 4 (qp w)) 8 (.pointer none)=a1;have z1:a1.tmps.size=54:=by subst ha1;simp [hsz]
 have d1:a1.defers=a.defers:=by subst ha1;rfl
 have f4:qq a1 4 (qp w):=by subst ha1;simp [hsz]
 have f1:qq a1 1 b:=by subst ha1;simp [e1]
 have f2:qq a1 2 vl:=by subst ha1;simp [e2]
 have f3:qq a1 3 (most:Int):=by subst ha1;simp [e3]
 clear ha1;generalize w.alloc (qk #[.slice A n c] 25)=W at *;have hs0:=hx0.size;refine wp_seq (aO9 (z:=0) (R:=fun u w'=>∃ g P' vn',u=↑(qp g.c)∧lC t vn' b [] g P' qn W w'∧Ext W w') z1 f4 f1 hB0 ((mQ t P _ b W (fun k hk=>by have:=hP k hk;omega) (ht.ext hx0) hsm hv hb).mono ?_) ?_)
 ·rintro e w' ⟨g,P',vn',rfl,h1,h2⟩
  exact ⟨_,rfl,g,P',vn',rfl,h1,h2⟩
 rintro a2 u w2 g2 e9 e10 ⟨g,P2,n1,rfl,hC2,hx2⟩;have z2:=g2.sz.trans z1;have hs2:=hx2.size;refine wp_seq (wp_seq (aO8 z2 e9 e10 ?_));intro a3 g3 e24;have z3:=g3.sz.trans z2;refine wp_cond_false e24 (wp_skip ?_);have hxa:=hx0.trans' hx2;refine wp_seq (aO7 (S:=fun q=>P q∨w2<=q) (t:=t) (l:=l) z3 (g3.get 4 (g2.get 4 f4)) (g3.get 2 (g2.get 2 f2)) (g3.get 3 (g2.get 3 f3)) (aA hx2 hB0) (rF t l most P Q _ vl w2 hv hfw hlen hmost (fun q hq=>by have:=hP q hq;omega) (fun q hq=>by have:=hQ q hq;omega) (ht.ext hxa) (hl.ext hxa)) ?_);intro a4 Av cg gs w4 g4 hgv hgl hx4 hsome e11;have z4:=g4.sz.trans z3;refine wp_seq (wp_seq ?_);refine rW ?_;iterate 1 refine l_v rfl rfl (by simp [execOp,go_sem,z4];exact ⟨rfl,rfl⟩) ?_
 refine bS ?_;generalize ha5:Pt a4 12 qz=a5;have z5:a5.tmps.size=54:=by subst ha5;simp [z4]
 have d5:a5.defers=a.defers:=by subst ha5;exact (((g4.df.trans g3.df).trans g2.df).trans d1)
 have h9:qq a5 9 (qp g.c):=by subst ha5;simp [g4.get 9 (g3.get 9 e9)]
 have h11:qq a5 11 (.slice Av gs cg):=by subst ha5;simp [e11]
 have h12:qq a5 12 qz:=by subst ha5;simp [z4]
 clear ha5
 refine wp_block (wp_loop (fun a' w'=>∃ k,I26 t n1 b g W (fun q=>q<w4.heap.size∧(P q∨w2<=q)) gs Av cg a5 w k a' w') (fun a' _=>gs.length - (intOf (Ev a' (.tmp 12))).toNat)
  ⟨0,Ag.rf,af _,h12,P2,_,hC2.ext hx4,hxa.trans' hx4,hgv,fun q hq hm=>?_,fun q hq=>hq.1⟩ ?_)
 ·have:=hC2.lo q (.inr hm)
  rcases hq.2 with h | h
  ·have:=hP q h;omega
  ·omega
 rintro a6 w6 ⟨k,hI⟩;obtain ⟨hG,hk,e12,P6,v6,hC6,hE6,hgv6,hsep,hZl⟩:=id hI;have z6:=hG.sz.trans z5;refine wp_seq (wp_seq (aO6 z6 (hG.get 11 h11) e12 ?_));intro a7 g7 e32;have z7:=g7.sz.trans z6;have hG7:Ag [9,11] a5 a7:=hG.trans (g7.mono rfl);by_cases hl:k<gs
 ·refine wp_cond_true (e32.trans iy) (wp_skip ?_)
  refine aAv z5 h9 h11 I hs0 ⟨hG7,hk,g7.get 12 e12,P6,v6,hC6,hE6,hgv6,hsep,hZl⟩ hl ?_;intro a' W' h;refine ⟨⟨k+1,h⟩,?_⟩;rw [h.2.2.1,e12];simp [intOf];omega
 ·refine wp_cond_false (e32.trans iy) (wp_exit ?_)
  obtain rfl:k=gs:=I;rw [List.take_length] at hC6;have h79:=hG7.get 9 h9;refine wp_seq ?_;refine rW ?_;iterate 2 refine l_v rfl rfl (by simp [execOp,go_sem,z7,h79];exact ⟨rfl,rfl⟩) ?_
  exact bS (wp_ret (hR _ w6 gs n1 g P6 v6 (hG7.df.trans d5) (by simp [z7]) hsome ⟨hC6.cor,fun q hq=>⟨by have:=(hC6.lo q hq).1;omega,(hC6.lo q hq).2⟩⟩ hE6))
theorem aFq {Q:Nat->Prop}(hv:aY t=0)(hfw:∀ x ∈ t,x.kind=3->x.kids.length<=5)(hsm:∀ x ∈ t,iD x)(hlen:t.length<=14)(hmost:most<=1000)(hb:0<=b∧b<=1099511627776)(hP:∀ q,P q->q<w)(hQ:∀ q,Q q->q<w)(ht:Nds w P vn t)(hl:Ints w Q vl l) :
  qg 26 #[.agg #[vn],↑b,vl,↑(most:Int)] w (aQ7 t b l most w):=by
 obtain ⟨A,c,rfl,-,-⟩:=ht.form;refine calls_of_wp Tryz.func26 aVp (aIa hv hfw hsm hlen hmost hb hP hQ ht hl (by simp [Tryz.ntmps26]) ey ey ey ey ?_);intro a' w' gs n1 g P v h1 h2 h3 h4 h6;refine bodyPost_ret (v:=qp g.c) ?_ h1 ⟨gs,n1,g,P,v,h3,rfl,h4,h6⟩;have h5:a'.tmps[8]?.getD undef=↑(qp g.c):=by rw [<- h2];simp [Ev,Act.eval]
 simp [results,Tryz.results26,go_sem,h5]
end
