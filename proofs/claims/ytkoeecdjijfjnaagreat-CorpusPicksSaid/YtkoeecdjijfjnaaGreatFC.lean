/- Contracts of functions. Conditions: none. -/
import Derived.Deep.RegionHeld3
import Derived.Deep.DeepCutAuto
import Derived.Test.YtkoeecdjijfjnaaGreatL4
set_option maxRecDepth 100000
set_option maxHeartbeats 8000000
namespace Go.Proofs.YtkoeecdjijfjnaaGreat
open Go.RowKit
def aFm (t:List GN)(p:List Int):Prop:=0<=(bE t p).stop
def aMp (t:List GN)(raw p:List Int):Int :=
 if p.length<raw.length then (if 0<(if aP (t.getD (bE t p).stop.toNat default) - 1<raw.getD p.length 0 then aP (t.getD (bE t p).stop.toNat default) - 1 else raw.getD p.length 0) then (if aP (t.getD (bE t p).stop.toNat default) - 1<raw.getD p.length 0 then aP (t.getD (bE t p).stop.toNat default) - 1 else raw.getD p.length 0) else 0) else 0
section
variable {t:List GN}{raw p q:List Int}
theorem aHi:p.length<raw.length->(if 0<(if aP (t.getD (bE t p).stop.toNat default) - 1<raw.getD p.length 0 then aP (t.getD (bE t p).stop.toNat default) - 1 else raw.getD p.length 0) then (if aP (t.getD (bE t p).stop.toNat default) - 1<raw.getD p.length 0 then aP (t.getD (bE t p).stop.toNat default) - 1 else raw.getD p.length 0) else 0)=aMp t raw p:=fun h=>by unfold aMp;rw [if_pos h]
theorem aHj:¬ p.length<raw.length->0=aMp t raw p:=fun h=>by unfold aMp;rw [if_neg h]
def aC1 (t:List GN)(raw p:List Int):Prop:=∀ j,j<p.length->aFm t (p.take j)∧p.getD j 0=aMp t raw (p.take j)
theorem aC1.snoc {c:Int}(h:aC1 t raw p)(hs:aFm t p)(hc:c=aMp t raw p):aC1 t raw (p ++ [c]):=by
 intro j hj;rw [List.length_append,List.length_singleton] at hj;rcases Nat.lt_or_ge j p.length with h1 | h1
 ·have h2:=h j h1
  rw [List.take_append_of_le_length U];refine ⟨h2.1,?_⟩;rw [<- h2.2];simp [List.getD,List.getElem?_append_left h1]
 ·obtain rfl:j=p.length:=by omega
  rw [List.take_left];exact ⟨hs,by simp [<- hc]⟩
def sH (t:List GN)(raw p:List Int)(n:Int):Prop:=(t.length=0∧p=[]∧n=10)∨(0<t.length∧n=0∧aC1 t raw p∧¬ 0<=(bE t p).stop)
theorem aC1.same (h:aC1 t raw p)(h':aC1 t raw q):∀ j,j<=p.length->j<=q.length->p.take j=q.take j
 | 0,_,_=>by simp
 | j+1,h1,h2=>by
  have ih:=aC1.same h h' j U U;have e1:=(h j U).2;have e2:=(h' j U).2;rw [ih] at e1;rw [<- e2] at e1;rw [List.take_add_one,List.take_add_one,ih];have g1:p[j]?=some (p.getD j 0):=by simp [List.getD,show j<p.length by omega]
  have g2:q[j]?=some (q.getD j 0):=by simp [List.getD,show j<q.length by omega]
  rw [g1,g2,e1]
theorem sH.uniq {n m:Int}(h:sH t raw p n)(h':sH t raw q m):p=q∧n=m:=by
 rcases h with ⟨h1,rfl,rfl⟩ | ⟨h1,rfl,h2,h3⟩
 ·rcases h' with ⟨_,rfl,rfl⟩ | ⟨h4,_⟩
  ·exact ⟨rfl,rfl⟩
  ·omega
 ·rcases h' with ⟨h4,_⟩ | ⟨_,rfl,h4,h5⟩
  ·omega
  ·refine ⟨?_,rfl⟩
   rcases Nat.lt_trichotomy p.length q.length with hl | hl | hl
   ·have:=(h4 p.length hl).1
    rw [<- aC1.same h2 h4 p.length (Nat.le_refl _) U,List.take_length] at this;exact absurd this h3
   ·have:=aC1.same h2 h4 p.length (Nat.le_refl _) U
    rw [List.take_length,hl,List.take_length] at this;exact this
   ·have:=(h2 q.length hl).1
    rw [aC1.same h2 h4 q.length U (Nat.le_refl _),List.take_length] at this;exact absurd this h5
end
def aL8 (t:List GN)(raw:List Int)(P:Nat->Prop)(w:World)(e:Ending)(w':World):Prop :=
 ∃ (v:Value) (p:List Int) (n:Int),e=.returned (.tuple #[v,↑n])∧aU w' (New P w.heap.size) v p∧p.length<=256∧Ext w w'∧sH t raw p n
def aMk (t:List GN)(raw:List Int)(_:Nat->Prop)(W:World)(g:Nat)(v:Value)(wr:World):Prop :=
 ∃ (p:List Int) (A:Option Addr) (c:Nat) (A3:Option Addr) (m c3:Nat),wr.ownsRow W.heap.size 3 1 v p.length (p.map (Value.int .i64))∧Blk wr g 154 (cR (bE t p) A c (.slice A3 m c3))∧(∀ x ∈ p,I64 x)∧p.length<=256∧Fr (fun b=>b=g) W wr∧aC1 t raw p
theorem aHh (t:List GN)(raw:List Int)(P:Nat->Prop)(vn vp:Value)(w:World)(hv:cC t=0)(hsm:t.length<=14)(hfew:∀ x ∈ t,x.kind=3->x.kids.length<=5)(ht:Nds w P vn t)(hvp:aU w P vp raw) :
  Calls Tryz.prog 46 #[.agg #[vn],vp] w (aL8 t raw P w):=by
 have hgood:=fI.1 hv;have hRD:∀ p:List Int,p.length<=1000000->RdT t p:=fun p hp=>⟨hgood,hsm,hfew,hp⟩
 have HRD:=aYl hRD
 have hvl:∀ x ∈ t,x.values.length<=1000000:=by
  intro x hx;obtain ⟨j,hj,e⟩:=List.getElem_of_mem hx;have:=(fE hgood hj).2.1;have e2:t.getD j default=x:=by rw [<- e];simp [hj]
  rw [e2] at this;omega
 have HVL:=aYl hvl;have HT:=aYl ht;have HVP:=aYl hvp;have HV:=aYl hv;have HG:=aYl hgood;obtain ⟨An,cn,en,hn1,hn2⟩:=ht.form;subst en;obtain ⟨Ap,cp,ep,hp1,hp2⟩:=hvp.form;subst ep;obtain ⟨i3,hi3,hz30,hz31,hz32⟩:=info_parts Tryz.info3;have HI3:=aYl hi3;clear ht hvp hv hRD hfew hvl hgood hi3;go_enter Tryz.func46,Tryz.ntmps46;go_wp2_with fail;have HE:=aYl (show Ext w (w.alloc (.cells #[.slice An t.length cn] 25)) from (Ext.refl w).alloc' _);have HBT:=aYl (Blk.new w 25 #[.slice An t.length cn]);generalize hW:w.alloc (.cells #[.slice An t.length cn] 25)=W0 at *;clear hW;refine (jS t P _ _ (HT.out.ext HE.out) HVL.out).mono ?_;rintro e w1 ⟨rfl,hx1⟩;rw [HV.out];have HX1:=aYl (HE.out.trans' hx1);have BT1:=aYl (HBT.out.ext hx1);have y0:=BT1.out.cell' (u:=.slice An t.length cn) 0 rfl;clear hx1
 by_cases hne:0<t.length
 ·have hl0:((t.length:Int) == 0)=false:=aYm U
  go_wp2_with fail;refine (oK t [] (fun b=>b<w1.heap.size) _ _ _ (HRD.out [] Y) hne (fun b hb=>hb) (HT.out.carry (aB.of_ext HX1.out) (fun b hb _=>by have:=HX1.out.size;omega)) ⟨none,0,rfl,Y,Y,Y,⟨rfl,fun h=>absurd h Y⟩⟩).mono ?_;rintro e w2 ⟨A2,d2,sv,rfl,-,⟨A3,m3,c3,rfl⟩,hx2⟩;have HX2:=aYl (HX1.out.trans' hx2);have BT2:=aYl (BT1.out.ext hx2);clear hx2 y0;go_wp2_with fail;have HW:=aYl (show Ext w (w2.alloc (.cells (cR (bE t []) A2 d2 (.slice A3 m3 c3)) 154)) from HX2.out.alloc' _);have BTW:=aYl (BT2.out.alloc (.cells (cR (bE t []) A2 d2 (.slice A3 m3 c3)) 154));have BRW:=aYl (Blk.new w2 154 (cR (bE t []) A2 d2 (.slice A3 m3 c3)));have hlt2:w2.heap.size<(w2.alloc (.cells (cR (bE t []) A2 d2 (.slice A3 m3 c3)) 154)).heap.size:=by simp
  have hbt:=BT2.out.lt;generalize hW:w2.alloc (.cells (cR (bE t []) A2 d2 (.slice A3 m3 c3)) 154)=W at *;clear hW;generalize hg:w2.heap.size=g at *;clear hg;go_loopw [7] (fun v wr=>aMk t raw P W g v wr) (fun v _=>300 - lenOf v)
  case atStart=>exact ⟨[],A2,d2,A3,m3,c3,aN _ _ _ _,BRW.out,Y,Y,Fr.refl _ _,fun j hj=>by simp at hj⟩
  case round =>
   obtain ⟨p,A4,d4,A5,m5,c5,hown,hB,h64,hpl,hfr,hfn⟩:=hrel;have HFN:=aYl hfn;have HFC1:=aYl (aHi (t:=t) (raw:=raw) (p:=p));have HFC0:=aYl (aHj (t:=t) (raw:=raw) (p:=p));have HOWN:=aYl hown;have HB:=aYl hB;have H64:=aYl h64;have HFR:=aYl hfr;obtain ⟨A7,c7,e7,-,-,-⟩:=Sl.of_own hown;subst e7;have r0:=hB.cell' (u:=.int .i64 (bE t p).val.kind) 0 rfl;have r1:=hB.cell' (u:=.int .i64 (bE t p).val.n) 1 rfl;have r2:=hB.cell' (u:=.string (bE t p).val.s) 2 rfl;have r3:=hB.cell' (u:=.slice A4 (bE t p).val.kids.length d4) 3 rfl;have r4:=hB.cell' (u:=.int .i64 (bE t p).used) 4 rfl;have r5:=hB.cell' (u:=.int .i64 (bE t p).stop) 5 rfl;have r6:=hB.cell' (u:=.slice A5 m5 c5) 6 rfl;have f0:=hB.frozen 0;have f1:=hB.frozen 1;have f2:=hB.frozen 2;have f3:=hB.frozen 3;have f4:=hB.frozen 4;have f5:=hB.frozen 5;have f6:=hB.frozen 6;have HEW:=aYl (show Ext w wr from Fr.new_ext ((Fr.of_ext HW.out).trans hfr) (fun b hb=>by omega));clear hown hB h64 hfr hfn
   by_cases hst:0<=(bE t p).stop
   ·have HST:=aYl (show aFm t p from hst)
    have hstp:=aCs (HRD.out p U) hne hst;generalize hs:(bE t p).stop=s at *;clear hs;obtain ⟨hs1,hs2,hs3⟩:=hstp;obtain ⟨b1,o1,a1,rfl,-,ha1,hc1⟩:=(HT.out.ext HEW.out).get (i:=s.toNat) U;have HN:=aYl (HG.out.at_ (j:=s.toNat) U).node;have cc0:=hc1.c0;have cc1:=hc1.c1;have cc2:=hc1.c2;have cc3:=hc1.c3;have cc4:=hc1.c4;have cc5:=hc1.c5;have cc6:=hc1.c6;have cc7:=hc1.c7;have cc8:=hc1.c8;have cc9:=hc1.c9;have cc10:=hc1.c10;have cc11:=hc1.c11;have hkl1:=ha1.kids.le.2.1;clear hs3 hc1 ha1;generalize t.getD s.toNat default=x at *;have y0:=(BTW.out.fr HFR.out U).cell' (u:=.slice (some ⟨b1,o1,none⟩) t.length cn) 0 rfl;have hgw:=HFR.out.size
    by_cases hlr:p.length<raw.length
    ·obtain ⟨bp,op,rfl,-,hi64,gp⟩:=(HVP.out.ext HEW.out).get hlr
     generalize raw.getD p.length 0=rv at *;have hpl0:(0:Int)<=(p.length:Int):=by omega
     have hpl1:(p.length:Int)<(raw.length:Int):=U
     have hopt:=fX HN.out;have hnum:=cW HN.out.numbers
     have hob:0<=aP x∧aP x<=17592186044416:=by
      rw [hopt]
      split
      ·omega
      ·omega
     have hopw:IntKind.i64.wrap (aP x - 1)=aP x - 1:=IntWalk.i64_in _ U;clear hopt hnum;go_upto_region 11 with fail
     go_region_held3 (fun w'=>w'.cell? ⟨bp,op+p.length,none⟩=some (.int .i64 rv)∧w'.cell? ⟨w.heap.size,0,none⟩=some (.slice (some ⟨b1,o1,none⟩) t.length cn)∧w'.cell? ⟨g,5,none⟩=some (.int .i64 s)∧w'.cell? ⟨b1,o1+s.toNat*12,none⟩=some (.int .i64 x.kind)∧w'.cell? ⟨b1,o1+s.toNat*12+1,none⟩=some (.string x.name)∧w'.cell? ⟨b1,o1+s.toNat*12+2,none⟩=some (.int .i64 x.lo)∧w'.cell? ⟨b1,o1+s.toNat*12+3,none⟩=some (.int .i64 x.hi)∧w'.cell? ⟨b1,o1+s.toNat*12+4,none⟩=some (.slice a1.wA x.weights.length a1.wc)∧w'.cell? ⟨b1,o1+s.toNat*12+5,none⟩=some (.slice a1.lA x.labels.length a1.lc)∧w'.cell? ⟨b1,o1+s.toNat*12+6,none⟩=some (.slice a1.vA x.values.length a1.vc)∧w'.cell? ⟨b1,o1+s.toNat*12+7,none⟩=some (.slice a1.kA x.kids.length a1.kc)∧w'.cell? ⟨b1,o1+s.toNat*12+8,none⟩=some (.int .i64 x.value.kind)∧w'.cell? ⟨b1,o1+s.toNat*12+9,none⟩=some (.int .i64 x.value.n)∧w'.cell? ⟨b1,o1+s.toNat*12+10,none⟩=some (.string x.value.s)∧w'.cell? ⟨b1,o1+s.toNat*12+11,none⟩=some (.slice a1.xA x.value.kids.length a1.xc))
      (first
       | (go_split_ands
          with_reducible exact ⟨aA hx3 ‹_›,aA hx3 ‹_›,aA hx3 ‹_›,aA hx3 ‹_›,aA hx3 ‹_›,aA hx3 ‹_›,aA hx3 ‹_›,aA hx3 ‹_›,aA hx3 ‹_›,aA hx3 ‹_›,aA hx3 ‹_›,aA hx3 ‹_›,aA hx3 ‹_›,aA hx3 ‹_›,aA hx3 ‹_›⟩)
       | go_keep)
      (first
       | (go_at_call 99;refine (gU x a1 _).mono ?_;rintro e w3 ⟨rfl,hx3⟩))
     go_upto_region 12 with fail
     have hmn:I64 (if aP x - 1<rv then aP x - 1 else rv):=by
      unfold I64 at hi64 ⊢
      split <;> omega
     clear hopw;generalize (if aP x - 1<rv then aP x - 1 else rv)=mn at *
     have HC64:=aYl (show I64 (if 0<mn then mn else 0) by
      split
      ·exact hmn
      ·exact mN)
     clear hmn;generalize (if 0<mn then mn else 0)=cv at *;have HX3:=aYl ((Ext.refl wr).drew'.trans' hx3);clear hx3 gp;have hsz3:=HX3.out.size;have HB3:=aYl (HB.out.ext HX3.out);have BT3:=aYl ((BTW.out.fr HFR.out U).ext HX3.out);clear r0 r1 r2 r3 r4 r5 r6 f0 f1 f2 f3 f4 f5 f6 y0 cc0 cc1 cc2 cc3 cc4 cc5 cc6 cc7 cc8 cc9 cc10 cc11;go_upto_region 13 with (at_builtin;go_must (refine aK _ rfl (.tmp 45) (.tmp 47) 22 al W.heap.size 3 i3 _ 1 8 Tryz.underlying22 HI3.out hz30 hz31 hz32 rfl U (.slice A7 p.length c7) _ _ rfl ((HOWN.out.ext_ HX3.out).alloc _) (fun _=>True) (some ⟨w3.heap.size,0,none⟩) 1 1 [.int .i64 cv] rfl (Sl.new w3 _ _ _ _ rfl) af U U ab ?_);intro v9 w4 ho4 hf4 hb4);have HO4:=aYl (ho4.len_cast (show p.length+1=(p ++ [cv]).length by simp) (show p.map (Value.int .i64) ++ [.int .i64 cv]=(p ++ [cv]).map (Value.int .i64) by simp));have HOB:=aYl (show ∀ b,(Value.slice A7 p.length c7).ownBlock=some b->W.heap.size<=b from fun b hb=>HOWN.out.block_ge hb);have HB4:=aYl ((HB3.out.alloc (.cells #[↑cv] 3)).fr hf4 (fun e=>by have:=HOB.out _ e.symm;omega));have BT4:=aYl ((BT3.out.alloc (.cells #[↑cv] 3)).fr hf4 (fun e=>by have:=HOB.out _ e.symm;omega))
     have HFR4:=aYl (show Fr (fun b=>b=g) W w4 from (HFR.out.trans (Fr.of_ext (HX3.out.alloc' (.cells #[↑cv] 3)))).trans_new (hf4.mono (fun b hb=>.inr (HOB.out b hb.symm))));have HE4:=aYl (show Ext w w4 from Fr.new_ext ((Fr.of_ext HW.out).trans HFR4.out) (fun b hb=>by omega));obtain ⟨A9,c9,e9,-,-,-⟩:=Sl.of_own ho4;subst e9;have H64':=aYl (show ∀ z ∈ p ++ [cv],I64 z from fun z hz=>(List.mem_append.1 hz).elim (H64.out z) (fun h=>by rw [List.mem_singleton.1 h];exact HC64.out));have y0:=BT4.out.cell' (u:=.slice (some ⟨b1,o1,none⟩) t.length cn) 0 rfl;clear ho4 hf4 hb4;have HRC:=aYl (oK t (p ++ [cv]) (fun b=>b<w4.heap.size) (.slice (some ⟨b1,o1,none⟩) t.length cn) (.slice A9 (p.length+1) c9) w4 (HRD.out _ ab) hne (fun b hb=>hb) (HT.out.carry (aB.of_ext HE4.out) (fun b hb _=>by have:=HE4.out.size;omega)) (aU.of_own (HO4.out.len_cast rfl rfl) H64'.out ab (fun b hb=>HO4.out.block_lt hb)));go_wp2_with fail;refine HRC.out.mono ?_;rintro e w5 ⟨A6,d6,sv6,rfl,-,⟨A8,m8,c8,rfl⟩,hx5⟩;have HX5:=aYl hx5;have HB5:=aYl (HB4.out.ext hx5);clear hx5 y0;have r0:=HB5.out.cell' (u:=.int .i64 (bE t p).val.kind) 0 rfl;have f0:=HB5.out.frozen 0;have r1:=HB5.out.cell' (u:=.int .i64 (bE t p).val.n) 1 rfl
     have f1:=HB5.out.frozen 1;have r2:=HB5.out.cell' (u:=.string (bE t p).val.s) 2 rfl;have f2:=HB5.out.frozen 2;have r3:=HB5.out.cell' (u:=.slice A4 (bE t p).val.kids.length d4) 3 rfl;have f3:=HB5.out.frozen 3;have r4:=HB5.out.cell' (u:=.int .i64 (bE t p).used) 4 rfl;have f4:=HB5.out.frozen 4;have r5:=HB5.out.cell' (u:=.int .i64 (bE t p).stop) 5 rfl;have f5:=HB5.out.frozen 5;have r6:=HB5.out.cell' (u:=.slice A5 m5 c5) 6 rfl;have f6:=HB5.out.frozen 6;go_wp2_with fail;go_roundw
     case rel =>
      refine ⟨p ++ [cv],A6,d6,A8,m8,c8,?_,cK HB5.out _ _ _ _ _ _ _,H64'.out,ab,?_,HFN.out.snoc HST.out (HFC1.out hlr)⟩
      ·exact fR ((HO4.out.ext_ HX5.out)) (show g<W.heap.size by omega) (.int .i64 (bE t (p ++ [cv])).val.kind) (.int .i64 (bE t (p ++ [cv])).val.n) (.string (bE t (p ++ [cv])).val.s) (.slice A6 (bE t (p ++ [cv])).val.kids.length d6) (.int .i64 (bE t (p ++ [cv])).used) (.int .i64 (bE t (p ++ [cv])).stop) (.slice A8 m8 c8)
      ·exact aDi ((HFR4.out.trans (Fr.of_ext HX5.out))) rfl (.int .i64 (bE t (p ++ [cv])).val.kind) (.int .i64 (bE t (p ++ [cv])).val.n) (.string (bE t (p ++ [cv])).val.s) (.slice A6 (bE t (p ++ [cv])).val.kids.length d6) (.int .i64 (bE t (p ++ [cv])).used) (.int .i64 (bE t (p ++ [cv])).stop) (.slice A8 m8 c8)
     case measure=>simp [lenOf];omega
    ·skip
     have HC64:=aYl (show I64 0 from mN);have HX3:=aYl (Ext.refl wr);go_upto_region 12 with fail;have hsz3:=HX3.out.size;have HB3:=aYl (HB.out.ext HX3.out);have BT3:=aYl ((BTW.out.fr HFR.out U).ext HX3.out);clear r0 r1 r2 r3 r4 r5 r6 f0 f1 f2 f3 f4 f5 f6 y0 cc0 cc1 cc2 cc3 cc4 cc5 cc6 cc7 cc8 cc9 cc10 cc11;go_upto_region 13 with (at_builtin;go_must (refine aK _ rfl (.tmp 45) (.tmp 47) 22 al W.heap.size 3 i3 _ 1 8 Tryz.underlying22 HI3.out hz30 hz31 hz32 rfl U (.slice A7 p.length c7) _ _ rfl ((HOWN.out.ext_ HX3.out).alloc _) (fun _=>True) (some ⟨wr.heap.size,0,none⟩) 1 1 [.int .i64 0] rfl (Sl.new wr _ _ _ _ rfl) af U U ab ?_);intro v9 w4 ho4 hf4 hb4);have HO4:=aYl (ho4.len_cast (show p.length+1=(p ++ [0]).length by simp) (show p.map (Value.int .i64) ++ [.int .i64 0]=(p ++ [0]).map (Value.int .i64) by simp));have HOB:=aYl (show ∀ b,(Value.slice A7 p.length c7).ownBlock=some b->W.heap.size<=b from fun b hb=>HOWN.out.block_ge hb);have HB4:=aYl ((HB3.out.alloc (.cells #[.int .i64 0] 3)).fr hf4 (fun e=>by have:=HOB.out _ e.symm;omega));have BT4:=aYl ((BT3.out.alloc (.cells #[.int .i64 0] 3)).fr hf4 (fun e=>by have:=HOB.out _ e.symm;omega))
     have HFR4:=aYl (show Fr (fun b=>b=g) W w4 from (HFR.out.trans (Fr.of_ext (HX3.out.alloc' (.cells #[.int .i64 0] 3)))).trans_new (hf4.mono (fun b hb=>.inr (HOB.out b hb.symm))));have HE4:=aYl (show Ext w w4 from Fr.new_ext ((Fr.of_ext HW.out).trans HFR4.out) (fun b hb=>by omega));obtain ⟨A9,c9,e9,-,-,-⟩:=Sl.of_own ho4;subst e9;have H64':=aYl (show ∀ z ∈ p ++ [0],I64 z from fun z hz=>(List.mem_append.1 hz).elim (H64.out z) (fun h=>by rw [List.mem_singleton.1 h];exact HC64.out));have y0:=BT4.out.cell' (u:=.slice (some ⟨b1,o1,none⟩) t.length cn) 0 rfl;clear ho4 hf4 hb4;have HRC:=aYl (oK t (p ++ [0]) (fun b=>b<w4.heap.size) (.slice (some ⟨b1,o1,none⟩) t.length cn) (.slice A9 (p.length+1) c9) w4 (HRD.out _ ab) hne (fun b hb=>hb) (HT.out.carry (aB.of_ext HE4.out) (fun b hb _=>by have:=HE4.out.size;omega)) (aU.of_own (HO4.out.len_cast rfl rfl) H64'.out ab (fun b hb=>HO4.out.block_lt hb)));go_wp2_with fail;refine HRC.out.mono ?_;rintro e w5 ⟨A6,d6,sv6,rfl,-,⟨A8,m8,c8,rfl⟩,hx5⟩;have HX5:=aYl hx5;have HB5:=aYl (HB4.out.ext hx5);clear hx5 y0;have r0:=HB5.out.cell' (u:=.int .i64 (bE t p).val.kind) 0 rfl;have f0:=HB5.out.frozen 0;have r1:=HB5.out.cell' (u:=.int .i64 (bE t p).val.n) 1 rfl
     have f1:=HB5.out.frozen 1;have r2:=HB5.out.cell' (u:=.string (bE t p).val.s) 2 rfl;have f2:=HB5.out.frozen 2;have r3:=HB5.out.cell' (u:=.slice A4 (bE t p).val.kids.length d4) 3 rfl;have f3:=HB5.out.frozen 3;have r4:=HB5.out.cell' (u:=.int .i64 (bE t p).used) 4 rfl;have f4:=HB5.out.frozen 4;have r5:=HB5.out.cell' (u:=.int .i64 (bE t p).stop) 5 rfl;have f5:=HB5.out.frozen 5;have r6:=HB5.out.cell' (u:=.slice A5 m5 c5) 6 rfl;have f6:=HB5.out.frozen 6;go_wp2_with fail;go_roundw
     case rel =>
      refine ⟨p ++ [0],A6,d6,A8,m8,c8,?_,cK HB5.out _ _ _ _ _ _ _,H64'.out,ab,?_,HFN.out.snoc HST.out (HFC0.out hlr)⟩
      ·exact fR ((HO4.out.ext_ HX5.out)) (show g<W.heap.size by omega) (.int .i64 (bE t (p ++ [0])).val.kind) (.int .i64 (bE t (p ++ [0])).val.n) (.string (bE t (p ++ [0])).val.s) (.slice A6 (bE t (p ++ [0])).val.kids.length d6) (.int .i64 (bE t (p ++ [0])).used) (.int .i64 (bE t (p ++ [0])).stop) (.slice A8 m8 c8)
      ·exact aDi ((HFR4.out.trans (Fr.of_ext HX5.out))) rfl (.int .i64 (bE t (p ++ [0])).val.kind) (.int .i64 (bE t (p ++ [0])).val.n) (.string (bE t (p ++ [0])).val.s) (.slice A6 (bE t (p ++ [0])).val.kids.length d6) (.int .i64 (bE t (p ++ [0])).used) (.int .i64 (bE t (p ++ [0])).stop) (.slice A8 m8 c8)
     case measure=>simp [lenOf];omega
   ·have ts:decide (0<=(bE t p).stop)=false:=aYp hst
    go_wp2_with fail;go_ret2;exact ⟨_,p,0,rfl,aU.of_own HOWN.out H64.out U (fun b hb=>.inr (by have:=HOWN.out.block_ge hb;omega)),hpl,HEW.out,.inr ⟨hne,rfl,HFN.out,Int.not_le.2 hst⟩⟩
 ·have hl0:((t.length:Int) == 0)=true:=aYn U
  go_wp2_with fail;go_ret2;exact ⟨_,[],10,rfl,⟨none,0,rfl,Y,Y,Y,⟨rfl,fun h=>absurd h Y⟩⟩,Y,HX1.out,.inl ⟨U,rfl,rfl⟩⟩
def aAf (l:List Int)(n:Nat):List Int:=(List.range n).map (fun i:Nat=>tP l (i:Int) 9 - tP l ((i:Int)+1) 20 / 19)
theorem aDt (l:List Int)(n:Nat):aAf l (n+1)=aAf l n ++ [tP l (n:Int) 9 - tP l ((n:Int)+1) 20 / 19]:=by
 unfold aAf;rw [List.range_succ];simp
theorem tN (l:List Int)(n:Nat):(aAf l n).length=n:=by unfold aAf;simp
def aFn (l0:List Int)(n:Nat)(w:World)(e:Ending)(w':World):Prop:=∃ (A:Option Addr)(c:Nat),e=.returned (.slice A (aAf l0 n).length c)∧aU w' (fun b=>w.heap.size<=b) (.slice A (aAf l0 n).length c) (aAf l0 n)∧Ext w w'
def aMc (l0:List Int)(n:Nat)(W:World)(v i:Value)(wr:World):Prop :=
 ∃ (k:Nat) (l:List Int),k<=n∧i=↑k∧l=aAf l0 k∧l.length=k∧(∀ x ∈ l,I64 x)∧wr.ownsRow W.heap.size 3 1 v k (l.map (Value.int .i64))∧Ext W wr
theorem aGv (l:List Int)(n:Nat)(P:Nat->Prop)(v:Value)(w:World)(hv:aU w P v l)(hn:n<=1000):Calls Tryz.prog 45 #[v,↑n] w (aFn l n w):=by
 have HV:=aYl hv;obtain ⟨Al,cl,el,h1,h2⟩:=hv.form;subst el;clear hv;obtain ⟨i0,hi,hz0,hz1,hz2⟩:=info_parts Tryz.info3;have HI:=aYl hi;clear hi;go_enter Tryz.func45,Tryz.ntmps45;go_wp2_with fail;go_loopw [5,6] (fun v i wr=>aMc l n w v i wr) (fun _ i _=>n - (intOf i).toNat)
 case atStart=>exact ⟨0,[],Nat.zero_le _,rfl,rfl,rfl,Y,aN _ _ _ _,Ext.refl _⟩
 case round =>
  obtain ⟨k,l',hk,rfl,hlf,hl',h64,hown,hx⟩:=hrel;have HLF:=aYl hlf;have HLS:=aYl (aDt l k);clear hlf;obtain ⟨A5,c5,e5,-,-,-⟩:=Sl.of_own hown;subst e5;have HOWN:=aYl hown;have H64:=aYl h64;have HX:=aYl hx;have hsz:=hx.size;have HL:=aYl hl';clear hown h64 hx hl'
  by_cases hlt:k<n
  ·have HP1:=aYl (kC l (k:Int) 9 P _ wr (HV.out.ext HX.out) aj U U)
   have HP2:=aYl (kC l ((k:Int)+1) 20 P _ wr (HV.out.ext HX.out) aj U U);have b1:=kB (l:=l) (i:=(k:Int)) (m:=9) U;have b2:=kB (l:=l) (i:=(k:Int)+1) (m:=20) U;generalize tP l (k:Int) 9=p1 at *;generalize tP l ((k:Int)+1) 20=p2 at *;go_wp2_with fail;refine HP1.out.mono ?_;rintro e w' ⟨rfl,rfl⟩;go_wp2_with fail;refine HP2.out.mono ?_;rintro e w' ⟨rfl,rfl⟩;go_wp2_with (at_builtin;go_must (refine aK _ rfl (.tmp 12) (.tmp 22) 22 al w.heap.size 3 i0 _ 1 8 Tryz.underlying22 HI.out hz0 hz1 hz2 rfl U (.slice A5 k c5) _ _ rfl (HOWN.out.alloc _) (fun _=>True) (some ⟨wr.heap.size,0,none⟩) 1 1 [.int .i64 (p1 - p2 / 19)] rfl (Sl.new wr _ _ _ _ rfl) af U U ab ?_);intro v9 w4 ho4 hf4 hb4);go_roundw
   case rel =>
    refine ⟨k+1,l' ++ [p1 - p2 / 19],U,by go_num,by rw [HLS.out,<- HLF.out],by rw [List.length_append,HL.out];rfl,?_,?_,?_⟩
    ·intro x hx
     rcases List.mem_append.1 hx with hx | hx
     ·exact H64.out x hx
     ·simp only [List.mem_singleton] at hx;subst hx;unfold I64;omega
    ·exact ho4.len_cast rfl Y
    ·exact Fr.new_ext (((Fr.of_ext HX.out).alloc _).trans hf4) (fun b hb=>HOWN.out.block_ge hb.symm)
   case measure=>simp [intOf];omega
  ·obtain rfl:k=n:=by omega
   have HH:=aYl (show aU wr (fun b=>w.heap.size<=b) (.slice A5 k c5) l' from aU.of_own (HOWN.out.len_cast HL.out.symm rfl) H64.out (by rw [HL.out];omega) (fun b hb=>HOWN.out.block_ge hb));go_wp2_with fail;go_ret;exact ⟨A5,c5,by rw [tN];rfl,by rw [tN,<- HLF.out];exact HH.out,HX.out⟩
def mkG (n:Int)(raw pf:List Int)(nf:Int):GG :=
 if n / 3 % 4=0 then ⟨if ¬ nf=0∨n % 23=0 then raw else pf,1,n % 2,0,n % 3 == 0⟩ else if n / 3 % 4=1 then ⟨if ¬ nf=0∨n % 23=0 then raw else pf,2,0,15,n % 3 == 0⟩ else ⟨if ¬ nf=0∨n % 23=0 then raw else pf,0,0,0,n % 3 == 0⟩
def vK (t:List GN)(l:List Int)(i:Nat)(x:GG):Prop:=∃ pf nf,sH t (aAf [l.getD (3*i) 0,l.getD (3*i+1) 0,l.getD (3*i+2) 0] 8) pf nf∧x=mkG (jE (l.getD (3*i) 0) 1048576) (aAf [l.getD (3*i) 0,l.getD (3*i+1) 0,l.getD (3*i+2) 0] 8) pf nf
section
variable {t:List GN}{l:List Int}{i k most:Nat}{gs gs':List GG}
theorem aGg:∀ (x:GG) pf nf,sH t (aAf [l.getD (3*i) 0,l.getD (3*i+1) 0,l.getD (3*i+2) 0] 8) pf nf->x=mkG (jE (l.getD (3*i) 0) 1048576) (aAf [l.getD (3*i) 0,l.getD (3*i+1) 0,l.getD (3*i+2) 0] 8) pf nf->vK t l i x:=fun _ pf nf h1 h2=>⟨pf,nf,h1,h2⟩
theorem aBx {x y:GG}(h:vK t l i x)(h':vK t l i y):x=y:=by
 obtain ⟨p,n,h1,rfl⟩:=h;obtain ⟨q,m,h2,rfl⟩:=h';obtain ⟨rfl,rfl⟩:=h1.uniq h2
 rfl
theorem mS {x:GG}(hl:gs.length=k)(h:∀ i,i<k->3*i+2<l.length∧vK t l i (gs.getD i default))(h1:3*k+2<l.length)(hx:vK t l k x):∀ i,i<k+1->3*i+2<l.length∧vK t l i ((gs ++ [x]).getD i default):=by
 intro i hi;rcases Nat.lt_or_ge i k with h2 | h2
 ·have:=h i h2
  rwa [show (gs ++ [x]).getD i default=gs.getD i default by simp [List.getD,List.getElem?_append_left (show i<gs.length by omega)]]
 ·obtain rfl:i=k:=by omega
  subst hl;rw [show (gs ++ [x]).getD gs.length default=x by simp [List.getD]];exact ⟨h1,hx⟩
def kT (t:List GN)(l:List Int)(most:Nat)(gs:List GG):Prop:=gs.length<=most∧(∀ i,i<gs.length->3*i+2<l.length∧vK t l i (gs.getD i default))∧(gs.length<most->¬ 3*gs.length+2<l.length)
theorem kT.uniq (h:kT t l most gs)(h':kT t l most gs'):gs=gs':=by
 have hl:gs.length=gs'.length:=by
  rcases Nat.lt_trichotomy gs.length gs'.length with h1 | h1 | h1
  ·have:=(h'.2.1 _ h1).1
   exact absurd this (h.2.2 (by have:=h'.1;omega))
  ·exact h1
  ·have:=(h.2.1 _ h1).1
   exact absurd this (h'.2.2 ie)
 refine List.ext_getElem hl (fun i h1 h2=>?_);have:=aBx (h.2.1 i h1).2 (h'.2.1 i h2).2
 simpa [List.getD,h1,h2] using this
end
def oJ (t:List GN)(l:List Int)(S:Nat->Prop)(most:Nat)(w:World)(e:Ending)(w':World):Prop:=∃ A c gs,e=.returned (.slice A gs.length c)∧Gvs w' (fun b=>b<w'.heap.size∧S b) (.slice A gs.length c) gs∧gs.length<=most∧Ext w w'∧kT t l most gs
def aH8 (t:List GN)(l:List Int)(S:Nat->Prop)(most:Nat)(W:World)(v i:Value)(wr:World):Prop :=
 ∃ (k:Nat) (gs:List GG) (xs:List Value),k<=most∧i=↑k∧gs.length=k∧wr.ownsRow W.heap.size 43 5 v k xs∧RL (RGg wr (fun b=>b<wr.heap.size∧some b ≠ v.ownBlock∧S b)) gs xs∧Ext W wr∧∀ i,i<k->3*i+2<l.length∧vK t l i (gs.getD i default)
theorem vL (t:List GN)(l:List Int)(most:Nat)(P Q:Nat->Prop)(vn vl:Value)(w:World)(hgd:cC t=0)(hfw:∀ x ∈ t,x.kind=3->x.kids.length<=5)(hlen:t.length<=14)(hmost:most<=1000)(hP:∀ b,P b->b<w.heap.size)(_:∀ b,Q b->b<w.heap.size)(ht:Nds w P vn t)(hl:aU w Q vl l) :
  Calls Tryz.prog 11 #[.agg #[vn],vl,↑most] w (oJ t l (fun b=>P b∨w.heap.size<=b) most w):=by
 have HT:=aYl ht;have HL:=aYl hl;have HGD:=aYl hgd;have HFW:=aYl hfw;have HP:=aYl hP;obtain ⟨An,cn,en,hn1,hn2⟩:=ht.form;subst en;obtain ⟨Al,cl,el,hl1,hl2⟩:=hl.form;subst el;obtain ⟨i0,hi,hz0,hz1,hz2⟩:=info_parts Tryz.info43;have HI:=aYl hi;clear ht hl hgd hfw hP hi;go_enter Tryz.func11,Tryz.ntmps11;go_wp2_with fail;have HE:=aYl ((Ext.refl w).alloc' (.cells #[.slice An t.length cn] 25));have HB:=aYl (Blk.new w 25 #[.slice An t.length cn]);generalize w.alloc (.cells #[.slice An t.length cn] 25)=W at *;have hsW:=HE.out.size;go_loopw [7,8] (fun v i wr=>aH8 t l (fun b=>P b∨w.heap.size<=b) most W v i wr) (fun _ i _=>most - (intOf i).toNat)
 case atStart=>exact ⟨0,[],[],Nat.zero_le _,rfl,rfl,aN _ _ _ _,ey,Ext.refl _,fun i hi=>by omega⟩
 case round =>
  obtain ⟨k,gs,xs,hk,rfl,hgl,hown,hr,hx,hsg⟩:=hrel;have HSG:=aYl hsg;have HGO:=aYl (aGg (t:=t) (l:=l) (i:=k));clear hsg;obtain ⟨A7,c7,e7,-,-,-⟩:=Sl.of_own hown;subst e7;have HOWN:=aYl hown;have HR:=aYl hr;have HX:=aYl hx;have HGL:=aYl hgl;have hsz:=hx.size;have HDONE:=aYl (show (k<most->¬ 3*k+2<l.length)->oJ t l (fun b=>P b∨w.heap.size<=b) most w (.returned (.slice A7 k c7)) wr from fun hstop=>⟨A7,c7,gs,by rw [hgl],by rw [hgl];exact Lst.of_own (hown.len_cast hgl.symm rfl) (hr.move aHn (fun _ _ _=>rfl) (fun _ _ h=>⟨h.1,h.2.2⟩)) U (fun b hb=>⟨hown.block_lt hb,.inr (Nat.le_trans hsW (hown.block_ge hb))⟩),U,HE.out.trans' hx,by rw [hgl];exact hk,fun i hi=>HSG.out i (by rw [<- hgl];exact hi),by rw [hgl];exact hstop⟩);clear hown hr hx hgl
  by_cases h1:3*k+2<l.length
  ·have d1:decide (3*(k:Int)+2<(l.length:Int))=true:=aYo U
   by_cases h2:k<most
   ·have d2:decide ((k:Int)<(most:Int))=true:=aYo U
    clear HDONE;obtain ⟨bl,ol,rfl,-,i64a,ga⟩:=(HL.out.ext (HE.out.trans' HX.out)).get (i:=3*k) U;obtain ⟨bl',ol',e',-,i64b,gb⟩:=(HL.out.ext (HE.out.trans' HX.out)).get (i:=3*k+1) U;injection e' with e';injection e' with e1 e2;subst e1 e2;obtain ⟨bl',ol',e',-,i64c,gc⟩:=(HL.out.ext (HE.out.trans' HX.out)).get (i:=3*k+2) U;injection e' with e';injection e' with e1 e2;subst e1 e2;generalize l.getD (3*k) 0=xa at *;generalize l.getD (3*k+1) 0=xb at *;generalize l.getD (3*k+2) 0=xc at *;go_upto_region 6 with (go_at_call 9;refine (nE xa 1048576 _ i64a U U).mono ?_;rintro e w' ⟨rfl,rfl⟩);have hna:=nD (n:=xa) (m:=1048576) U;generalize jE xa 1048576=n at *;have hw0:IntKind.i64.wrap (3*(k:Int))=3*(k:Int):=IntWalk.i64_in _ U;have hw1:IntKind.i64.wrap (3*(k:Int)+1)=3*(k:Int)+1:=IntWalk.i64_in _ U;have hw2:IntKind.i64.wrap (3*(k:Int)+2)=3*(k:Int)+2:=IntWalk.i64_in _ U;have q0:(0:Int)<=3*(k:Int):=by omega
    have q1:3*(k:Int)<(l.length:Int):=U
    have q2:(0:Int)<=3*(k:Int)+1:=U
    have q3:3*(k:Int)+1<(l.length:Int):=U
    have q4:(0:Int)<=3*(k:Int)+2:=U
    have q5:3*(k:Int)+2<(l.length:Int):=U
    have HRAW:=aYl (show Calls Tryz.prog 45 #[.slice (some ⟨wr.heap.size,0,none⟩) 3 3,.int .i64 8] ((wr.alloc (.cells #[↑xa,↑xb,↑xc] 3)).drew) (aFn [xa,xb,xc] 8 ((wr.alloc (.cells #[↑xa,↑xb,↑xc] 3)).drew)) from
     aGv [xa,xb,xc] 8 (fun _=>True) _ _ (aU.ext (w:=wr.alloc (.cells #[↑xa,↑xb,↑xc] 3)) ⟨some ⟨wr.heap.size,0,none⟩,3,rfl,Y,Y,by
      intro x hx;simp only [List.mem_cons,List.not_mem_nil,or_false] at hx;rcases hx with rfl | rfl | rfl <;> assumption,Sl.new wr _ _ _ _ rfl⟩ (Ext.refl _).drew') U)
    rw [show 3*k=(3*(k:Int)).toNat by omega] at ga;rw [show 3*k+1=(3*(k:Int)+1).toNat by omega] at gb;rw [show 3*k+2=(3*(k:Int)+2).toNat by omega] at gc
    go_region_held3 (fun w'=>w'.cell? ⟨bl,ol+(3*(k:Int)).toNat,none⟩=some (.int .i64 xa)∧w'.cell? ⟨bl,ol+(3*(k:Int)+1).toNat,none⟩=some (.int .i64 xb)∧w'.cell? ⟨bl,ol+(3*(k:Int)+2).toNat,none⟩=some (.int .i64 xc))
     (first
      | (go_split_ands
         with_reducible exact ⟨aA hx3 ‹_›,aA hx3 ‹_›,aA hx3 ‹_›⟩)
      | go_keep)
     (first
      | (go_at_call 45;refine HRAW.out.mono ?_;rintro e w3 ⟨A3,c3,rfl,hraw,hx3⟩;have HRL:=aYl (tN [xa,xb,xc] 8);generalize aAf [xa,xb,xc] 8=raw at *))
    clear hw0 hw1 hw2 q0 q1 q2 q3 q4 q5 HRAW;have HX3:=aYl (show Ext wr w3 from ((Ext.refl wr).alloc' _).drew'.trans' hx3);have hs3:wr.heap.size+1<=w3.heap.size:=by have:=hx3.size;simp at this;exact this
    have HOL:=aYl (show ∀ b,(Value.slice A7 k c7).ownBlock=some b->W.heap.size<=b∧b<wr.heap.size from fun b hb=>⟨HOWN.out.block_ge hb,HOWN.out.block_lt hb⟩);have HRW:=aYl (hraw.carry (Q:=fun b=>some b ≠ (Value.slice A7 k c7).ownBlock∧(P b∨w.heap.size<=b)) (fun _ _ _=>rfl) (fun b hb h=>⟨fun e=>by have:=(HOL.out b e.symm).2;simp at h;omega,.inr (by simp at h;omega)⟩));have hcap:=hraw.form;have HT3:=aYl (HT.out.carry (Q:=fun b=>some b ≠ (Value.slice A7 k c7).ownBlock∧(P b∨w.heap.size<=b)) (aB.of_ext (HE.out.trans' (HX.out.trans' HX3.out))) (fun b hb h=>⟨fun e=>by have:=(HOL.out b e.symm).1;have:=HP.out b h;omega,.inl h⟩));have b3:=(HB.out.ext (HX.out.trans' HX3.out)).cell' (u:=.slice An t.length cn) 0 rfl;clear hraw hx3 ga gb gc hcap;have HFT:=aYl (aHh t raw _ _ _ w3 HGD.out hlen HFW.out HT3.out HRW.out);go_upto_region 8 with (go_at_call 46;refine HFT.out.mono ?_;rintro e w4 ⟨vf,pf,nf,rfl,hpf,hpl,hx4,hfr0⟩);have HFRL:=aYl hfr0;clear hfr0;obtain ⟨Af,cf,ef,hpf1,hpf2⟩:=hpf.form;subst ef;have HX4:=aYl (HX3.out.trans' hx4)
    have HPF:=aYl (hpf.carry (Q:=fun b=>some b ≠ (Value.slice A7 k c7).ownBlock∧(P b∨w.heap.size<=b)) (fun _ _ _=>rfl) (fun b hb h=>by
     rcases h with h | h
     ·exact h
     ·exact ⟨fun e=>by have:=(HOL.out b e.symm).2;omega,.inr U⟩))
    have HRW4:=aYl (HRW.out.ext hx4);clear hpf hx4 b3 HFT;go_cut [64] from 14 to 87 (fun s wx=>(∃ bb,s=.bool bb∧(bb=true ↔ (¬ nf=0∨n % 23=0)))∧w4=wx)
    case first =>
     by_cases he:nf=0
     ·have e1:(nf == 0)=true:=aYn he
      go_wp2_with fail;go_meet;exact ⟨⟨_,rfl,by simp [he]⟩,rfl⟩
     ·have e1:(nf == 0)=false:=aYm he
      go_wp2_with fail;go_meet;exact ⟨⟨_,rfl,by simp [he]⟩,rfl⟩
    case rest =>
     obtain ⟨⟨bb,rfl,hbb⟩,rfl⟩:=hcut;have HBB:=aYl hbb;clear hbb;go_upto_if 64 with fail;go_cut [11] from 14 to 87 (fun s wx=>(∃ A c p,s=.slice A p.length c∧aU w4 (fun b=>some b ≠ (Value.slice A7 k c7).ownBlock∧(P b∨w.heap.size<=b)) (.slice A p.length c) p∧p.length<=256∧p=(if ¬ nf=0∨n % 23=0 then raw else pf))∧w4=wx)
     case first =>
      cases bb
      ·go_wp2_with fail
       go_meet;exact ⟨⟨_,_,_,rfl,HPF.out,hpl,by rw [if_neg (fun h=>absurd (HBB.out.2 h) Y)]⟩,rfl⟩
      ·go_wp2_with fail
       go_meet;exact ⟨⟨_,_,_,rfl,HRW4.out,by rw [HRL.out];omega,by rw [if_pos (HBB.out.1 trivial)]⟩,rfl⟩
     case rest =>
      obtain ⟨⟨Ap,cp,p,rfl,hp,hpl2,hpp⟩,rfl⟩:=hcut;have HPP:=aYl hpp;clear hpp;have HP2:=aYl hp;clear hp;have hs4:=HX4.out.size;generalize hfb:(n % 3 == 0)=fb at *;have HFB:=aYl hfb
      by_cases s0:n / 3 % 4=0
      ·have t0:(n / 3 % 4 == 0)=true:=aYn s0
       have HSL:=aYl (show Sl ((w4.alloc (.cells #[.slice Ap p.length cp,.int .i64 1,.int .i64 (n % 2),.int .i64 0,.bool fb] 43)).alloc (.cells #[.slice Ap p.length cp,.int .i64 1,.int .i64 (n % 2),.int .i64 0,.bool fb] 43)) (fun _=>True) 5 (some ⟨w4.heap.size+1,0,none⟩) 1 [.slice Ap p.length cp,.int .i64 1,.int .i64 (n % 2),.int .i64 0,.bool fb] from by
        have h:=Sl.new (w4.alloc (.cells #[.slice Ap p.length cp,.int .i64 1,.int .i64 (n % 2),.int .i64 0,.bool fb] 43)) [.slice Ap p.length cp,.int .i64 1,.int .i64 (n % 2),.int .i64 0,.bool fb] 43 1 5 rfl;rw [World.size_alloc] at h;exact h)
       go_wp2_with (at_builtin;go_must (refine aK _ rfl (.tmp 84) (.tmp 86) 36 al W.heap.size 43 i0 _ 5 56 Tryz.underlying36 HI.out hz0 hz1 hz2 rfl U (.slice A7 k c7) k xs rfl (((HOWN.out.ext_ HX4.out).alloc _).alloc _) (fun _=>True) (some ⟨w4.heap.size+1,0,none⟩) 1 1 [.slice Ap p.length cp,.int .i64 1,.int .i64 (n % 2),.int .i64 0,.bool fb] rfl HSL.out af U U ab ?_);intro v9 w9 ho9 hf9 hb9);go_roundw
       case rel =>
        have hE5:Ext wr ((w4.alloc (.cells #[.slice Ap p.length cp,.int .i64 1,.int .i64 (n % 2),.int .i64 0,.bool fb] 43)).alloc (.cells #[.slice Ap p.length cp,.int .i64 1,.int .i64 (n % 2),.int .i64 0,.bool fb] 43)):=(HX4.out.alloc' _).alloc' _;have hfr:Fr (fun k'=>some k'=(Value.slice A7 k c7).ownBlock) wr w9:=(Fr.of_ext hE5).trans hf9;refine ⟨k+1,gs ++ [⟨p,1,(n % 2),0,fb⟩],xs ++ pO ⟨p,1,(n % 2),0,fb⟩ Ap cp,U,by go_num,ez,ho9,?_,Fr.new_ext ((Fr.of_ext HX.out).trans hfr) (fun b hb=>(HOL.out b hb.symm).1),mS HGL.out HSG.out h1 (HGO.out _ pf nf HFRL.out (by unfold mkG;rw [if_pos s0,<- HPP.out,<- HFB.out]))⟩;refine oT (W:=W) (HOWN.out.len_cast HGL.out.symm rfl) HR.out hE5 ⟨HP2.out.ext (((Ext.refl w4).alloc' _).alloc' _),hpl2,show I64 1 by unfold I64;omega,show I64 (n % 2) by unfold I64;omega,show I64 0 by unfold I64;omega⟩ hf9 ?_;rcases hb9 with h | h
        ·exact .inl h
        ·exact .inr ⟨_,h,Y⟩
       case measure=>simp [intOf];omega
      ·have t0:(n / 3 % 4 == 0)=false:=aYm s0
       by_cases s1:n / 3 % 4=1
       ·have t1:(n / 3 % 4 == 1)=true:=aYn s1
        have HSL:=aYl (show Sl ((w4.alloc (.cells #[.slice Ap p.length cp,.int .i64 2,.int .i64 0,.int .i64 15,.bool fb] 43)).alloc (.cells #[.slice Ap p.length cp,.int .i64 2,.int .i64 0,.int .i64 15,.bool fb] 43)) (fun _=>True) 5 (some ⟨w4.heap.size+1,0,none⟩) 1 [.slice Ap p.length cp,.int .i64 2,.int .i64 0,.int .i64 15,.bool fb] from by
         have h:=Sl.new (w4.alloc (.cells #[.slice Ap p.length cp,.int .i64 2,.int .i64 0,.int .i64 15,.bool fb] 43)) [.slice Ap p.length cp,.int .i64 2,.int .i64 0,.int .i64 15,.bool fb] 43 1 5 rfl;rw [World.size_alloc] at h;exact h)
        go_wp2_with (at_builtin;go_must (refine aK _ rfl (.tmp 84) (.tmp 86) 36 al W.heap.size 43 i0 _ 5 56 Tryz.underlying36 HI.out hz0 hz1 hz2 rfl U (.slice A7 k c7) k xs rfl (((HOWN.out.ext_ HX4.out).alloc _).alloc _) (fun _=>True) (some ⟨w4.heap.size+1,0,none⟩) 1 1 [.slice Ap p.length cp,.int .i64 2,.int .i64 0,.int .i64 15,.bool fb] rfl HSL.out af U U ab ?_);intro v9 w9 ho9 hf9 hb9);go_roundw
        case rel =>
         have hE5:Ext wr ((w4.alloc (.cells #[.slice Ap p.length cp,.int .i64 2,.int .i64 0,.int .i64 15,.bool fb] 43)).alloc (.cells #[.slice Ap p.length cp,.int .i64 2,.int .i64 0,.int .i64 15,.bool fb] 43)):=(HX4.out.alloc' _).alloc' _;have hfr:Fr (fun k'=>some k'=(Value.slice A7 k c7).ownBlock) wr w9:=(Fr.of_ext hE5).trans hf9;refine ⟨k+1,gs ++ [⟨p,2,0,15,fb⟩],xs ++ pO ⟨p,2,0,15,fb⟩ Ap cp,U,by go_num,ez,ho9,?_,Fr.new_ext ((Fr.of_ext HX.out).trans hfr) (fun b hb=>(HOL.out b hb.symm).1),mS HGL.out HSG.out h1 (HGO.out _ pf nf HFRL.out (by unfold mkG;rw [if_neg s0,if_pos s1,<- HPP.out,<- HFB.out]))⟩;refine oT (W:=W) (HOWN.out.len_cast HGL.out.symm rfl) HR.out hE5 ⟨HP2.out.ext (((Ext.refl w4).alloc' _).alloc' _),hpl2,show I64 2 by unfold I64;omega,show I64 0 by unfold I64;omega,show I64 15 by unfold I64;omega⟩ hf9 ?_;rcases hb9 with h | h
         ·exact .inl h
         ·exact .inr ⟨_,h,Y⟩
        case measure=>simp [intOf];omega
       ·have t1:(n / 3 % 4 == 1)=false:=aYm s1
        have HSL:=aYl (show Sl ((w4.alloc (.cells #[.slice Ap p.length cp,.int .i64 0,.int .i64 0,.int .i64 0,.bool fb] 43)).alloc (.cells #[.slice Ap p.length cp,.int .i64 0,.int .i64 0,.int .i64 0,.bool fb] 43)) (fun _=>True) 5 (some ⟨w4.heap.size+1,0,none⟩) 1 [.slice Ap p.length cp,.int .i64 0,.int .i64 0,.int .i64 0,.bool fb] from by
         have h:=Sl.new (w4.alloc (.cells #[.slice Ap p.length cp,.int .i64 0,.int .i64 0,.int .i64 0,.bool fb] 43)) [.slice Ap p.length cp,.int .i64 0,.int .i64 0,.int .i64 0,.bool fb] 43 1 5 rfl;rw [World.size_alloc] at h;exact h)
        go_wp2_with (at_builtin;go_must (refine aK _ rfl (.tmp 84) (.tmp 86) 36 al W.heap.size 43 i0 _ 5 56 Tryz.underlying36 HI.out hz0 hz1 hz2 rfl U (.slice A7 k c7) k xs rfl (((HOWN.out.ext_ HX4.out).alloc _).alloc _) (fun _=>True) (some ⟨w4.heap.size+1,0,none⟩) 1 1 [.slice Ap p.length cp,.int .i64 0,.int .i64 0,.int .i64 0,.bool fb] rfl HSL.out af U U ab ?_);intro v9 w9 ho9 hf9 hb9);go_roundw
        case rel =>
         have hE5:Ext wr ((w4.alloc (.cells #[.slice Ap p.length cp,.int .i64 0,.int .i64 0,.int .i64 0,.bool fb] 43)).alloc (.cells #[.slice Ap p.length cp,.int .i64 0,.int .i64 0,.int .i64 0,.bool fb] 43)):=(HX4.out.alloc' _).alloc' _;have hfr:Fr (fun k'=>some k'=(Value.slice A7 k c7).ownBlock) wr w9:=(Fr.of_ext hE5).trans hf9;refine ⟨k+1,gs ++ [⟨p,0,0,0,fb⟩],xs ++ pO ⟨p,0,0,0,fb⟩ Ap cp,U,by go_num,ez,ho9,?_,Fr.new_ext ((Fr.of_ext HX.out).trans hfr) (fun b hb=>(HOL.out b hb.symm).1),mS HGL.out HSG.out h1 (HGO.out _ pf nf HFRL.out (by unfold mkG;rw [if_neg s0,if_neg s1,<- HPP.out,<- HFB.out]))⟩;refine oT (W:=W) (HOWN.out.len_cast HGL.out.symm rfl) HR.out hE5 ⟨HP2.out.ext (((Ext.refl w4).alloc' _).alloc' _),hpl2,show I64 0 by unfold I64;omega,show I64 0 by unfold I64;omega,show I64 0 by unfold I64;omega⟩ hf9 ?_;rcases hb9 with h | h
         ·exact .inl h
         ·exact .inr ⟨_,h,Y⟩
        case measure=>simp [intOf];omega
   ·have d2:decide ((k:Int)<(most:Int))=false:=aYp U
    go_wp2_with fail;go_ret;exact HDONE.out (fun h=>absurd h h2)
  ·have d1:decide (3*(k:Int)+2<(l.length:Int))=false:=aYp U
   go_wp2_with fail;go_ret;exact HDONE.out (fun _=>h1)
end Go.Proofs.YtkoeecdjijfjnaaGreat
