/- Contracts and laws. Conditions: none. -/
import Derived.Test.YtkoeecdjijfjnaaGreatDoorK9
set_option linter.all false
set_option maxRecDepth 100000
set_option maxHeartbeats 8000000
namespace Go.Proofs.YtkoeecdjijfjnaaGreatDoor
open Go.RowKit
structure oG (t:List GN)(vn:Value)(b:Int)(L:List GE)(g:CA)(P:Nat->Prop)(v:Value)(B:Nat)(w:World):Prop where
 cor:dM t vn b L g P v w
 lo:∀ k,P k∨g.M v k->B<=k∧k<w
section
variable {t:List GN}{vn vn':Value}{b b':Int}{L L':List GE}{g g':CA}{P P':Nat->Prop}{v v':Value}{B:Nat}{w w':World}
theorem dM.mlt (h:dM t vn b L g P v w){k:Nat}(hk:g.M v k):k<w:=by
 rcases hk with rfl | hk
 ·exact h.box.lt
 ·obtain ⟨xs,h1,-⟩:=h.own
  exact ng h1 hk.symm
theorem oG.ext (h:oG t vn b L g P v B w)(hx:Ext w w'):oG t vn b L g P v B w':=⟨h.cor.ext hx,fun k hk=>⟨(h.lo k hk).1,ac (h.lo k hk).2 hx.size⟩⟩
theorem oG.after (h:oG t vn b L g P v B w)(ha:iN t vn b L' g P v w w'):∃ P' v',oG t vn b L' g P' v' B w'∧Fr (fun k=>B<=k) w w'∧Fr (g.M v) w w'∧(∀ k,P' k->P k∨w<=k)∧∀ k,g.M v' k->g.M v k∨w<=k:=by
 obtain ⟨P1,v1,h1,h2,h3,h4⟩:=ha;have hBw:B<=w:=by have:=h.lo g.c (.inr (.inl rfl));omega
 have hM:∀ k,g.M v1 k->g.M v k∨w<=k:=by
  intro k hk;rcases hk with hk | hk
  ·exact .inl (.inl hk)
  ·rcases h4 with h4 | ⟨k',h4,h5⟩
   ·exact .inl (.inr (by rw [hk,h4]))
   ·rw [h4] at hk;injection hk with hk;subst hk;exact .inr h5
 have hc:=h1.carry (Q:=fun k=>P1 k∧k<w') (fun _ _ _=>rfl) (fun k hk hp=>⟨hp,hk⟩) (fun k hk=>h1.excl k hk.1);refine ⟨fun k=>P1 k∧k<w',v1,⟨hc,?_⟩,h3.mono (fun k hk=>(h.lo k (.inr hk)).1),h3,fun k hk=>h2 k hk.1,hM⟩;intro k hk;rcases hk with ⟨hk,hlt⟩ | hk
 ·refine ⟨?_,hlt⟩
  rcases h2 k hk with h5 | h5
  ·exact (h.lo k (.inl h5)).1
  ·omega
 ·refine ⟨?_,hc.mlt hk⟩
  rcases hM k hk with h5 | h5
  ·exact (h.lo k (.inr h5)).1
  ·omega
def me (g:CA)(P:Nat->Prop)(v:Value)(g':CA)(P':Nat->Prop)(v':Value):Prop:=(∀ k,P k∨g.M v k->¬ g'.M v' k)∧∀ k,P' k∨g'.M v' k->¬ g.M v k
theorem me.swap (h:me g P v g' P' v'):me g' P' v' g P v:=⟨h.2,h.1⟩
theorem oG.other (h:oG t vn b L g P v B w)(h':oG t vn' b' L' g' P' v' B w)(ha:me g P v g' P' v'){L1:List GE}(hA:iN t vn b L1 g P v w w') :
  ∃ P1 v1,oG t vn b L1 g P1 v1 B w'∧oG t vn' b' L' g' P' v' B w'∧me g P1 v1 g' P' v'∧Fr (fun k=>B<=k) w w':=by
 obtain ⟨P1,v1,h1,h2,h3,h4,h5⟩:=h.after hA;refine ⟨P1,v1,h1,⟨h'.cor.carry (fun k hk hp=>h3.block k hk (ha.2 k hp)) (fun _ _ h=>h) h'.cor.excl,fun k hk=>⟨(h'.lo k hk).1,ac (h'.lo k hk).2 h2.size⟩⟩,⟨?_,?_⟩,h2⟩
 ·intro k hk hm
  have hlt:=(h'.lo k (.inr hm)).2;rcases hk with hk | hk
  ·rcases h4 k hk with h6 | h6
   ·exact ha.1 k (.inl h6) hm
   ·omega
  ·rcases h5 k hk with h6 | h6
   ·exact ha.1 k (.inr h6) hm
   ·omega
 ·intro k hk hm
  have hlt:=(h'.lo k hk).2;rcases h5 k hm with h6 | h6
  ·exact ha.2 k hk h6
  ·omega
end
def MG (gs:List (List Int))(a i:Nat):List (List Int):=(List.range i).map (fun j=>gs.getD ((a+gs - 1 - j) % gs.length) [])
def LZ (t:List GN)(b:Int)(w:World)(e:Ending)(w':World):Prop :=
 ∃ g P' vn',e=.returned (.tuple #[qp g.c,qz])∧oG t vn' b [] g P' qn w w'∧Ext w w'
theorem xU {t:List GN}(h:∀ x ∈ t,dG x):iX t:=fun x hx=>(h x hx).2.2.2.2.1
theorem Dh (t:List GN)(P:Nat->Prop)(vn:Value)(b:Int)(w:World)(hP:∀ k,P k->k<w)(ht:Nds w P vn t)(hsm:iX t)(hv:¬ bE t=0) :
  qg 23 #[.agg #[vn],↑b] w (zN (.pointer none) (.int .i64 (bE t)) w):=by
 have HV:=aYf (fun (W:World) (hx:Ext w W)=>gE t P vn W (fun k hk=>ac (hP k hk) hx.size) (ht.ext hx) hsm);obtain ⟨A,c,e,h1,h2⟩:=ht.form;subst e;have hd:(bE t == 0)=false:=aYg hv;clear hP ht hsm;generalize bE t=vt at *;go_enter Tryz.func23,Tryz.ntmps23;go_wp2_with fail;refine (HV.out _ ((aq w).alloc' _)).mono ?_;rintro e w1 ⟨rfl,hx1⟩;have HX1:=aYf (((aq w).alloc' _).trans' hx1);clear hx1;go_wp2_with fail;go_ret2;exact ⟨rfl,HX1.out⟩
theorem G4 {t:List GN}{vn:Value}{b:Int}{B0 gw gs gl gf:Nat}{P:Nat->Prop}{w5:World}(hW:dY t vn gw gs gl gf P w5)(hP:∀ k,k<w5.heap.size->P k->B0<=k)(hB:B0<=w5)(hb:0<=b∧b<=1099511627776)(hg:aO t t) :
  oG t vn b [] ⟨w5.heap.size,gw,gs,gl,gf⟩ (fun k=>B0<=k∧k<w5.heap.size) qn B0 (w5.alloc (qk #[vn,qp gw,↑b,qn] 79)):=by
 have hx:Ext w5 (w5.alloc (qk #[vn,qp gw,↑b,qn] 79)):=(aq _).alloc' _;refine ⟨⟨aw _ _ _,hW.carry (aB.of_ext hx) (fun k hk hp=>⟨hP k hk hp,hk⟩),⟨[],aT _ _ _ _,gh⟩,?_,dr,List.Pairwise.nil,hb,U,U,hg⟩,?_⟩
 ·intro k hk
  exact ⟨by show k ≠ w5;omega,dr⟩
 ·intro k hk
  rcases hk with hk | hk | hk
  ·simp;omega
  ·simp only at hk;subst hk;simp;omega
  ·simp [Value.ownBlock] at hk
theorem mF (t:List GN)(P:Nat->Prop)(vn:Value)(b:Int)(w:World)(hP:∀ k,P k->k<w)(ht:Nds w P vn t)(hsm:∀ x ∈ t,dG x)(hv:bE t=0)(hb:0<=b∧b<=1099511627776) :
  qg 23 #[.agg #[vn],↑b] w (LZ t b w):=by
 have hg:=dH.1 hv;have HV:=aYf (fun (W:World) (hx:Ext w W)=>gE t P vn W (fun k hk=>ac (hP k hk) hx.size) (ht.ext hx) (xU hsm));rw [hv] at HV;have HCL:=aYf (fun (W:World) (hx:Ext w W)=>wI t hsm P vn W (fun k hk=>ac (hP k hk) hx.size) (ht.ext hx) (by have:=hg.2.1;omega));have HG:=aYf hg;obtain ⟨A,c,e,h1,h2⟩:=ht.form;subst e;have hd:decide (b<0)=false:=aYj I;have hd2:decide (1099511627776<b)=false:=aYj I;have HB:=aYf hb;clear hP ht hsm hv hg hb;go_enter Tryz.func23,Tryz.ntmps23;go_wp2_with fail;have HE:=aYf ((aq w).alloc' (qk #[.slice A t c] 25));have HB0:=aYf (aw w 25 #[.slice A t c]);have hsz:w.heap.size+1<=(w.alloc (qk #[.slice A t c] 25)):=by simp
 generalize w.alloc (qk #[.slice A t c] 25)=W at *;refine (HV.out _ HE.out).mono ?_;rintro e w1 ⟨rfl,hx1⟩;have HX1:=aYf (HE.out.trans' hx1);have HB1:=aYf (HB0.out.ext hx1);have hs1:=hx1.size;have b1:=HB1.out.cell' (u:=.slice A t c) 0 rfl;clear hx1;go_wp2_with fail;refine (HCL.out _ HX1.out).mono ?_;rintro e w2 ⟨A2,c2,rfl,hN,hx2⟩;have HX2:=aYf (HX1.out.trans' hx2);have HB2:=aYf (HB1.out.ext hx2);have b2:=HB2.out.cell' (u:=.slice A t c) 0 rfl;have f2:=HB2.out.frozen 0;have HN:=aYf hN;clear hx2 b1 hN;go_upto_region 7 with fail;have HX3:=aYf (show Ext w (w2.setCell (qp w) (.slice A2 t c2)) from HX2.out.setCell' (p:=qp w) (ab _) _);have HB3:=aYf (HB2.out.set_ 0 (.slice A2 t c2));have HN3:=aYf (show Nds (w2.setCell (qp w) (.slice A2 t c2)) (fun k=>w1.heap.size<=k∧k<w2.heap.size) (.slice A2 t c2) t from HN.out.carry (aB.set (fun _ _ _=>rfl) _ (by show ¬ w1.heap.size<=w;omega)) (fun k hk h=>⟨h,hk⟩));have hs3:w2.heap.size<=(w2.setCell (qp w) (.slice A2 t c2)):=by simp [World.setCell]
 generalize w2.setCell (qp w) (.slice A2 t c2)=W3 at *;have b3:=HB3.out.cell' (u:=.slice A2 t c2) 0 rfl;have l3:=HB3.out.lt;clear b2 f2
 go_region_held3 (fun w'=>qc w' w 0 (.slice A2 t c2))
  (first
   | exact aA hx5 ‹_›
   | go_keep)
  (first
   | (go_at_call 35;refine (lG t (fun k=>w1.heap.size<=k∧k<w2.heap.size) _ W3.drew (fun k hk=>by show k<W3.heap.size;omega) (HN3.out.ext (aq _).drew') HG.out).mono ?_;rintro e w5 ⟨gw,gs,gl,gf,rfl,hW5,hx5,-,-,-,-⟩))
 have HX5:=aYf ((HX3.out.drew').trans' hx5);have hs5:=hx5.size;have HW5:=aYf hW5;clear hW5 hx5 b3;have hs5':W3.heap.size<=w5:=hs5
 have HM:=aYf (G4 (B0:=w.heap.size) HW5.out (fun k hk hp=>by
  rcases hp with hp | hp
  ·omega
  ·have hp':W3.heap.size<=k:=hp
   omega) I HB.out HG.out)
 have HXF:=aYf (HX5.out.alloc' (qk #[.slice A2 t c2,qp gw,↑b,qn] 79));go_wp2_with fail;go_ret2;exact ⟨_,_,_,rfl,HM.out,HXF.out⟩
abbrev ke (k a c:Int):Value:=.agg #[↑k,↑a,↑c,qn,qn,qz]
def mkE (path:List Int)(k a c:Int)(f:Bool):GE:=⟨path,k,a,c,f,1⟩
def C6 (t:List GN)(vn:Value)(b:Int)(L:List GE)(x:GE)(g:CA)(P:Nat->Prop)(ve:Value)(w:World)(e:Ending)(w':World):Prop :=
 e=.returned (.tuple #[(wZ (aQ t) b L x),.int .i64 (ka (aQ t) x)])∧iN t vn b (rQ (aQ t) b L x) g P ve w w'
section
variable {t:List GN}{vn:Value}{b:Int}{L L':List GE}{g:CA}{P:Nat->Prop}{ve:Value}{w w1 w2:World}
theorem iN.of_ext (hx:Ext w w1)(h:iN t vn b L' g P ve w1 w2):iN t vn b L' g P ve w w2:=by
 obtain ⟨P',v',h1,h2,h3,h4⟩:=h;have hs:=hx.size;refine ⟨P',v',h1,fun k hk=>(h2 k hk).elim .inl (fun h=>.inr I),(ar hx).trans h3,h4.elim .inl (fun ⟨k,h5,h6⟩=>.inr ⟨k,h5,I⟩)⟩
theorem iN.none (h:dM t vn b L g P ve w)(hx:Ext w w1):iN t vn b L g P ve w w1:=⟨P,ve,h.ext hx,fun _ h=>.inl h,ar hx,.inl rfl⟩
end
theorem wg (t:List GN)(vn:Value)(b:Int)(L:List GE)(g:CA)(P Pp:Nat->Prop)(ve vp:Value)(path:List Int)(k a c:Int)(f:Bool)(w:World)(h:dM t vn b L g P ve w)(hp:bL w Pp vp path)(hPp:∀ i,Pp i->¬ g.M ve i)
  (hk:I64 k)(ha:I64 a)(hc:I64 c)(hfew:L.length+1<=100000)(hpl:path.length<=1000000000) :
  qg 25 #[qp g.c,vp,ke k a c,f] w (C6 t vn b L (mkE path k a c f) g P ve w):=by
 obtain ⟨Ap,cp,ep,hp1,hp2⟩:=hp.form;subst ep;have H:=aYf h;have HP:=aYf hp;have HPP:=aYf hPp;have HE1:=aYf (show EAt w Pp (mkE path k a c f) Ap cp from ⟨hp,hk,ha,hc,by simp [mkE,I64]⟩);have HAE:=aYf (show rQ (aQ t) b L (mkE path k a c f)=if aQ t path then (if hU path L then dN L (mkE path k a c f) else qZ b (dN L (mkE path k a c f))) else L from rfl);have HAB:=aYf (show wZ (aQ t) b L (mkE path k a c f)=if aQ t path then (if hU path L then false else hU path (qZ b (dN L (mkE path k a c f)))) else false from rfl);have HAI:=aYf (show ka (aQ t) (mkE path k a c f)=if aQ t path then 0 else 11 from rfl);clear h hp hPp;go_enter Tryz.func25,Tryz.ntmps25;go_upto_region 1 with fail;have HE:=aYf ((aq w).alloc' (qk #[↑k,↑a,↑c,qn,qn,qz] 73));have HB:=aYf (aw w 73 #[↑k,↑a,↑c,qn,qn,qz]);generalize w.alloc (qk #[↑k,↑a,↑c,qn,qn,qz] 73)=W at *;have c1:qc W g.c 1 (qp g.w):=(H.out.ext HE.out).box.cell' 1 rfl;have HW:=aYf (xG t path vn (.slice Ap path cp) g.w g.s g.l g.f P Pp W (H.out.ext HE.out).walk (HP.out.ext HE.out) H.out.good I)
 generalize hwb:aQ t path=wb at *;have HWB:=aYf hwb;clear hwb;go_upto_region 2 with (go_at_call 36;refine HW.out.mono ?_;rintro e w1 ⟨y,A1,d1,rfl,hx1⟩);have HX2:=aYf (show Ext w (w1.alloc (qk (qh y A1 d1) 58)) from (HE.out.trans' hx1).alloc' _);have HB2:=aYf ((HB.out.ext hx1).alloc (qk (qh y A1 d1) 58));clear hx1 c1;generalize w1.alloc (qk (qh y A1 d1) 58)=W2 at *
 cases wb with
 | false =>
  go_wp2_with fail;go_ret2;refine ⟨?_,?_⟩
  ·rw [HAB.out,HAI.out];rfl
  ·rw [HAE.out];exact iN.none H.out HX2.out
 | true =>
  obtain ⟨x0,x1,x2,x3,x4,x5⟩:=cF HB2.out;generalize hhe:hU path L=he at *;have HHE:=aYf hhe;clear hhe
  have HJ:=aYf (show qg 28 #[qp g.c,.agg #[.slice Ap path cp,↑k,↑a,↑c,f,.int .i64 1]] W2 (fun e w'=>e=.returned (!he)∧iN t vn b (dN L (mkE path k a c f)) g P ve W2 w') from by
   have h:=yc t vn b L g P Pp ve (mkE path k a c f) Ap cp W2 (H.out.ext HX2.out) (HE1.out.ext HX2.out) hfew hpl;unfold Bb at h;rw [show hU (mkE path k a c f).path L=he from HHE.out] at h;exact h)
  cases he with
  | true =>
   go_wp2_with fail;refine HJ.out.mono ?_;rintro e w3 ⟨rfl,hA3⟩;have HA3:=aYf (iN.of_ext HX2.out hA3);clear hA3;simp only [Bool.not_true];go_wp2_with fail;go_ret2;refine ⟨?_,?_⟩
   ·rw [HAB.out,HAI.out];rfl
   ·rw [HAE.out];exact HA3.out
  | false =>
   go_wp2_with fail;refine HJ.out.mono ?_;rintro e w3 ⟨rfl,hA3⟩;have HA3:=aYf (iN.of_ext HX2.out hA3);clear hA3;simp only [Bool.not_false];obtain ⟨P',v',h1,h2,h3,h4⟩:=HA3.out;have hpw:bL w3 (fun i=>Pp i∧i<w) (.slice Ap path cp) path:=HP.out.carry (fun i hi hp=>h3.block i hi (HPP.out i hp)) (fun i hi hp=>⟨hp,hi⟩);have HC:=aYf (CP t vn b _ g P' v' w3 h1)
   have hM:∀ i,i<w.heap.size->g.M v' i->g.M ve i:=fun i hi hm=>by
    rcases hm with hm | hm
    ·exact .inl hm
    ·rcases h4 with h4 | ⟨j,h4,h5⟩
     ·exact .inr (by rw [hm,h4])
     ·rw [h4] at hm;injection hm with hm;omega
   have HM:=aYf hM;have HPW:=aYf hpw;have H2:=aYf h2;have H3:=aYf h3;have H4:=aYf h4;clear h1 h2 h3 h4 hpw hM HA3 x0 x1 x2 x3 x4 x5;go_wp2_with fail;refine HC.out.mono ?_;rintro e w4 ⟨rfl,v4,hc4,hob4,hf4⟩;have HF4:=aYf (show Fr (g.M ve) w w4 from ⟨hf4.os.trans H3.out.os,hf4.tape.trans H3.out.tape,hf4.output.trans H3.out.output,ae H3.out.size hf4.size,fun i hi hn=>(hf4.block i (ac hi H3.out.size) (fun hm=>hn (HM.out i hi hm))).trans (H3.out.block i hi hn)⟩);have HPW4:=aYf (HPW.out.carry (Q:=fun _=>True) (fun i hi hp=>hf4.block i hi (fun hm=>HPP.out i hp.1 (HM.out i hp.2 hm))) (fun _ _ _=>trivial));have HC4:=aYf hc4;have HO4:=aYf hob4;clear hc4 hob4 hf4;go_wp2_with fail;refine (xr t vn b _ g P' _ v4 _ path w4 HC4.out HPW4.out).mono ?_;rintro e w5 ⟨rfl,hx5⟩;have HA5:=aYf (show iN t vn b (qZ b (dN L (mkE path k a c f))) g P ve w w5 from ⟨P',v4,HC4.out.ext hx5,H2.out,HF4.out.trans (ar hx5),by rw [HO4.out];exact H4.out⟩);clear hx5;go_wp2_with fail;go_ret2;refine ⟨?_,?_⟩
   ·rw [HAB.out,HAI.out];rfl
   ·rw [HAE.out];exact HA5.out
def zO (L:List GE)(w:World)(e:Ending)(w':World):Prop:=∃ A c,e=.returned (.slice A L c)∧Ens w' (fun b=>w.heap.size<=b) (.slice A L c) L∧Ext w w'
theorem oP (l:List GE)(P:Nat->Prop)(v:Value)(w:World)(hl:Ens w P v l)(hlen:l.length<=100000)(hF:∀ x ∈ l,x.path.length<=1000000000):qg 67 #[v,.func (.func 53) #[] #[]] w (zO l w):=by
 have HF:=aYf hF;have HV:=aYf hl;obtain ⟨A,c,e,h1,h2⟩:=Lst.form hl;subst e;clear hl hF;by_cases h0:l.length=0
 ·have t0:((l:Int) == 0)=true:=aYh I
  have hnil:l=[]:=List.eq_nil_of_length_eq_zero h0;subst hnil;clear h0;go_enter Tryz.func67,Tryz.ntmps67;go_wp2_with fail;go_ret;exact ⟨none,0,rfl,⟨none,0,[],rfl,ab _,U,⟨rfl,fun h=>by simp at h⟩,gh⟩,aq _⟩
 ·have t0:((l:Int) == 0)=false:=aYg I
  clear h0;obtain ⟨i0,hi,hz0,hz1,hz2⟩:=info_parts Tryz.info80
  have hmk:∀ W:World,(Instr.makeSlice 77 (↑(l:Int)) (↑(l:Int))).run Tryz.prog W=.ok (.slice (qp W) l l) (W.alloc (qk (madeCells #[qn,qz,qz,qz,false,qz] (l*6)) 80)):=by
   intro W;have h:=run_make (P:=Tryz.prog) W 77 80 i0 _ Tryz.underlying77 hi hz0 .i64 .i64 (l:Int) (l:Int) I (Int.le_refl _) fp I;rw [hz1] at h;rw [h];rfl
  have hsz:=size_madeCells #[qn,qz,qz,qz,false,qz] (l*6);generalize madeCells #[qn,qz,qz,qz,false,qz] (l*6)=mc at *;have HSZ:=aYf hsz;clear hsz hi hz0 hz1 hz2 i0;go_enter Tryz.func67,Tryz.ntmps67;go_wp2_with fail;go_loopw [15] (fun i wr=>mp 6 REn l w 80 w i wr) (fun i _=>l.length - (intOf i).toNat)
  case atStart=>exact wK mc HSZ.out
  case round =>
   obtain ⟨k,cs,hk,rfl,hB,hcl,hR,hx⟩:=hrel;have HB:=aYf hB;have HCL:=aYf hcl;have HR:=aYf hR;have HX:=aYf hx;clear hB hcl hR hx;by_cases hlt:k<l
   ·obtain ⟨b1,o1,A1,d1,rfl,-,hv1,hgc⟩:=(HV.out.ext HX.out).get hlt
    have hsm:=HF.out _ (aC (d:=default) hlt);obtain ⟨x,hgx⟩:∃ x,x=l.getD k default:=⟨_,rfl⟩;have HG:=aYf hgx;rw [<- hgx] at hv1 hgc hsm;have HCX:=aYf (tM x A1 d1 P wr hv1 I);have hkk:(k:Int)<(l:Int):=by omega
    have n0:=hgc 0 _ rfl;have n1:=hgc 1 _ rfl;have n2:=hgc 2 _ rfl;have n3:=hgc 3 _ rfl;have n4:=hgc 4 _ rfl;have n5:=hgc 5 _ rfl;rw [Nat.add_zero] at n0;clear hv1 hgx hgc hsm;go_wp2_with fail;refine (HCX.out).mono ?_;rintro e w1 ⟨A2,d2,rfl,hv2,hx2⟩;have hBB:=HB.out.ext hx2;have hcl:=HCL.out;obtain ⟨y0,q0⟩:=hBB.some_ (i:=k*6) I;obtain ⟨y1,q1⟩:=hBB.some_ (i:=k*6+1) I;obtain ⟨y2,q2⟩:=hBB.some_ (i:=k*6+2) I;obtain ⟨y3,q3⟩:=hBB.some_ (i:=k*6+3) I;obtain ⟨y4,q4⟩:=hBB.some_ (i:=k*6+4) I;obtain ⟨y5,q5⟩:=hBB.some_ (i:=k*6+5) I;have f0:=hBB.frozen (k*6);have f1:=hBB.frozen (k*6+1);have f2:=hBB.frozen (k*6+2);have f3:=hBB.frozen (k*6+3);have f4:=hBB.frozen (k*6+4);have f5:=hBB.frozen (k*6+5);have HV2:=aYf hv2;have HX2:=aYf hx2;clear hv2 hx2 hBB hcl n0 n1 n2 n3 n4 n5;go_wp2_with fail;go_roundw
    case rel =>
     have:=HG.out;subst this;exact pg (w1:=w1) fF default (ab _) hlt HB.out HCL.out HR.out HX.out HX2.out (us:=bC _ A2 d2) ⟨A2,d2,rfl,HV2.out⟩
    case measure=>simp [intOf];omega
   ·obtain rfl:k=l:=by omega
    go_wp2_with fail;go_ret;exact ⟨_,_,rfl,pq fF (ab _) I HB.out HCL.out HR.out,HX.out⟩
theorem mQ (t:List GN)(vn:Value)(b:Int)(L:List GE)(g:CA)(P:Nat->Prop)(ve:Value)(w:World)(h:dM t vn b L g P ve w):qg 41 #[qp g.c] w (zO L w):=by
 have HC:=aYf (oP L _ ve w h.ens h.few h.short);have c3:=h.cell3;obtain ⟨Al,cl,el,h1,h2⟩:=Lst.form h.ens;subst el;clear h;go_enter Tryz.func41,Tryz.ntmps41;go_wp2_with fail;refine HC.out.mono ?_;rintro e w1 ⟨A1,c1,rfl,hE,hx⟩;have HE:=aYf hE;have HX:=aYf hx;clear hE hx;go_wp2_with fail;go_ret;exact ⟨A1,c1,rfl,HE.out,HX.out⟩
theorem Tryz.info47:(Tryz.prog.info? 47).map (fun i=>(i.zero,i.size,i.bytes))=some (some (.agg #[qn,qz,qz,qz,false,qz]),6,64):=av
def Dl (L:List GE)(B:Nat)(W:World)(v i:Value)(wr:World):Prop :=
 ∃ (k:Nat) (xs:List Value),k<=L∧i=↑k∧wr.ownsRow W 47 6 v k xs∧RL (REn wr (fun b=>B<=b∧b<W.heap.size)) (L.take k) xs∧Ext W wr
theorem qX (t:List GN)(vn:Value)(b:Int)(L:List GE)(g:CA)(P:Nat->Prop)(ve:Value)(w:World)(h:dM t vn b L g P ve w):qg 15 #[qp g.c] w (zO L w):=by
 have HC:=aYf (mQ t vn b L g P ve w h);have hfew:=h.few;clear h;obtain ⟨i0,hi,hz0,hz1,hz2⟩:=info_parts Tryz.info47;have HI:=aYf hi;clear hi;go_enter Tryz.func15,Tryz.ntmps15;go_wp2_with fail;refine HC.out.mono ?_;rintro e W ⟨A4,c4,rfl,hE,hx⟩;have hwW:=hx.size;have HE:=aYf (hE.carry (Q:=fun b=>w.heap.size<=b∧b<W.heap.size) (fun _ _ _=>rfl) (fun b hb h=>⟨h,hb⟩));have HX:=aYf hx;have hle:=(Lst.form hE);obtain ⟨A9,c9,e9,h1,h2⟩:=hle;injection e9 with e91 _ e92;subst e91 e92;clear hE hx;go_wp2_with fail;go_loopw [3,5] (fun v i wr=>Dl L w W v i wr) (fun _ i _=>L.length - (intOf i).toNat)
 case atStart=>exact ⟨0,[],af _,rfl,aT _ _ _ _,gh,aq _⟩
 case round =>
  obtain ⟨k,xs,hk,rfl,hown,hr,hx⟩:=hrel;obtain ⟨A3,c3,e3,-,-,-⟩:=Sl.of_own hown;subst e3;have HOWN:=aYf hown;have HR:=aYf hr;have HXR:=aYf hx;have hsz:=hx.size;clear hown hr hx;by_cases hlt:k<L
  ·obtain ⟨b1,o1,A1,d1,rfl,hb1,hv1,hgc⟩:=(HE.out.ext HXR.out).get hlt
   obtain ⟨y,hy⟩:∃ y,y=L.getD k default:=⟨_,rfl⟩;have HY:=aYf hy;rw [<- hy] at hv1 hgc;have HV1:=aYf hv1;have n0:=hgc 0 _ rfl;have n1:=hgc 1 _ rfl;have n2:=hgc 2 _ rfl;have n3:=hgc 3 _ rfl;have n4:=hgc 4 _ rfl;have n5:=hgc 5 _ rfl;rw [Nat.add_zero] at n0;have hma:¬ some b1=(Value.slice A3 k c3).ownBlock:=fun e=>by have:=HOWN.out.block_ge e.symm;omega
   have hk0:(0:Int)<=(k:Int):=I;have hk1:(k:Int)<(L:Int):=I;clear hv1 hgc hy hb1;go_upto_region 6 with fail
   go_region_held3 (fun w'=>qc w' b1 (o1+k*6) (.slice A1 y.path d1)∧qc w' b1 (o1+k*6+1) y.kind∧qc w' b1 (o1+k*6+2) y.at_∧qc w' b1 (o1+k*6+3) y.code∧qc w' b1 (o1+k*6+4) y.fresh∧qc w' b1 (o1+k*6+5) y.hits)
    (first
     | (go_split_ands
        with_reducible exact ⟨nQ hf5 hma ‹_›,nQ hf5 hma ‹_›,nQ hf5 hma ‹_›,nQ hf5 hma ‹_›,nQ hf5 hma ‹_›,nQ hf5 hma ‹_›⟩)
     | go_keep)
    (first
     | (refine eJ _ (by rfl) (.tmp 14) (.tmp 36) 38 (by rfl) W 47 i0 _ 6 64 Tryz.underlying38 HI.out hz0 hz1 hz2 rfl (by omega) (.slice A3 k c3) k xs (by rfl) ((HOWN.out.ext_ (aq _).drew').alloc _) (fun _=>True) (qp wr) 1 1 (bC y A1 d1) (by rfl) (Sl.new wr.drew _ _ _ _ rfl) (by simp [bC,Value.oneCell']) (by omega) (by omega) (by simp;omega) ?_;intro v5 w5 ho5 hf5 hb5))
   have HO5:=aYf ho5;have HF5:=aYf hf5;clear ho5 hf5 n0 n1 n2 n3 n4 n5;go_wp2_with fail;go_roundw
   case rel =>
    have hff:Fr (fun k'=>some k'=(Value.slice A3 k c3).ownBlock) wr w5:=((ar ((aq wr).drew'.alloc' _)).trans HF5.out);have hkp:aB (fun b=>w.heap.size<=b∧b<W.heap.size) wr w5:=fun b hb hq=>hff.block b hb (fun e=>by have:=HOWN.out.block_ge e.symm;omega)
    refine ⟨k+1,_,I,by go_num,HO5.out,?_,?_⟩
    ·rw [aW default hlt,<- HY.out]
     exact (HR.out.move fF hkp (fun _ _ h=>h)).append (RL.one ⟨A1,d1,rfl,HV1.out.carry hkp (fun _ _ h=>h)⟩)
    ·exact Fr.new_ext ((ar HXR.out).trans hff) (fun b hb=>HOWN.out.block_ge hb.symm)
   case measure=>simp [intOf];omega
  ·obtain rfl:k=L:=by omega
   have HF:=aYf (show Ens wr (fun b=>w.heap.size<=b) (.slice A3 L c3) L from Lst.of_own HOWN.out (by
    have h:=HR.out;rw [List.take_length] at h;exact h.move fF (fun _ _ _=>rfl) (fun _ _ h=>h.1)) I (fun b hb=>by have:=HOWN.out.block_ge hb;omega))
   go_wp2_with fail;go_ret;exact ⟨A3,c3,rfl,HF.out,HX.out.trans' HXR.out⟩
def iB (t:List GN)(n1 n2:Value)(b1 b2:Int)(L1 L2:List GE)(g1 g2:CA)(B:Nat)(w:World):Prop :=
 ∃ P1 v1 P2 v2,oG t n1 b1 L1 g1 P1 v1 B w∧oG t n2 b2 L2 g2 P2 v2 B w∧me g1 P1 v1 g2 P2 v2
section
variable {t:List GN}{n1 n2:Value}{b1 b2:Int}{L1 L2:List GE}{g1 g2:CA}{B:Nat}{w w0 w1:World}
theorem iB.swap (h:iB t n1 n2 b1 b2 L1 L2 g1 g2 B w):iB t n2 n1 b2 b1 L2 L1 g2 g1 B w:=by
 obtain ⟨P1,v1,P2,v2,h1,h2,h3⟩:=h;exact ⟨P2,v2,P1,v1,h2,h1,h3.swap⟩
theorem iB.ext (h:iB t n1 n2 b1 b2 L1 L2 g1 g2 B w)(hx:Ext w w1):iB t n1 n2 b1 b2 L1 L2 g1 g2 B w1:=by
 obtain ⟨P1,v1,P2,v2,h1,h2,h3⟩:=h;exact ⟨P1,v1,P2,v2,h1.ext hx,h2.ext hx,h3⟩
theorem iB.two {P1 P2:Nat->Prop}{v1 v2:Value}{C:Nat}(h1:oG t n1 b1 L1 g1 P1 v1 B w0)(hC:w0<=C)(hx:Ext w0 w)(h2:oG t n2 b2 L2 g2 P2 v2 C w):iB t n1 n2 b1 b2 L1 L2 g1 g2 B w:=by
 have hBC:B<=C:=by have:=h1.lo g1.c (.inr (.inl rfl));omega
 refine ⟨P1,v1,P2,v2,h1.ext hx,⟨h2.cor,fun k hk=>⟨ae hBC (h2.lo k hk).1,(h2.lo k hk).2⟩⟩,?_,?_⟩
 ·intro k hk hm
  have:=h1.lo k hk;have:=h2.lo k (.inr hm);omega
 ·intro k hk hm
  have:=h1.lo k (.inr hm);have:=h2.lo k hk;omega
def F1 (t:List GN)(n1 n2:Value)(b1 b2:Int)(L1 L2:List GE)(x:GE)(g1 g2:CA)(B:Nat)(w:World)(e:Ending)(w':World):Prop :=
 e=.returned (.tuple #[(wZ (aQ t) b1 L1 x),.int .i64 (ka (aQ t) x)])∧iB t n1 n2 b1 b2 (rQ (aQ t) b1 L1 x) L2 g1 g2 B w'∧Fr (fun k=>B<=k) w w'
theorem iB.add (h:iB t n1 n2 b1 b2 L1 L2 g1 g2 B w0)(hx:Ext w0 w){Pp:Nat->Prop}{vp:Value}{path:List Int}(hp:bL w Pp vp path)(hPp:∀ i,Pp i->i<B∨w0<=i)(k a c:Int)(f:Bool)
  (hk:I64 k)(ha:I64 a)(hc:I64 c)(hfew:L1.length+1<=100000)(hpl:path.length<=1000000000) :
  qg 25 #[qp g1.c,vp,ke k a c,f] w (F1 t n1 n2 b1 b2 L1 L2 (mkE path k a c f) g1 g2 B w):=by
 obtain ⟨P1,v1,P2,v2,h1,h2,h3⟩:=h;refine (wg t n1 b1 L1 g1 P1 Pp v1 vp path k a c f w (h1.ext hx).cor hp (fun i hi hm=>?_) hk ha hc hfew hpl).mono ?_
 ·have:=h1.lo i (.inr hm)
  have:=hPp i hi;omega
 ·rintro e w' ⟨rfl,hA⟩
  obtain ⟨Q1,u1,m1,m2,m3,m4⟩:=(h1.ext hx).other (h2.ext hx) h3 hA;exact ⟨rfl,⟨Q1,u1,P2,v2,m1,m2,m3⟩,m4⟩
theorem iB.bytes (h:iB t n1 n2 b1 b2 L1 L2 g1 g2 B w):qg 16 #[qp g1.c] w (dE (.int .i64 (dK L1)) w):=by
 obtain ⟨P1,v1,P2,v2,h1,h2,h3⟩:=h;exact rP t n1 b1 L1 g1 P1 v1 w h1.cor
theorem iB.has (h:iB t n1 n2 b1 b2 L1 L2 g1 g2 B w){Pp:Nat->Prop}{vp:Value}{path:List Int}(hp:bL w Pp vp path):qg 43 #[qp g1.c,vp] w (dE (hU path L1) w):=by
 obtain ⟨P1,v1,P2,v2,h1,h2,h3⟩:=h;exact xr t n1 b1 L1 g1 P1 Pp v1 vp path w h1.cor hp
theorem iB.entriesOf (h:iB t n1 n2 b1 b2 L1 L2 g1 g2 B w):qg 41 #[qp g1.c] w (zO L1 w):=by
 obtain ⟨P1,v1,P2,v2,h1,h2,h3⟩:=h;exact mQ t n1 b1 L1 g1 P1 v1 w h1.cor
end
structure MAt (t:List GN)(vn:Value)(b:Int)(L:List GE)(m:Nat)(P:Nat->Prop)(ve:Value)(w:World):Prop where
 box:Blk w m 40 #[vn,↑b,ve]
 tree:Nds w P vn t
 own:∃ xs,w.ownsRow 0 47 6 ve L xs∧RL (REn w P) L xs
 excl:∀ k,P k->k ≠ m∧some k ≠ ve.ownBlock
 ne:some m ≠ ve.ownBlock
 inc:xB L
 bI:0<=b∧b<=1099511627776
 few:L.length<=100000
 short:∀ e ∈ L,e.path.length<=1000000000
 lt:∀ k,P k->k<w
def mM (m:Nat)(ve:Value):Nat->Prop:=fun k=>k=m∨some k=ve.ownBlock
def dC (t:List GN)(vn:Value)(b:Int)(L':List GE)(m:Nat)(P:Nat->Prop)(ve:Value)(w w':World):Prop :=
 ∃ v',MAt t vn b L' m P v' w'∧Fr (mM m ve) w w'∧∀ k,v'.ownBlock=some k->ve.ownBlock=some k∨w<=k
theorem Au {w:World}{e:TypeId}{s base:Nat}{ve:Value}{n:Nat}{xs:List Value}(h:w.ownsRow base e s ve n xs){k:Nat}(hk:ve.ownBlock=some k):k<w:=by
 rcases h.2 with ⟨rfl,_⟩ | ⟨G,cap,cur,rfl,_,hG,_⟩
 ·simp [Value.ownBlock] at hk
 ·simp [Value.ownBlock] at hk
  subst hk;exact Blk.lt (t:=e) hG
section
variable {t:List GN}{vn:Value}{b:Int}{L L':List GE}{m:Nat}{P Q Pp:Nat->Prop}{ve vp:Value}{w w' w1 w2:World}{path:List Int}
theorem MAt.carry (h:MAt t vn b L m P ve w)(hk:aB (fun k=>P k∨mM m ve k) w w')(hs:w.heap.size<=w'):MAt t vn b L m P ve w':=by
 obtain ⟨xs,h1,h2⟩:=h.own;have hkP:aB P w w':=fun k hk' hp=>hk k hk' (.inl hp)
 refine ⟨(hk _ h.box.lt (.inr (.inl rfl))).trans h.box,h.tree.carry hkP (fun _ _ h=>h),⟨xs,⟨h1.1,?_⟩,h2.move fF hkP (fun _ _ h=>h)⟩,h.excl,h.ne,h.inc,h.bI,h.few,h.short,fun k hk'=>ac (h.lt k hk') hs⟩;rcases h1.2 with h3 | ⟨g',cap,cur,h4,h5,h6,h7⟩
 ·exact .inl h3
 ·exact .inr ⟨g',cap,cur,h4,h5,(hk g' (Blk.lt (t:=47) h6) (.inr (.inr (by rw [h4];rfl)))).trans h6,h7⟩
theorem MAt.ext (h:MAt t vn b L m P ve w)(hx:Ext w w'):MAt t vn b L m P ve w':=h.carry (aB.of_ext hx) hx.size
theorem MAt.ens (h:MAt t vn b L m P ve w):Ens w (fun k=>P k∨some k=ve.ownBlock) ve L:=by
 obtain ⟨xs,h1,h2⟩:=h.own;exact Lst.of_own h1 (h2.move fF (fun _ _ _=>rfl) (fun _ _ h=>.inl h)) (by have:=h.few;omega) (fun k hk=>.inr hk.symm)
theorem MAt.cell0 (h:MAt t vn b L m P ve w):qc w m 0 vn:=h.box.cell' 0 rfl
theorem MAt.cell1 (h:MAt t vn b L m P ve w):qc w m 1 b:=h.box.cell' 1 rfl
theorem MAt.cell2 (h:MAt t vn b L m P ve w):qc w m 2 ve:=h.box.cell' 2 rfl
theorem MAt.mlt (h:MAt t vn b L m P ve w){k:Nat}(hk:mM m ve k):k<w:=by
 rcases hk with rfl | hk
 ·exact h.box.lt
 ·obtain ⟨xs,h1,-⟩:=h.own
  exact Au h1 hk.symm
theorem dC.of_ext (hx:Ext w w1)(h:dC t vn b L' m P ve w1 w2):dC t vn b L' m P ve w w2:=by
 obtain ⟨v',h1,h3,h4⟩:=h;have hs:=hx.size;exact ⟨v',h1,(ar hx).trans h3,fun k hk=>(h4 k hk).imp id (fun h=>by omega)⟩
theorem dC.ext (h:dC t vn b L' m P ve w w1)(hx:Ext w1 w2):dC t vn b L' m P ve w w2:=by
 obtain ⟨v',h1,h3,h4⟩:=h;exact ⟨v',h1.ext hx,h3.trans (ar hx),h4⟩
theorem dC.none (h:MAt t vn b L m P ve w)(hx:Ext w w1):dC t vn b L m P ve w w1:=⟨ve,h.ext hx,ar hx,fun _ h=>.inl h⟩
theorem K5 (hi:xB L){i:Nat}(h:i<L)(he:(L.getD i default).path=path):hU path L=true∧bO path L=i:=by
 have h1:=uq (p:=path) hi (Nat.le_of_lt h) (fun k hk=>he ▸ rq hi hk h) (fun k hk hk'=>by
  rcases Nat.eq_or_lt_of_le hk with rfl | hk
  ·rw [he,rH];omega
  ·have:=rq hi hk hk'
   rw [he] at this;have:=rG path (L.getD k default).path;omega)
 refine ⟨?_,h1.1⟩;rw [h1.2,he,rH];simp [h]
theorem CW (h:∀ j,j<L.length->(L.getD j default).path ≠ path):hU path L=false:=by
 cases hh:hU path L with
 | false=>rfl
 | true =>
  obtain ⟨e,he,hp⟩:=List.mem_map.1 (JB hh);obtain ⟨j,hj,rfl⟩:=List.getElem_of_mem he;exact absurd (by simpa [hj] using hp) (h j hj)
theorem dC.trans {v1:Value}{L1:List GE}(h1:Fr (mM m ve) w w1)(h2:∀ k,v1.ownBlock=some k->ve.ownBlock=some k∨w<=k)(h:dC t vn b L' m P v1 w1 w2):dC t vn b L' m P ve w w2:=by
 obtain ⟨v',q1,q2,q3⟩:=h;have hs:=h1.size;refine ⟨v',q1,h1.trans_new (q2.mono (fun k hk=>?_)),fun k hk=>?_⟩
 ·rcases hk with hk | hk
  ·exact .inl (.inl hk)
  ·exact (h2 k hk.symm).imp (fun h=>.inr h.symm) id
 ·rcases q3 k hk with h | h
  ·exact h2 k h
  ·exact .inr I
def vZ (p:List Int)(L:List GE):Int:=if hU p L then (bO p L:Int) else -1
theorem Dj (hi:xB L){i:Nat}(h:i<L)(he:(L.getD i default).path=path):vZ path L=(i:Int):=by
 obtain ⟨h1,h2⟩:=K5 hi h he;unfold vZ;rw [if_pos h1,h2]
theorem Hs (h:∀ j,j<L.length->(L.getD j default).path ≠ path):vZ path L=-1:=by
 unfold vZ;rw [if_neg (by rw [CW h];simp)]
theorem yY:decide (0<=vZ path L)=hU path L:=by
 unfold vZ;cases hU path L <;> simp
def Ls (L:List GE)(p:List Int)(W:World)(i:Value)(wr:World):Prop:=∃ k:Nat,k<=L.length∧i=↑k∧Ext W wr∧∀ j,j<k->(L.getD j default).path ≠ p
theorem Cp (h:MAt t vn b L m P ve w)(hp:bL w Pp vp path):qg 38 #[qp m,vp] w (dE (.int .i64 (vZ path L)) w):=by
 obtain ⟨Ap,cp,ep,hp1,hp2⟩:=hp.form;subst ep;have HE:=aYf h.ens;have HP:=aYf hp;have HI:=aYf h.inc;have HC2:=aYf h.cell2;obtain ⟨Al,cl,el,h1,h2⟩:=Lst.form h.ens;subst el;clear h hp;go_enter Tryz.func38,Tryz.ntmps38;go_wp2_with fail;go_loopw [5] (fun i wr=>Ls L path w i wr) (fun i _=>L.length - (intOf i).toNat)
 case atStart=>exact ⟨0,af _,rfl,aq _,fun j hj=>by omega⟩
 case round =>
  obtain ⟨k,hk,rfl,hx,hno⟩:=hrel;have HX:=aYf hx;have HNO:=aYf hno;have c2r:=aA hx HC2.out;clear hx hno;by_cases hlt:k<L
  ·obtain ⟨b1,o1,A1,d1,rfl,-,hv1,hgc⟩:=(HE.out.ext HX.out).get hlt
   obtain ⟨y,hy⟩:∃ y,y=L.getD k default:=⟨_,rfl⟩;have HY:=aYf hy;rw [<- hy] at hv1 hgc;have g0:=hgc 0 _ rfl;rw [Nat.add_zero] at g0;have HV:=aYf hv1.path;have HPP:=aYf (HP.out.ext HX.out);clear hgc hv1 hy;by_cases hs:y.path=path
   ·have HS:=aYf hs
    have hd:decide (y.path=path)=true:=aYi hs;have HSI:=aYf (jX _ _ _ _ _ _ _ HV.out HPP.out);rw [hd] at HSI;clear hs hd;go_wp2_with fail;refine HSI.out.mono ?_;rintro e w' ⟨rfl,n,rfl⟩;go_wp2_with fail;go_ret;exact ⟨aK (Dj HI.out hlt (by rw [<- HY.out];exact HS.out)).symm,HX.out.drewN' n⟩
   ·have HS:=aYf hs
    have hd:decide (y.path=path)=false:=aYj hs;have HSI:=aYf (jX _ _ _ _ _ _ _ HV.out HPP.out);rw [hd] at HSI;clear hs hd;go_wp2_with fail;refine HSI.out.mono ?_;rintro e w' ⟨rfl,n,rfl⟩;go_wp2_with fail;go_roundw
    case rel =>
     refine ⟨k+1,I,by go_num,HX.out.drewN' n,fun j hj=>?_⟩;rcases Nat.lt_or_ge j k with h | h
     ·exact HNO.out j h
     ·obtain rfl:j=k:=by omega
      rw [<- HY.out];exact HS.out
    case measure=>simp [intOf];omega
  ·have HF:=aYf (Hs (path:=path) (L:=L) (fun j hj=>HNO.out j I))
   go_wp2_with fail;go_ret;exact ⟨aK HF.out.symm,HX.out⟩
theorem tD (h:MAt t vn b L m P ve w):qg 17 #[qp m] w (dE (.int .i64 (dK L)) w):=by
 have hfew:=h.few;have HE:=aYf h.ens;have HSH:=aYf h.short;have HC2:=aYf h.cell2;obtain ⟨Al,cl,el,h1,h2⟩:=Lst.form h.ens;subst el;clear h;go_enter Tryz.func17,Tryz.ntmps17;go_wp2_with fail;go_loopw [3,4] (fun n i wr=>CF L w n i wr) (fun _ i _=>L.length - (intOf i).toNat)
 case atStart=>exact ⟨0,0,af _,rfl,rfl,aq _,I,I,U⟩
 case round =>
  obtain ⟨k,s,hk,rfl,rfl,hx,hs0,hs1,hs⟩:=hrel;have HX:=aYf hx;have HS:=aYf hs;have c2r:=aA hx HC2.out;clear hx hs;by_cases hlt:k<L
  ·obtain ⟨b1,o1,A1,d1,rfl,-,hv1,hgc⟩:=(HE.out.ext HX.out).get hlt
   have hpl:=HSH.out _ (aC (d:=default) hlt);have HD:=aYf (show s+(wE (L.getD k default)+dK (L.drop (k+1)))=dK L by rw [<- HS.out,aJ default hlt];rfl);generalize L.getD k default=y at *;have g0:=hgc 0 _ rfl;rw [Nat.add_zero] at g0;have hw1:wE y=2+(y.path:Int):=rfl;clear hgc hv1;go_wp2_with fail;go_roundw
   case rel=>exact ⟨k+1,s+2+(y.path:Int),I,by go_num,rfl,HX.out,I,I,by have:=HD.out;omega⟩
   case measure=>simp [intOf];omega
  ·have HF:=aYf (show dK L=s by have:=HS.out;rw [drop_nil I] at this;simp [dK] at this;omega)
   go_wp2_with fail;go_ret;exact ⟨aK HF.out.symm,HX.out⟩
end
theorem Kr (k a c:Int)(w:World)(hk:I64 k)(ha:I64 a)(hc:I64 c):qg 26 #[.agg #[↑k,↑a,↑c]] w (dE (ke k a c) w):=by
 go_enter Tryz.func26,Tryz.ntmps26;go_wp2_with fail;have hB:=az (w.alloc (qk #[↑k,↑a,↑c] 45)) 73 #[↑k,↑a,↑c,qn,qn,qz] (g:=w.heap.size+1) U;have hX:Ext w ((w.alloc (qk #[↑k,↑a,↑c] 45)).alloc (qk #[↑k,↑a,↑c,qn,qn,qz] 73)):=((aq w).alloc' _).alloc' _;generalize (w.alloc (qk #[↑k,↑a,↑c] 45)).alloc (qk #[↑k,↑a,↑c,qn,qn,qz] 73)=W at *;obtain ⟨c0,c1,c2,c3,c4,c5⟩:=cF hB;exact bodyPost_ret (v:=ke k a c) (by simp [results,Tryz.results26,go_sem,c0,c1,c2,c3,c4,c5]) rfl ⟨rfl,hX⟩
