/- Contracts and laws. Conditions: none. -/
import Derived.Lib.VarintBits
import Derived.Lib.Zigzag
import Derived.Laws.BitsAllLaws
import Derived.Lib.AppendStr
import Derived.Test.YtkoeecdjijfjnaaGreatWH
import Derived.Test.YtkoeecdjijfjnaaGreatSI
set_option linter.all false
set_option maxRecDepth 100000
set_option maxHeartbeats 8000000
namespace Go.Proofs.YtkoeecdjijfjnaaGreat
open Go.RowKit
theorem nS {f n:Nat}{fn c args w R}(hf:Tryz.prog.funcs[f]?=some fn)(hb:fn.body=some c)(hn:fn.ntmps=n)(hs:args.size<=n)(hr:∀ ts w',(results fn ts).run Tryz.prog w'=.ok (.tuple #[]) w')
  (h:∀ (a:Act)(Q:Exit->Act->World->Prop),a.tmps.size=n->a.defers=[]->(∀ i v,args[i]?=some v->qq a i v)->(∀ (a':Act)(w':World),a'.defers=[]->R (.returned (.tuple #[])) w'->Q .normal a' w')->qw c Q a w):qg f args w R:=by
 refine calls_of_wp hf hb (h _ _ ?_ rfl ?_ (fun a' w' hd hR=>bodyPost_end (hr _ _) hd hR))
 ·simp [hn];omega
 ·intro i v hv
  obtain ⟨hi,rfl⟩:=Array.getElem?_eq_some_iff.1 hv;simp [Ev,Act.eval,Array.getElem?_append,hi]
structure WS (g B:Nat)(v:Value)(l:List Int)(w:World):Prop where
 row:By B v l w
 box:Blk w g 119 #[v]
 ne:some g ≠ v.ownBlock
 lo:B<=w
structure WG (S:World)(g:Nat)(u v:Value)(w:World):Prop where
 fr:Fr (fun k=>k=g∨some k=u.ownBlock) S w
 own:v.ownBlock=u.ownBlock∨∃ b,v.ownBlock=some b∧S<=b
def aMo (g B:Nat)(u:Value)(l enc:List Int)(w:World)(e:Ending)(w':World):Prop:=e=.returned (.tuple #[])∧∃ v,WS g B v (l ++ enc) w'∧WG w g u v w'
section
variable {S w w1:World}{g B:Nat}{u v v':Value}{l:List Int}
theorem WG.rf (S g u):WG S g u u S:=⟨au _ _,.inl rfl⟩
theorem WG.ext (h:WG S g u v w)(hx:Ext w w1):WG S g u v w1:=⟨h.fr.trans (ar hx),h.own⟩
theorem WG.pre (hx:Ext S w)(h:WG w g u v w1):WG S g u v w1:=⟨(ar hx).trans h.fr,h.own.elim .inl (fun ⟨b,e,hb⟩=>.inr ⟨b,e,ae hx.size hb⟩)⟩
theorem WG.trans (h:WG S g u v w)(k:WG w g v v' w1):WG S g u v' w1:=by
 have hs:=h.fr.size;refine ⟨h.fr.trans_new (k.fr.mono fun b hb=>?_),?_⟩
 ·rcases hb with hb | hb
  ·exact .inl (.inl hb)
  ·rcases h.own with e | ⟨c,e,hc⟩
   ·exact .inl (.inr (hb.trans e))
   ·rw [e] at hb;cases hb;exact .inr hc
 ·rcases k.own with e | ⟨c,e,hc⟩
  ·rw [e];exact h.own
  ·exact .inr ⟨c,e,I⟩
theorem WS.ext (h:WS g B v l w)(hx:Ext w w1):WS g B v l w1:=⟨h.row.ext_ hx,h.box.ext hx,h.ne,ae h.lo hx.size⟩
theorem WG.old (h:WG S g u v w)(hx:Ext w1 S)(hg:w1<=g)(hu:∀ b,u.ownBlock=some b->w1<=b):Ext w1 w:=Fr.new_ext ((ar hx).trans h.fr) (fun b hb=>hb.elim (fun e=>e ▸ hg) (fun e=>hu b e.symm))
end
section
variable {ops:Array Oper}{Q:Exit->Act->World->Prop}{a:Act}{w:World}{o1 o2 o3 o4:Oper}{d1 d2 d3 p g B:Nat}{u:Value}{l l2:List Int}{s x:Operand}
theorem a0j {v':Value}{w1:World}(a0:Act)(L:List Nat)(hS:WS g B u l w)(h1:By B v' (l ++ l2) w1)(hf:Fr (fun k=>some k=u.ownBlock) w w1)(hv:v'.ownBlock=u.ownBlock∨∃ b,v'.ownBlock=some b∧w<=b)(h:∀ a' v' w',Ag L a0 a'->WS g B v' (l ++ l2) w'->WG w g u v' w'->Q .normal a' w')
  (hg2:o2.guard=none:=by exact rfl)(hd2:o2.dst=some d2:=by exact rfl)(ho2:o2.op=.nilCheck (.tmp p):=by exact rfl)(hg3:o3.guard=none:=by exact rfl)(hd3:o3.dst=some d3:=by exact rfl)(ho3:o3.op=.fieldAddr 119 (.tmp d2) 0:=by exact rfl)(hg4:o4.guard=none:=by exact rfl)(hd4:o4.dst=none:=by exact rfl)(ho4:o4.op=.store 74 (.tmp d3) (.tmp d1):=by exact rfl)
  (hp:∀ v,Ev (Pt a d1 v) (.tmp p)=↑(qp g):=by (intro v;simp [*]))(hz1:d1<a.tmps.size:=by simp [*])(hz2:d2<a.tmps.size:=by simp [*])(hz3:d3<a.tmps.size:=by simp [*])(h12:d1 ≠ d2:=by decide)(h13:d1 ≠ d3:=by decide)
  (hA:∀ v1 v2 v3,Ag L a0 (Pt (Pt (Pt a d1 v1) d2 v2) d3 v3):=by (intro v1 v2 v3;(repeat refine .put ?_ rfl);exact .rf)):WL ops Q [o2,o3,o4] (Pt a d1 v') w1:=by
 obtain ⟨A',c',rfl,-,-,-⟩:=Sl.of_own h1;have hb1:Blk w1 g 119 #[u]:=hS.box.fr hf hS.ne
 have hne:some g ≠ (Value.slice A' (l ++ l2) c').ownBlock:=by
  rcases hv with e | ⟨b,e,hb⟩
  ·rw [e];exact hS.ne
  ·rw [e];intro h;cases h;exact absurd hS.box.lt I
 refine l_v (v:=qp g) (w1:=w1) hg2 hd2 (by simp [execOp,ho2,go_sem,hp]) ?_;refine l_v (v:=qp g) (w1:=w1) hg3 hd3 (by simp [execOp,ho3,go_sem,hz2]) ?_;refine l_s (w1:=w1.setCell (qp g) (.slice A' (l ++ l2) c')) hg4 hd4 ?_ (bS (h _ _ _ (hA _ _ _) ⟨?_,?_,hne,?_⟩ ⟨?_,?_⟩))
 ·simp [execOp,ho4,go_sem,hb1.cell,hb1.frozen,hz1,hz2,hz3,h12.symm,h13.symm]
 ·exact gS h1 ((au (fun k=>k=g) w1).setCell (p:=qp g) (.inl rfl) (.slice A' (l ++ l2) c')) (fun b hb e=>hne ju)
 ·have:=hb1.set_ 0 (.slice A' (l ++ l2) c')
  simpa using this
 ·have h2:=hS.lo
  have h3:=hf.size;simp [World.setCell];omega
 ·exact (hf.mono fun b hb=>.inr hb).setCell (p:=qp g) (.inl (.inl rfl)) _
 ·exact hv
theorem lws {T:Nat->Prop}{A:Option Addr}{n c:Nat}(a0:Act)(L:List Nat)(hS:WS g B u l w)(hsl:Sl w T 1 A n (l2.map (Value.int .u8)))(hn:n=l2)(hlen:l.length+l2<=1000000000000)(h:∀ a' v' w',Ag L a0 a'->WS g B v' (l ++ l2) w'->WG w g u v' w'->Q .normal a' w')
  (hg1:o1.guard=none:=by exact rfl)(hd1:o1.dst=some d1:=by exact rfl)(ho1:o1.op=.call { callee:=.builtin .append,args:=#[s,x],argTypes:=#[74,74] }:=by exact rfl)(hg2:o2.guard=none:=by exact rfl)(hd2:o2.dst=some d2:=by exact rfl)(ho2:o2.op=.nilCheck (.tmp p):=by exact rfl)(hg3:o3.guard=none:=by exact rfl)(hd3:o3.dst=some d3:=by exact rfl)(ho3:o3.op=.fieldAddr 119 (.tmp d2) 0:=by exact rfl)(hg4:o4.guard=none:=by exact rfl)(hd4:o4.dst=none:=by exact rfl)(ho4:o4.op=.store 74 (.tmp d3) (.tmp d1):=by exact rfl)
  (hs:Ev a s=u:=by simp [*])(hx:Ev a x=.slice A n c:=by (simp [*];try rfl))(hp:∀ v,Ev (Pt a d1 v) (.tmp p)=↑(qp g):=by (intro v;simp [*]))(hz1:d1<a.tmps.size:=by simp [*])(hz2:d2<a.tmps.size:=by simp [*])(hz3:d3<a.tmps.size:=by simp [*])(h12:d1 ≠ d2:=by decide)(h13:d1 ≠ d3:=by decide)
  (hA:∀ v1 v2 v3,Ag L a0 (Pt (Pt (Pt a d1 v1) d2 v2) d3 v3):=by (intro v1 v2 v3;(repeat refine .put ?_ rfl);exact .rf)):WL ops Q [o1,o2,o3,o4] a w:=by
 subst hn;refine la oH aHw hS.row hsl I I hS.lo aGo (fun v' w1 h1 hf hv=>a0j a0 L hS (by unfold By;rw [aa,List.map_append];exact h1) hf (hv.elim .inl (fun e=>.inr ⟨_,e,ab _⟩)) h hg2 hd2 ho2 hg3 hd3 ho3 hg4 hd4 ho4 hp hz1 hz2 hz3 h12 h13 hA) hg1 hd1 ho1 rfl I hs hx
theorem aB0 (s):Lib.strCells s=(sB s).map (Value.int .u8):=by
 unfold Lib.strCells sB;rw [List.map_map];rfl
theorem aOe {ty}(s:ByteArray)(hrow:By B u l w)(hB:B<=w)(hlen:l.length+s.size<=1000000000000):∃ v' w',(Builtin.append_ #[74,9] ty #[u,s]).run Tryz.prog w=.ok v' w'∧By B v' (l ++ sB s) w'∧Fr (fun k=>some k=u.ownBlock) w w'∧(v'.ownBlock=u.ownBlock∨∃ b,v'.ownBlock=some b∧w<=b):=by
 obtain ⟨i0,hi,hz0,hz1,hz2⟩:=info_parts aHw;have hu9:Tryz.prog.underlying 9=some .string:=by kernel_rfl
 have hm:l.length+s.size<=maxLen:=di;have key:∀ base,w.ownsRow base 5 1 u l (l.map (Value.int .u8))->base<=w->∃ v' w',(Builtin.append_ #[74,9] ty #[u,s]).run Tryz.prog w=.ok v' w'∧w'.ownsRow base 5 1 v' (l.length+s.size) (l.map (Value.int .u8) ++ Lib.strCells s)∧w.grownBy w' u.ownBlock∧(v'=↑qn ↔ u=↑qn∧s.size=0):=fun base h hb=>Lib.run_append_own_string w base 74 9 ty 5 i0 oH hu9 hi hz0 hz1 hz2 u l _ h s hm I hb
 obtain ⟨v',w',hr,h1,h2,h3⟩:=key B hrow hB;refine ⟨v',w',hr,?_,Fr.of_grown h2,?_⟩
 ·unfold By
  rw [aa,hH,List.map_append,<- aB0];exact h1
 rcases hrow.2 with ⟨rfl,h0⟩ | ⟨g,cap,cur,rfl,hg,hh,hn,hm',hs,ht⟩
 ·obtain ⟨v2,w2,hr2,h4,-,-⟩:=key w ⟨hrow.1,.inl ⟨rfl,h0⟩⟩ (ab _)
  rw [hr] at hr2;cases hr2;cases hb:v'.ownBlock with
  | none=>exact .inl rfl
  | some b=>exact .inr ⟨b,rfl,lI h4 hb⟩
 ·by_cases hroom:l.length+s.size<=cap
  ·have hr2:=Lib.run_append_room_string (P:=Tryz.prog) w 74 9 ty 5 i0 oH hu9 hi hz1 g l cap cur hh s hroom I
   rw [hr] at hr2;cases hr2;exact .inl rfl
  ·have hr2:=Lib.run_append_grow_string (P:=Tryz.prog) w 74 9 ty 5 i0 (.int .u8 0) oH hu9 hi hz0 (qp g) l cap (l.map (Value.int .u8)) (by rw [hz1];simp) (hrow.cells (g:=g) rfl) s I (by unfold maxLen at hm;omega) (by rw [hz2];exact growslice_fits I I)
   rw [hr] at hr2;cases hr2;exact .inr ⟨_,rfl,ab _⟩
end
theorem aYs (m:Nat):bits .or .u8 (IntKind.u8.wrap (m:Int)) 128=((m % 128+128:Nat):Int):=by
 have h:∀ k:Fin 256,bits .or .u8 ((k:Nat):Int) 128=(((k:Nat) % 128+128:Nat):Int):=cq;have hw:IntKind.u8.wrap (m:Int)=((m % 256:Nat):Int):=by simp [IntKind.wrap,IntKind.bits,IntKind.signed]
 rw [hw,h ⟨m % 256,Nat.mod_lt _ cq⟩];simp only;omega
section
variable {g B:Nat}{u:Value}{l:List Int}{w:World}
noncomputable def aWv:=RG Tryz.f120
noncomputable abbrev a22:Code:=.seq (.block 0 (.loop (.seq (.seq (aWv 0) (.cond (.tmp 5) .skip (.exit 0))) (.block 1 (.seq (aWv 1) (aWv 2)))))) (aWv 3)
theorem a3s:Tryz.f120.body=some a22:=U
theorem vX (n:Nat)(hn:n<18446744073709551616)(hS:WS g B u l w)(hl:l.length<=100000000000):qg 120 #[qp g,.int .u64 (n:Int)] w (aMo g B u l (oB n) w):=by
 refine nS Tryz.func120 a3s rfl O (fun _ _=>by simp [results,Tryz.results120,go_sem]) (fun a Q sz df ea hQ=>?_);have e0:=ea 0 (qp g) rfl;have e1:=ea 1 (.int .u64 (n:Int)) rfl;have h10:=sQ hn;refine wp_seq (wp_block (wp_loop (fun a' V=>∃ (m:Nat) (v:Value) (l':List Int),Ag [0] a a'∧qq a' 1 (.int .u64 (m:Int))∧WS g B v (l ++ l') V∧WG w g u v V∧oB n=l' ++ oB m∧m<=n) (fun a' _=>(intOf (Ev a' (.tmp 1))).toNat) ⟨n,u,[],.rf,e1,by simpa using hS,WG.rf _ _ _,rfl,ab _⟩ ?_));clear e1 hS;rintro a3 V ⟨m,v,l',u3,e1,hS,hG,hE,hm⟩;refine u3.c1 sz df e0 fun sz df e0=>?_
 have m1:=e1;have hll:=congrArg List.length hE;rw [aa] at hll;have c0:=hS.box.cell' (u:=v) 0 rfl;refine wp_seq (rS ?_);iterate 2 refine lv ?_
 refine lE a3 [0,1] 5 ?_;intro a4 u4 e5;refine u4.c2 sz df e0 e1 fun sz df e0 e1=>?_
 by_cases hlt:m<128
 ·refine wp_cond_false (e5.trans bh) (wp_exit (rW ?_))
  have hw:=wr8 (z:=m) I I;iterate 8 refine lv ?_
  refine lws (c:=1) a4 [] (hS.ext ((aq V).alloc' (qk #[.int .u8 (m:Int)] 5))) (Sl.new V [.int .u8 (m:Int)] 5 1 1 rfl) (l2:=[(m:Int)]) rfl bh ?_;intro a5 v5 w5 u5 hS5 hG5;rw [dM hlt] at hE;refine hQ a5 w5 (u5.df.trans df) ⟨rfl,v5,by rw [hE,<- ah];exact hS5,hG.trans (WG.pre ((aq V).alloc' _) hG5)⟩
 ·refine wp_cond_true (e5.trans bh) (wp_skip (wp_block (rS ?_)))
  have hw:=aYs m;iterate 9 refine lv ?_
  refine lws (c:=1) a4 [0,1] (hS.ext ((aq V).alloc' (qk #[.int .u8 ((m % 128+128:Nat):Int)] 5))) (Sl.new V [.int .u8 ((m % 128+128:Nat):Int)] 5 1 1 rfl) (l2:=[((m % 128+128:Nat):Int)]) rfl bh ?_;intro a5 v5 w5 u5 hS5 hG5;refine u5.c1 sz df e1 fun sz df e1=>?_
  refine rW ?_;iterate 3 refine lv ?_
  refine lE a5 [0] 1 ?_;intro a6 u6 f1;refine ⟨⟨m / 128,v5,l' ++ [((m % 128+128:Nat):Int)],(u3.trans (u4.mono rfl)).trans ((u5.mono rfl).trans u6),f1.trans O,by rw [<- ah];exact hS5,hG.trans (WG.pre ((aq V).alloc' _) hG5),by rw [hE,iZ hlt];simp,I⟩,?_⟩;rw [f1,m1];simp only [intOf];omega
theorem a1a {n}(hn:I64 n):bits .xor .u64 (IntKind.u64.wrap (IntKind.u64.wrap n*2)) (IntKind.u64.wrap (n / 9223372036854775808))=(zig n:Int):=by
 unfold I64 at hn;unfold zig;by_cases h:n<0
 ·have e1:IntKind.u64.wrap (IntKind.u64.wrap n*2)=((2*n+18446744073709551616).toNat:Int):=by simp [IntKind.wrap,IntKind.bits,IntKind.signed];omega
  have e2:IntKind.u64.wrap (n / 9223372036854775808)=((2 ^ 64 - 1:Nat):Int):=by
   rw [show n / 9223372036854775808=-1 by omega];decide
  rw [e1,e2,u64_xor_nat _ _ I cq,Nat.xor_comm,Lib.xor_ones64 _ I,if_pos h];omega
 ·have e1:IntKind.u64.wrap (IntKind.u64.wrap n*2)=((2*n).toNat:Int):=by simp [IntKind.wrap,IntKind.bits,IntKind.signed];omega
  have e2:IntKind.u64.wrap (n / 9223372036854775808)=((0:Nat):Int):=by
   rw [show n / 9223372036854775808=0 by omega];decide
  rw [e1,e2,u64_xor_nat _ _ I cq,Nat.xor_zero,if_neg h]
noncomputable def R70:=RG Tryz.f70
noncomputable abbrev c70:Code:=R70 0
theorem b70:Tryz.f70.body=some c70:=U
theorem iP (n)(hn:I64 n)(hS:WS g B u l w)(hl:l.length<=100000000000):qg 70 #[qp g,↑n] w (aMo g B u l (fE n) w):=by
 refine nS Tryz.func70 b70 rfl O (fun _ _=>by simp [results,Tryz.results70,go_sem]) (fun a Q sz df ea hQ=>?_);refine rW ?_;have hz:=a1a hn;iterate 8 refine lv ?_
 refine lc Tryz.func120 (vX (zig n) (aGj n hn) hS hl) ?_;rintro e w1 ⟨rfl,v1,hS1,hG1⟩;refine ⟨_,rfl,?_⟩;refine lN a [] ?_;intro a1 u1;exact hQ a1 w1 (u1.df.trans df) ⟨rfl,v1,hS1,hG1⟩
noncomputable def R72:=RG Tryz.f72
noncomputable abbrev c72:Code:=.seq (R72 0) (.cond (.tmp 4) (R72 1) (R72 2))
theorem b72:Tryz.f72.body=some c72:=U
theorem aVl (b:Bool)(hS:WS g B u l w)(hl:l.length<=100000000000):qg 72 #[qp g,b] w (aMo g B u l (aQl b) w):=by
 refine nS Tryz.func72 b72 rfl O (fun _ _=>by simp [results,Tryz.results72,go_sem]) (fun a Q sz df ea hQ=>?_);have e0:=ea 0 (qp g) rfl;have e1:=ea 1 b rfl;have c0:=hS.box.cell' (u:=u) 0 rfl;refine rS ?_;refine lv ?_;refine lE a [0] 4 ?_;intro a1 u1 e4;refine u1.c1 sz df e0 fun sz df e0=>?_
 have hx:∀ z:Int,Ext w (w.alloc (qk #[.int .u8 z] 5)):=fun z=>(aq w).alloc' _
 cases b
 ·refine wp_cond_false e4 (rW ?_)
  iterate 6 refine lv ?_
  refine lws (c:=1) a1 [] (hS.ext (hx 0)) (Sl.new w [.int .u8 0] 5 1 1 rfl) (l2:=[0]) rfl bh ?_;intro a2 v2 w2 u2 hS2 hG2;exact hQ a2 w2 (u2.df.trans df) ⟨rfl,v2,hS2,WG.pre (hx 0) hG2⟩
 ·refine wp_cond_true e4 (rW ?_)
  iterate 6 refine lv ?_
  refine lws (c:=1) a1 [] (hS.ext (hx 1)) (Sl.new w [.int .u8 1] 5 1 1 rfl) (l2:=[1]) rfl bh ?_;intro a2 v2 w2 u2 hS2 hG2;exact hQ a2 w2 (u2.df.trans df) ⟨rfl,v2,hS2,WG.pre (hx 1) hG2⟩
noncomputable def R68:=RG Tryz.f68
noncomputable abbrev c68:Code:=.seq (R68 0) (R68 1)
theorem b68:Tryz.f68.body=some c68:=U
theorem aW9 {P A}{n c:Nat}(b:List Int)(hn:n=b)(hb:b.length<=100000000000)(hs:Sl w P 1 A n (b.map (Value.int .u8)))(hP:∀ k,P k->k ≠ g∧some k ≠ u.ownBlock)(hS:WS g B u l w)(hl:l.length<=100000000000):qg 68 #[qp g,.slice A n c] w (aMo g B u l (lJ b) w):=by
 subst hn;refine nS Tryz.func68 b68 rfl O (fun _ _=>by simp [results,Tryz.results68,go_sem]) (fun a Q sz df ea hQ=>?_);have e0:=ea 0 (qp g) rfl;have e1:=ea 1 (.slice A b c) rfl;have h10:=sQ (n:=b.length) I;refine rS ?_;have hw:=wrU (z:=b.length) I I;iterate 4 refine lv ?_
 refine lc Tryz.func120 (vX b I hS hl) ?_;rintro e w1 ⟨rfl,v1,hS1,hG1⟩;refine ⟨_,rfl,?_⟩;refine lN a [0,1] ?_;intro a1 u1;refine u1.c2 sz df e0 e1 fun sz df e0 e1=>?_
 have c0:=hS1.box.cell' (u:=v1) 0 rfl;refine rW ?_;iterate 6 refine lv ?_
 refine lws (c:=c) a1 [] hS1 (hs.keep (Q:=fun _=>True) (aB.of_fr hG1.fr fun k hk h=>h.elim (hP k hk).1 (hP k hk).2) (fun _ _=>trivial)) rfl ij ?_;intro a2 v2 w2 u2 hS2 hG2;exact hQ a2 w2 (u2.df.trans df) ⟨rfl,v2,by rw [lJ,<- ah];exact hS2,hG1.trans hG2⟩
end
theorem a2c {ops:Array Oper}{Q:Exit->Act->World->Prop}{a:Act}{w w':World}{rest:List Oper}{o:Oper}{d:Nat}{s x:Operand}{ts:Array TypeId}{v0 v1 v':Value}(hs:Ev a s=v0)(hx:Ev a x=v1)(hr:(Builtin.append_ ts o.type #[v0,v1]).run Tryz.prog w=.ok v' w')(h:WL ops Q rest (Pt a d v') w')
  (hg:o.guard=none:=by exact rfl)(hd:o.dst=some d:=by exact rfl)(ho:o.op=.call { callee:=.builtin .append,args:=#[s,x],argTypes:=ts }:=by exact rfl):WL ops Q (o :: rest) a w:=by
 refine l_v hg hd ?_ h;unfold execOp;simp only [ho,resolve,invoke,builtin,Sem.run_bind,Sem.run_pure,Result.andThen_ok,List.map_toArray,List.map_cons,List.map_nil,hs,hx,hr]
section
variable {g B:Nat}{u:Value}{l:List Int}{w:World}
noncomputable def a03:=RG Tryz.f165
noncomputable abbrev a2p:Code:=.seq (a03 0) (a03 1)
theorem a3e:Tryz.f165.body=some a2p:=U
theorem aBy (s:ByteArray)(hs:s.size<=100000000000)(hS:WS g B u l w)(hl:l.length<=100000000000):qg 165 #[qp g,s] w (aMo g B u l (jM s) w):=by
 refine nS Tryz.func165 a3e rfl O (fun _ _=>by simp [results,Tryz.results165,go_sem]) (fun a Q sz df ea hQ=>?_);have e0:=ea 0 (qp g) rfl;have e1:=ea 1 s rfl;have h10:=sQ (n:=s.size) I;refine rS ?_;have hw:=wrU (z:=s.size) I I;iterate 4 refine lv ?_
 refine lc Tryz.func120 (vX s.size I hS hl) ?_;rintro e w1 ⟨rfl,v1,hS1,hG1⟩;refine ⟨_,rfl,?_⟩;refine lN a [0,1] ?_;intro a1 u1;refine u1.c2 sz df e0 e1 fun sz df e0 e1=>?_
 have c0:=hS1.box.cell' (u:=v1) 0 rfl;obtain ⟨v2,w2,hr,h1,hf,hv⟩:=aOe (ty:=74) s hS1.row hS1.lo ij;refine rW ?_;iterate 6 refine lv ?_
 refine a2c (s:=.tmp 13) (x:=.tmp 14) av av hr ?_;refine a0j a1 [] hS1 h1 hf hv ?_;intro a2 v3 w3 u2 hS2 hG2;exact hQ a2 w3 (u2.df.trans df) ⟨rfl,v3,by rw [jM,lJ,hH,<- ah];exact hS2,hG1.trans hG2⟩
noncomputable def R73:=RG Tryz.f73
noncomputable abbrev c73:Code:=.seq (R73 0) (.seq (R73 1) .ret)
theorem b73:Tryz.f73.body=some c73:=U
theorem aNb (hS:WS g B u l w)(hl:l.length<=100000000000):qg 73 #[qp g] w (jD l w):=by
 refine bW Tryz.func73 b73 rfl O (fun a Q sz df ea hQ=>?_);have e0:=ea 0 (qp g) rfl;refine rS ?_;refine lv ?_;refine lN a [0] ?_;intro a1 u1;refine u1.c1 sz df e0 fun sz df e0=>?_
 have c0:=hS.box.cell' (u:=u) 0 rfl;obtain ⟨A,c,rfl,-,-,hsl⟩:=Sl.of_own hS.row;refine rS ?_;refine lv ?_;have hx:Ext w (w.alloc (qk #[] 5)):=(aq w).alloc' _;have hO:Out w (.slice (qp w) 0 0) [] (w.alloc (qk #[] 5)):=⟨World.ownsRow_lit w #[] 0 (ab _) di rfl,⟨ar hx,.inr ⟨_,rfl,ab _⟩⟩,ab _⟩;have hsl':=(hsl (fun _=>True) (fun _ _=>trivial)).ext hx;have c1:=aA hx c0;generalize w.alloc (qk #[] 5)=W at *;iterate 4 refine lv ?_
 refine lap (c:=c) hO hsl' rfl bh ?_;intro v2 w2 hO2;refine lv ?_;refine lE a1 [] 2 ?_;intro a2 u2 e2;exact wp_ret (hQ _ _ _ (u2.df.trans df) (by simp [results,Tryz.results73,go_sem,evT e2];try rfl) ⟨v2,rfl,hO2⟩)
end
theorem aAj {α f}{l:List α}(d){S w g B u v pre s t bl bb rT rB rC a Q}(K)
  (h0:qq a s qz)(hS:WS g B v pre w)(hG:WG S g u v w)(hlen:pre.length+(l.flatMap f)<=100000000000)(hll:l.length<=1000000000000)
  (hT:∀ R b V v' (j:Nat),Ag K a b->qq b s (j:Int)->WG S g u v' V->(∀ b',Ag (s :: K) b b'->qq b' t (decide (j<l))->R .normal b' V)->qw rT R b V)
  (hB:∀ R b V v' (j:Nat) pre',j<l->Ag K a b->qq b s (j:Int)->WS g B v' pre' V->WG S g u v' V->pre'.length+(f (l.getD j d))<=100000000000->(∀ b' v2 V',Ag (s :: K) b b'->WS g B v2 (pre' ++ f (l.getD j d)) V'->WG S g u v2 V'->R .normal b' V')->qw rB R b V)
  (hC:∀ R b V (j:Nat),Ag K a b->qq b s (j:Int)->IntKind.i64.wrap ((j:Int)+1)=(j:Int)+1->(∀ b',Ag K b b'->qq b' s (.int .i64 ((j:Int)+1))->R .normal b' V)->qw rC R b V)
  (hQ:∀ b v' V,Ag K a b->WS g B v' (pre ++ l.flatMap f) V->WG S g u v' V->Q .normal b V):qw (.block bl (.loop (.seq rT (.seq (.cond (.tmp t) .skip (.exit bl)) (.seq (.block bb rB) rC))))) Q a w:=by
 refine wp_block (wp_loop (fun a' V=>∃ (j:Nat) (v:Value),Ag K a a'∧qq a' s (j:Int)∧WS g B v (pre ++ (l.take j).flatMap f) V∧WG S g u v V∧j<=l) (fun a' _=>(l.length - intOf (Ev a' (.tmp s))).toNat) ⟨0,_,.rf,h0,by simpa using hS,hG,af _⟩ ?_);rintro b V ⟨j,v',u0,es,hS',hG',hj⟩;refine wp_seq (hT _ b V v' j u0 es hG' (fun b1 u1 et=>?_));have es1:=u1.hd es;have k1:=u0.trans u1.tl;by_cases hlt:j<l
 ·have htk:=sL f d hlt
  have htl:=aCl f l (j+1);rw [htk,aa] at htl;refine wp_seq (wp_cond_true (et.trans dm) (wp_skip (wp_seq (wp_block (hB _ b1 V v' j _ hlt k1 es1 hS' hG' ij (fun b2 v2 V2 u2 hS2 hG2=>?_))))));have k2:=k1.trans u2.tl;refine hC _ b2 V2 j k2 (u2.hd es1) (wrI I I) (fun b3 u3 es3=>?_);refine ⟨⟨j+1,v2,k2.trans u3,es3.trans O,by rw [htk,<- ah];exact hS2,hG2,hlt⟩,?_⟩;rw [es3,es];simp only [intOf];omega
 ·refine wp_seq (wp_cond_false (et.trans dm) (wp_exit ?_))
  rw [an I] at hS'
  simpa [Exit.then,Exit.inBlock] using hQ b1 v' V k1 hS' hG'
section
variable {g B:Nat}{u:Value}{l:List Int}{w:World}{P:Nat->Prop}{A:Option Addr}{c:Nat}
noncomputable def R71:=RG Tryz.f71
noncomputable abbrev c71:Code:=.seq (R71 0) (.seq (R71 1) (.block 0 (.loop (.seq (R71 2) (.seq (.cond (.tmp 14) .skip (.exit 0)) (.seq (.block 1 (.seq (R71 3) (R71 4))) (R71 5)))))))
theorem b71:Tryz.f71.body=some c71:=U
theorem aU0 (b:List Int)(hb:Ints w P (.slice A b c) b)(hP:∀ k,P k->k ≠ g∧some k ≠ u.ownBlock)(hS:WS g B u l w)(hlen:l.length+(nF b)<=100000000000):qg 71 #[qp g,.slice A b c] w (aMo g B u l (nF b) w):=by
 refine nS Tryz.func71 b71 rfl O (fun _ _=>by simp [results,Tryz.results71,go_sem]) (fun a Q sz df ea hQ=>?_);have e0:=ea 0 (qp g) rfl;have e1:=ea 1 (.slice A b c) rfl;have hbl:=hb.le;have h64:∀ x ∈ b,I64 x:=by obtain ⟨_,_,_,_,_,h,_⟩:=id hb;exact h
 have h10:=sQ (n:=b.length) I;have hfl:nF b=oB b.length ++ b.flatMap fE:=rfl;rw [hfl,aa] at hlen;have hll:=cK fE dB b;refine rS ?_;have hw:=wrU (z:=b.length) I I;iterate 4 refine lv ?_
 refine lc Tryz.func120 (vX b I hS I) ?_;rintro e w1 ⟨rfl,v1,hS1,hG1⟩;refine ⟨_,rfl,?_⟩;refine lN a [0,1] ?_;intro a1 u1;refine u1.c2 sz df e0 e1 fun sz df e0 e1=>?_
 refine rS ?_;iterate 3 refine lv ?_
 refine lE3 a1 [0] 11 12 13 ?_;intro a2 u2 e11 e12 e13;refine u2.c1 sz df e0 fun sz df e0=>?_
 refine aAj (f:=fE) (l:=b) 0 [0,11,12] e13 hS1 hG1 ij I ?_ ?_ ?_ ?_
 ·intro R c V v' j u e13 hg hR
  refine u.b1 sz e12 fun sz e12=>?_
  refine rW ?_;refine lv ?_;exact lE c [13,0,11,12] 14 hR (he:=by simp [*])
 ·intro R c V v' j pre' hj u e13 hS hG hl' hR
  refine u.b2 sz e0 e11 fun sz e0 e11=>?_
  obtain ⟨b1,o1,rfl,-,-,g1⟩:=(hb.keep (Q:=fun _=>True) (aB.of_fr hG.fr fun k hk h=>h.elim (hP k hk).1 (hP k hk).2) (fun _ _=>trivial)).get hj;have hy:I64 (b.getD j 0):=h64 _ (aD hj);generalize b.getD j 0=y at *;have hji:(j:Int)<b:=by omega
  refine rS ?_;iterate 3 refine lv ?_
  refine lE c [13,0,11,12] 5 ?_;intro c1 u1 e5;refine u1.b1 sz e0 fun sz e0=>?_
  refine rW ?_;iterate 2 refine lv ?_
  refine lc Tryz.func70 (iP y hy hS I) ?_;rintro e w3 ⟨rfl,v3,hS3,hG3⟩;refine ⟨_,rfl,?_⟩;refine lN c1 [13,0,11,12] ?_;intro c2 u2;exact hR c2 v3 w3 (u1.trans u2) hS3 (hG.trans hG3)
 ·intro R c V j u e13 hw hR
  replace sz:=u.sz.trans sz;refine rW ?_;iterate 2 refine lv ?_
  exact lE c [0,11,12] 13 hR (he:=by simp [*])
 ·intro c v' V u hS hG
  exact hQ c V (u.df.trans df) ⟨rfl,v',by rw [hfl,<- ah];exact hS,hG⟩
end
structure RSt (g:Nat)(P:Nat->Prop)(A:Option Addr)(c:Nat)(e:Int)(l:List Int)(w:World):Prop where
 box:Blk w g 178 #[.slice A l c,↑e]
 len:l<=c∧c<=9223372036854775807∧l.length<=100000000000
 sl:Sl w P 1 A l (l.map (Value.int .u8))
 byt:Byt l
 sep:∀ k,P k->k ≠ g
 plt:∀ k,P k->k<w
def RSm (e:Int)(l:List Int):Option (List Int)->Prop
 | some l'=>e=0∧l=l'
 | none=>e ≠ 0∧I64 e
def RS (g:Nat)(P:Nat->Prop)(s:Option (List Int))(w:World):Prop:=∃ A c e l,RSt g P A c e l w∧RSm e l s
def cC {α:Type}(d:Dec α)(x0:α)(s:Option (List Int))(x:α)(s':Option (List Int)):Prop:=match s.bind d with
 | some (y,r)=>x=y∧s'=some r
 | none=>x=x0∧s'=none
def yO {α:Type}(g:Nat)(P:Nat->Prop)(d:Dec α)(x0:α)(val:α->Value->World->Prop)(s:Option (List Int))(w:World)(e:Ending)(w':World):Prop:=∃ x s' v,e=.returned v∧val x v w'∧RS g P s' w'∧cC d x0 s x s'∧Fr (fun k=>k=g) w w'
section
variable {g:Nat}{P:Nat->Prop}{A:Option Addr}{c:Nat}{e:Int}{l:List Int}{w w':World}{s:Option (List Int)}
theorem RSt.set0 (h:RSt g P A c e l w){A'}{c':Nat}{l':List Int}(hl:l'<=c'∧c'<=9223372036854775807∧l'.length<=100000000000)(hs:Sl w P 1 A' l' (l'.map (Value.int .u8)))(hb:Byt l'):RSt g P A' c' e l' (w.setCell (qp g) (.slice A' l' c')):=by
 refine ⟨by simpa using h.box.set_ 0 (.slice A' l' c'),hl,hs.keep (aB.of_fr ((au (fun k=>k=g) w).setCell (p:=qp g) (.inl rfl) _) h.sep) (fun _ h=>h),hb,h.sep,by simpa using h.plt⟩
theorem RSt.set1 (h:RSt g P A c e l w)(e'):RSt g P A c e' l (w.setCell (qt g 1) (↑e')):=by
 refine ⟨by simpa using h.box.set_ 1 (↑e'),h.len,h.sl.keep (aB.of_fr ((au (fun k=>k=g) w).setCell (p:=qt g 1) (.inl rfl) _) h.sep) (fun _ h=>h),h.byt,h.sep,by simpa using h.plt⟩
theorem RSt.ext (h:RSt g P A c e l w)(hx:Ext w w'):RSt g P A c e l w':=⟨h.box.ext hx,h.len,h.sl.keep (aB.of_ext hx) (fun _ h=>h),h.byt,h.sep,fun k hk=>ac (h.plt k hk) hx.size⟩
theorem RSt.fr {M}(h:RSt g P A c e l w)(hf:Fr M w w')(hg:¬ M g)(hP:∀ k,P k->¬ M k):RSt g P A c e l w':=⟨h.box.fr hf hg,h.len,h.sl.keep (aB.of_fr hf hP) (fun _ h=>h),h.byt,h.sep,fun k hk=>ac (h.plt k hk) hf.size⟩
theorem RS.fr {M}(h:RS g P s w)(hf:Fr M w w')(hg:¬ M g)(hP:∀ k,P k->¬ M k):RS g P s w':=by
 obtain ⟨A,c,e,l,h1,h2⟩:=h;exact ⟨A,c,e,l,h1.fr hf hg hP,h2⟩
theorem RS.glt (h:RS g P s w):g<w∧∀ k,P k->k<w:=by
 obtain ⟨A,c,e,l,h1,h2⟩:=h;exact ⟨h1.box.lt,h1.plt⟩
theorem RS.ext (h:RS g P s w)(hx:Ext w w'):RS g P s w':=by
 obtain ⟨A,c,e,l,h1,h2⟩:=h;exact ⟨A,c,e,l,h1.ext hx,h2⟩
noncomputable def a05:=RG Tryz.f128
noncomputable abbrev a2v:Code:=.seq (a05 0) (.cond (.tmp 8) (a05 1) .skip)
theorem a3k:Tryz.f128.body=some a2v:=U
theorem sP (h:RSt g P A c 0 l w)(e':Int):Calls Tryz.prog 128 #[qp g,↑e'] w fun en w'=>en=.returned (.tuple #[])∧RSt g P A c e' l w'∧Fr (fun k=>k=g) w w':=by
 refine nS Tryz.func128 a3k rfl O (fun _ _=>by simp [results,Tryz.results128,go_sem]) (fun a Q sz df ea hQ=>?_);have e0:=ea 0 (qp g) rfl;have e1:=ea 1 (↑e') rfl;have c1:=h.box.cell' (u:=qz) 1 rfl;have f1:=h.box.frozen 1;refine rS ?_;iterate 5 refine lv ?_
 refine lE a [0,1] 8 ?_;intro a1 u1 e8;refine u1.c2 sz df e0 e1 fun sz df e0 e1=>?_
 refine wp_cond_true e8 (rW ?_);iterate 4 refine lv ?_
 refine ls (w1:=w.setCell (qt g 1) (↑e')) ?_ (hrun:=by simp [execOp,go_sem, *]);refine lN a1 [] ?_;intro a2 u2;exact hQ _ _ (u2.df.trans df) ⟨rfl,h.set1 e',(au (fun k=>k=g) w).setCell (p:=qt g 1) (.inl rfl) _⟩
theorem Sl.dropB {bk ok k:Nat}(h:Sl w P 1 (qt bk ok) l (l.map (Value.int .u8)))(hc:l<=c)(hk:k<=l):Sl w P 1 (if c=k then some ↑(qt bk ok) else some ↑(qt bk (ok+k))) (l.drop k) ((l.drop k).map (Value.int .u8)):=by
 refine ⟨O,fun h0=>?_⟩;rw [am] at h0;obtain ⟨b,off,e,hb,hcc⟩:=h.2 I;cases e;rw [if_neg I];refine ⟨bk,ok+k,rfl,hb,fun j u hu=>?_⟩;rw [Nat.add_assoc];refine hcc (k+j) u ?_;rw [List.map_drop,List.getElem?_drop] at hu;exact hu
theorem or7 (i:Nat)(hi:i<=9)(acc:Nat)(b)(ha:acc<128 ^ i)(hb:0<=b∧b<128)(h9:i=9->b<=1):bits .or .u64 (acc:Int) (IntKind.u64.wrap (b*2 ^ (7*(i:Int)).toNat))=((acc+128 ^ i*b.toNat:Nat):Int):=by
 have hc:i=0∨i=1∨i=2∨i=3∨i=4∨i=5∨i=6∨i=7∨i=8∨i=9:=I;rcases hc with rfl | rfl | rfl | rfl | rfl | rfl | rfl | rfl | rfl | rfl
 ·replace ha:acc<1:=ha
  rw [show (2:Int) ^ (7*((0:Nat):Int)).toNat=1 from rfl,show (128:Nat) ^ 0=1 from rfl,show IntKind.u64.wrap (b*1)=b*1 by simp [IntKind.wrap,IntKind.bits,IntKind.signed];omega,u64_orv0 (y:=(acc:Int)) (x:=b*1) I I I I I];omega
 ·replace ha:acc<128:=ha
  rw [show (2:Int) ^ (7*((1:Nat):Int)).toNat=128 from rfl,show (128:Nat) ^ 1=128 from rfl,show IntKind.u64.wrap (b*128)=b*128 by simp [IntKind.wrap,IntKind.bits,IntKind.signed];omega,u64_orv7 (y:=(acc:Int)) (x:=b*128) I I I I I];omega
 ·replace ha:acc<16384:=ha
  rw [show (2:Int) ^ (7*((2:Nat):Int)).toNat=16384 from rfl,show (128:Nat) ^ 2=16384 from rfl,show IntKind.u64.wrap (b*16384)=b*16384 by simp [IntKind.wrap,IntKind.bits,IntKind.signed];omega,u64_orv14 (y:=(acc:Int)) (x:=b*16384) I I I I I];omega
 ·replace ha:acc<2097152:=ha
  rw [show (2:Int) ^ (7*((3:Nat):Int)).toNat=2097152 from rfl,show (128:Nat) ^ 3=2097152 from rfl,show IntKind.u64.wrap (b*2097152)=b*2097152 by simp [IntKind.wrap,IntKind.bits,IntKind.signed];omega,u64_orv21 (y:=(acc:Int)) (x:=b*2097152) I I I I I];omega
 ·replace ha:acc<268435456:=ha
  rw [show (2:Int) ^ (7*((4:Nat):Int)).toNat=268435456 from rfl,show (128:Nat) ^ 4=268435456 from rfl,show IntKind.u64.wrap (b*268435456)=b*268435456 by simp [IntKind.wrap,IntKind.bits,IntKind.signed];omega,u64_orv28 (y:=(acc:Int)) (x:=b*268435456) I I I I I];omega
 ·replace ha:acc<34359738368:=ha
  rw [show (2:Int) ^ (7*((5:Nat):Int)).toNat=34359738368 from rfl,show (128:Nat) ^ 5=34359738368 from rfl,show IntKind.u64.wrap (b*34359738368)=b*34359738368 by simp [IntKind.wrap,IntKind.bits,IntKind.signed];omega,u64_orv35 (y:=(acc:Int)) (x:=b*34359738368) I I I I I];omega
 ·replace ha:acc<4398046511104:=ha
  rw [show (2:Int) ^ (7*((6:Nat):Int)).toNat=4398046511104 from rfl,show (128:Nat) ^ 6=4398046511104 from rfl,show IntKind.u64.wrap (b*4398046511104)=b*4398046511104 by simp [IntKind.wrap,IntKind.bits,IntKind.signed];omega,u64_orv42 (y:=(acc:Int)) (x:=b*4398046511104) I I I I I];omega
 ·replace ha:acc<562949953421312:=ha
  rw [show (2:Int) ^ (7*((7:Nat):Int)).toNat=562949953421312 from rfl,show (128:Nat) ^ 7=562949953421312 from rfl,show IntKind.u64.wrap (b*562949953421312)=b*562949953421312 by simp [IntKind.wrap,IntKind.bits,IntKind.signed];omega,u64_orv49 (y:=(acc:Int)) (x:=b*562949953421312) I I I I I];omega
 ·replace ha:acc<72057594037927936:=ha
  rw [show (2:Int) ^ (7*((8:Nat):Int)).toNat=72057594037927936 from rfl,show (128:Nat) ^ 8=72057594037927936 from rfl,show IntKind.u64.wrap (b*72057594037927936)=b*72057594037927936 by simp [IntKind.wrap,IntKind.bits,IntKind.signed];omega,u64_orv56 (y:=(acc:Int)) (x:=b*72057594037927936) I I I I I];omega
 ·replace ha:acc<9223372036854775808:=ha
  rw [show (2:Int) ^ (7*((9:Nat):Int)).toNat=9223372036854775808 from rfl,show (128:Nat) ^ 9=9223372036854775808 from rfl,show IntKind.u64.wrap (b*9223372036854775808)=b*9223372036854775808 by simp [IntKind.wrap,IntKind.bits,IntKind.signed];omega,u64_orv63 (y:=(acc:Int)) (x:=b*9223372036854775808) I I I I I];omega
noncomputable def yV:=RG Tryz.f126
noncomputable abbrev a2x:Code:=.seq (yV 0) (.seq (.seq (yV 1) (.cond (.tmp 10) (.seq (yV 2) .ret) .skip)) (.seq (yV 3) (.seq (yV 4) (.block 0 (.loop (.seq (.block 1 (.seq (.seq (yV 6) (.cond (.tmp 19) (.seq (yV 7) (.seq (yV 8) .ret)) .skip)) (.seq (yV 9) (.seq (.seq (yV 10) (.cond (.tmp 42) (.seq (yV 11) (.seq (yV 12) .ret)) .skip)) (.seq (yV 13) (.seq (yV 14) (.cond (.tmp 54) (.seq (yV 15) (.seq (yV 16) .ret)) .skip))))))) (yV 5)))))))
theorem a3m:Tryz.f126.body=some a2x:=U
theorem aG9 {R a}{i:Nat}{b}(hi:i<=9)(hb:0<=b∧b<256)(sz:a.tmps.size=Tryz.f126.ntmps)(e4:qq a 4 (i:Int))(e5:qq a 5 (.int .u8 b))
  (hR:∀ a',Ag [0,3,4,5] a a'->qq a' 42 (.bool (decide ((i=9∧1<b)∨(0<i∧b=0))))->R .normal a' w):qw (yV 10) R a w:=by
 refine rW ?_;by_cases h9:i=9
 ·subst h9
  by_cases h1:1<b
  ·iterate 3 refine lv ?_
   iterate 2 refine ly ?_
   iterate 2 refine lv ?_
   iterate 3 refine ln ?_
   iterate 2 refine l_u rfl rfl rfl av av ?_
   refine ln ?_;refine lv ?_;exact lE a [0,3,4,5] 42 hR (he:=by simp [*])
  ·iterate 3 refine lv ?_
   iterate 2 refine ly ?_
   iterate 2 refine lv ?_
   iterate 6 refine ly ?_
   refine lv ?_;exact lE a [0,3,4,5] 42 hR (he:=by simp [*];by_cases hb0:b=0 <;> simp [hb0])
 ·have t1:((i:Int) == 9)=false:=a4c I
  by_cases h0:i=0
  ·subst h0
   iterate 3 refine lv ?_
   iterate 2 refine ln ?_
   iterate 2 refine lv ?_
   iterate 3 refine ly ?_
   iterate 2 refine ln ?_
   refine ly ?_;refine lv ?_;exact lE a [0,3,4,5] 42 hR (he:=by simp [*])
  ·have t2:decide (0<i)=true:=a4e I
   have t3:0<i:=I;iterate 3 refine lv ?_
   iterate 2 refine ln ?_
   iterate 2 refine lv ?_
   iterate 6 refine ly ?_
   refine lv ?_;exact lE a [0,3,4,5] 42 hR (he:=by simp [*];by_cases hb0:b=0 <;> simp [hb0])
theorem aGn (h:RS g P s w):qg 126 #[qp g] w (yO g P sX 0 (fun n v _=>v=.int .u64 (n:Int)∧n<18446744073709551616) s w):=by
 refine bW Tryz.func126 a3m rfl O (fun a Q sz df ea hQ=>?_);have e0:=ea 0 (qp g) rfl;obtain ⟨A,c,e,l,h1,h2⟩:=h;have c0:=h1.box.cell' (u:=.slice A l c) 0 rfl;have c1:=h1.box.cell' (u:=↑e) 1 rfl;refine rS ?_;refine lv ?_;refine lN a [0] ?_;intro a1 u1;refine u1.c1 sz df e0 fun sz df e0=>?_
 refine wp_seq (rS ?_);iterate 5 refine lv ?_
 refine lE a1 [0] 10 ?_;intro a2 u2 e10;refine u2.c1 sz df e0 fun sz df e0=>?_
 cases s with
 | none =>
  obtain ⟨h2,h3⟩:=h2;refine wp_cond_true (e10.trans jg) (rS ?_);refine lv ?_;refine lE a2 [] 2 ?_;intro a3 u3 e2;exact wp_ret (hQ _ _ _ (u3.df.trans df) (by simp [results,Tryz.results126,go_sem,evT e2];try rfl) ⟨0,none,_,rfl,⟨rfl,cq⟩,⟨A,c,e,l,h1,h2,h3⟩,⟨rfl,rfl⟩,au _ _⟩)
 | some l0 =>
  obtain ⟨rfl,rfl⟩:=h2;refine wp_cond_false (e10.trans O) (wp_skip (rS ?_));refine lv ?_;refine lE a2 [0] 3 ?_;intro a3 u3 e3;refine u3.c1 sz df e0 fun sz df e0=>?_
  refine rS ?_;refine lv ?_;refine lE a3 [0,3] 4 ?_;intro a4 u4 e4;refine u4.c2 sz df e0 e3 fun sz df e0 e3=>?_
  refine wp_block (wp_loop (fun a' V=>∃ (i acc:Nat),Ag [0] a4 a'∧qq a' 4 (i:Int)∧qq a' 3 (.int .u64 (acc:Int))∧i<=9∧i<=l∧acc<128 ^ i∧sX l=(nH (l.drop i) i).map (fun x=>(acc+128 ^ i*x.1,x.2))∧V=w) (fun a' _=>(10 - intOf (Ev a' (.tmp 4))).toNat) ⟨0,0,.rf,e4,e3,I,I,cq,by simp [sX],rfl⟩ ?_);clear e3 e4;rintro a5 V ⟨i,acc,u5,e4,e3,hi,hil,hacc,hd,rfl⟩;refine u5.c1 sz df e0 fun sz df e0=>?_
  have m4:=e4;refine wp_seq (wp_block (wp_seq (rS ?_)));iterate 7 refine lv ?_
  refine lE a5 [0,3,4] 19 ?_;intro a6 u6 e19;refine u6.c3 sz df e0 e3 e4 fun sz df e0 e3 e4=>?_
  by_cases hlt:i<l
  ·refine wp_cond_false (e19.trans bh) (wp_skip (rS ?_))
   obtain ⟨bk,ok,rfl,-,hc⟩:=h1.sl.u8 hlt;have hby:=h1.byt _ (aD (d:=0) hlt);rw [aH 0 hlt] at hd;generalize l.getD i 0=b at *;have hii:(i:Int)<l:=by omega
   iterate 8 refine lv ?_
   refine lE a6 [0,3,4] 5 ?_;intro a7 u7 e5;refine u7.c3 sz df e0 e3 e4 fun sz df e0 e3 e4=>?_
   refine wp_seq (wp_seq (aG9 hi hby sz e4 e5 (fun a8 u8 e42=>?_)));refine u8.c4 sz df e0 e3 e4 e5 fun sz df e0 e3 e4 e5=>?_
   by_cases hbad:(i=9∧1<b)∨(0<i∧b=0)
   ·refine wp_cond_true (e42.trans (by simp [hbad])) (rS ?_)
    refine lv ?_;refine lc Tryz.func128 (sP h1 2) ?_;rintro e w1 ⟨rfl,h3,hf⟩;refine ⟨_,rfl,?_⟩;refine lN a8 [0] ?_;intro a9 u9;replace sz:=u9.sz.trans sz;refine rS ?_;refine lv ?_;refine lE a9 [] 2 ?_;intro b1 z1 e2;have hn:sX l=none:=by rw [hd,nH,if_pos hbad];rfl
    exact wp_ret (hQ _ _ _ (z1.df.trans (u9.df.trans df)) (by simp [results,Tryz.results126,go_sem,evT e2];try rfl) ⟨0,none,_,rfl,⟨rfl,cq⟩,⟨_,c,2,l,h3,cq,br⟩,by simp [cC,hn],hf⟩)
   ·refine wp_cond_false (e42.trans (by simp only [hbad,decide_false])) (wp_skip (rS ?_))
    have hA:=u8_and127 _ hby.1 hby.2;have hw1:=wrU (z:=b % 128) I I;have hw2:=wrI (a:=7*(i:Int)) I I;have hor:=or7 i hi acc (b % 128) hacc I I;generalize hacc2:acc+128 ^ i*(b % 128).toNat=acc2 at hor;iterate 9 refine lv ?_
    refine lE a8 [0,4,5] 3 ?_;clear e3;intro a9 u9 e3;refine u9.c3 sz df e0 e4 e5 fun sz df e0 e4 e5=>?_
    refine rS ?_;iterate 2 refine lv ?_
    refine lE a9 [0,3,4] 54 ?_;intro a10 u10 e54;refine u10.c3 sz df e0 e3 e4 fun sz df e0 e3 e4=>?_
    by_cases hlt2:b<128
    ·refine wp_cond_true (e54.trans (by simp [hlt2])) (rS ?_)
     have hwi:=wrI (a:=(i:Int)+1) I I;have h01:0<=(i:Int)+1∧(i:Int)+1<=l:=by omega
     iterate 8 refine lv ?_
     have hsl:=h1.sl.dropB (k:=i+1) h1.len.1 I;generalize (if c=i+1 then some (↑(qt bk ok):Addr) else some ↑(qt bk (ok+(i+1))))=A1 at *;have hld:(l.drop (i+1)).length=l - (i+1):=am;have hh:=h1.set0 (A':=A1) (c':=c - (i+1)) (by have:=h1.len;omega) hsl h1.byt.drop;rw [hld] at hh;have f0:=h1.box.frozen 0;iterate 2 refine lv ?_
     refine ls (w1:=V.setCell (qp g) (.slice A1 (l.length - (i+1)) (c - (i+1)))) ?_ (hrun:=by simp [execOp,go_sem, *]);refine lE a10 [] 3 ?_;clear e3;intro b1 z1 e3;replace sz:=z1.sz.trans sz;refine rS ?_;iterate 2 refine lv ?_
     refine lE b1 [] 2 ?_;intro b2 z2 e2
     have hn:sX l=some (acc2,l.drop (i+1)):=by
      rw [hd,nH,if_neg hbad,if_pos hlt2,<- hacc2,show b % 128=b by omega];rfl
     exact wp_ret (hQ _ _ _ (z2.df.trans (z1.df.trans df)) (by simp [results,Tryz.results126,go_sem,evT e2];try rfl) ⟨acc2,some (l.drop (i+1)),_,rfl,⟨rfl,(kO h1.byt hn).2⟩,⟨A1,_,0,_,hh,rfl,rfl⟩,by simp [cC,hn],(au (fun k=>k=g) V).setCell (p:=qp g) (.inl rfl) _⟩)
    ·refine wp_cond_false (e54.trans (by simp [hlt2])) (wp_skip (rW ?_))
     iterate 3 refine lv ?_
     refine lE a10 [0,3] 4 ?_;clear e4;intro b1 z1 e4;refine ⟨⟨i+1,acc2,(((((u5.trans (u6.mono rfl)).trans (u7.mono rfl)).trans (u8.mono rfl)).trans (u9.mono rfl)).trans (u10.mono rfl)).trans (z1.mono rfl),e4.trans O,z1.get 3 e3,?_,hlt,?_,?_,rfl⟩,?_⟩
     ·omega
     ·rw [aHd,<- hacc2]
      have h1:128 ^ i*(b % 128).toNat<=128 ^ i*127:=Nat.mul_le_mul_left _ I;omega
     ·rw [hd,nH,if_neg hbad,if_neg hlt2,Option.map_map]
      congr 1
      funext x;simp only [Function.comp];rw [<- hacc2,aHd,Nat.mul_add,show b.toNat % 128=(b % 128).toNat by omega,show 128 ^ i*(128*x.1)=128*128 ^ i*x.1 by rw [<- Nat.mul_assoc,Nat.mul_comm (128 ^ i) 128],Nat.add_assoc]
     ·rw [e4,m4]
      simp only [intOf];omega
  ·refine wp_cond_true (e19.trans bh) (rS ?_)
   refine lv ?_;refine lc Tryz.func128 (sP h1 3) ?_;rintro e w1 ⟨rfl,h3,hf⟩;refine ⟨_,rfl,?_⟩;refine lN a6 [0] ?_;intro a7 u7;replace sz:=u7.sz.trans sz;refine rS ?_;refine lv ?_;refine lE a7 [] 2 ?_;intro a8 u8 e2;have hn:sX l=none:=by rw [hd,List.drop_of_length_le I];rfl
   exact wp_ret (hQ _ _ _ (u8.df.trans (u7.df.trans df)) (by simp [results,Tryz.results126,go_sem,evT e2];try rfl) ⟨0,none,_,rfl,⟨rfl,cq⟩,⟨A,c,3,l,h3,cq,br⟩,by simp [cC,hn],hf⟩)
end
theorem a1b {n:Nat}(hn:n<18446744073709551616):bits .xor .i64 ((n:Int) / 2) (IntKind.i64.wrap (-(IntKind.i64.wrap (bits .and .u64 (n:Int) 1))))=zag n:=by
 have h1:(n:Int) / 2=((n / 2:Nat):Int):=I;rw [h1,Lib.u64_and1 _ I I];unfold zag
 have hc:∀ x y:Int,bits .xor .i64 x y=bits .xor .i64 y x:=fun x y=>by
  show IntKind.i64.wrap ((BitVec.ofInt 64 x ^^^ BitVec.ofInt 64 y).toNat:Int)=IntKind.i64.wrap ((BitVec.ofInt 64 y ^^^ BitVec.ofInt 64 x).toNat:Int);rw [BitVec.xor_comm]
 have h2:n % 2=0∨n % 2=1:=I;rcases h2 with h2 | h2
 ·rw [if_neg I,show (n:Int) % 2=0 by omega]
  show IntKind.i64.wrap ((BitVec.ofInt 64 ((n / 2:Nat):Int) ^^^ BitVec.ofInt 64 0).toNat:Int)=_;rw [BitVec.ofInt_natCast,show BitVec.ofInt 64 0=0#64 from rfl,BitVec.xor_zero,BitVec.toNat_ofNat,Nat.mod_eq_of_lt I,wrI I I]
 ·rw [if_pos h2,show (n:Int) % 2=1 by omega,show IntKind.i64.wrap (-(IntKind.i64.wrap 1))=-1 by decide,hc,Lib.i64_not _ I]
theorem cC.int {s s' n}(h:cC sX 0 s n s'):cC eD 0 s (zag n) s':=by
 cases s with
 | none=>obtain ⟨rfl,rfl⟩:=h;exact ⟨rfl,rfl⟩
 | some l =>
  simp only [cC,aj,eD] at h ⊢;cases hd:sX l with
  | none=>rw [hd] at h;obtain ⟨rfl,rfl⟩:=h;exact ⟨rfl,rfl⟩
  | some y=>rw [hd] at h;obtain ⟨rfl,rfl⟩:=h;exact ⟨rfl,rfl⟩
section
variable {g:Nat}{P:Nat->Prop}{w w':World}{s:Option (List Int)}
noncomputable def R77:=RG Tryz.f77
noncomputable abbrev c77:Code:=.seq (R77 0) (.seq (R77 1) (.seq (R77 2) .ret))
theorem b77:Tryz.f77.body=some c77:=U
theorem mV (h:RS g P s w):qg 77 #[qp g] w (yO g P eD 0 (fun n v _=>v=.int .i64 n∧I64 n) s w):=by
 refine bW Tryz.func77 b77 rfl O (fun a Q sz df ea hQ=>?_);have e0:=ea 0 (qp g) rfl;refine rS ?_;refine lv ?_;refine lN a [0] ?_;intro a1 u1;refine u1.c1 sz df e0 fun sz df e0=>?_
 refine rS ?_;refine lv ?_;refine lc Tryz.func126 (aGn h) ?_;rintro e w1 ⟨n,s',v,rfl,⟨rfl,hn⟩,hs,hd,hf⟩;refine ⟨_,rfl,?_⟩;refine lv ?_;refine lE a1 [] 3 ?_;intro a2 u2 e3;replace sz:=u2.sz.trans sz;have hz:=a1b hn;refine rS ?_;iterate 9 refine lv ?_
 refine lE a2 [] 2 ?_;intro a3 u3 e2;exact wp_ret (hQ _ _ _ (u3.df.trans (u2.df.trans df)) (by simp [results,Tryz.results77,go_sem,evT e2];try rfl) ⟨zag n,s',_,rfl,⟨rfl,aRp n hn⟩,hs,hd.int,hf⟩)
noncomputable def R79:=RG Tryz.f79
noncomputable abbrev c79:Code:=.seq (R79 0) (.seq (.seq (R79 1) (.cond (.tmp 8) (.seq (R79 2) .ret) .skip)) (.seq (.seq (R79 3) (.cond (.tmp 14) (.seq (R79 4) (.seq (R79 5) .ret)) .skip)) (.seq (R79 6) (.seq (.seq (R79 7) (.cond (.tmp 24) (.seq (R79 8) (.seq (R79 9) .ret)) .skip)) (.seq (R79 10) (.seq (R79 11) .ret))))))
theorem b79:Tryz.f79.body=some c79:=U
theorem aVk (h:RS g P s w):qg 79 #[qp g] w (yO g P aGf false (fun b v _=>v=.bool b) s w):=by
 refine bW Tryz.func79 b79 rfl O (fun a Q sz df ea hQ=>?_);have e0:=ea 0 (qp g) rfl;obtain ⟨A,c,e,l,h1,h2⟩:=h;have c0:=h1.box.cell' (u:=.slice A l c) 0 rfl;have c1:=h1.box.cell' (u:=↑e) 1 rfl;refine rS ?_;refine lv ?_;refine lN a [0] ?_;intro a1 u1;refine u1.c1 sz df e0 fun sz df e0=>?_
 refine wp_seq (rS ?_);iterate 5 refine lv ?_
 refine lE a1 [0] 8 ?_;intro a2 u2 e8;refine u2.c1 sz df e0 fun sz df e0=>?_
 have hres:∀ (x:Bool) (b2:Act) (V:World),b2.defers=[]->qq b2 2 (.bool x)->yO g P aGf false (fun b v _=>v=.bool b) s w (.returned (.bool x)) V->Q .ret b2 V:=fun x b2 V hd e2 hR=>hQ _ _ _ hd (by simp [results,Tryz.results79,go_sem,evT e2];try rfl) hR
 cases s with
 | none =>
  obtain ⟨h2,h3⟩:=h2;refine wp_cond_true (e8.trans jg) (rS ?_);refine lv ?_;refine lE a2 [] 2 ?_;intro a3 u3 e2;exact wp_ret (hres _ _ _ (u3.df.trans df) e2 ⟨false,none,_,rfl,rfl,⟨A,c,e,l,h1,h2,h3⟩,⟨rfl,rfl⟩,au _ _⟩)
 | some l0 =>
  obtain ⟨rfl,rfl⟩:=h2;refine wp_cond_false (e8.trans O) (wp_skip (wp_seq (rS ?_)));iterate 6 refine lv ?_
  refine lE a2 [0] 14 ?_;intro a3 u3 e14;refine u3.c1 sz df e0 fun sz df e0=>?_
  have hfail:∀ (e':Int) (b2:Act) (V:World),b2.defers=[]->qq b2 2 false->aGf l=none->e' ≠ 0∧I64 e'->RSt g P A c e' l V->Fr (fun k=>k=g) w V->Q .ret b2 V:=fun e' b2 V hd e2 hn he' h3 hf=>hres _ _ _ hd e2 ⟨false,none,_,rfl,rfl,⟨A,c,e',l,h3,he'⟩,by simp [cC,hn],hf⟩
  cases l with
  | nil =>
   refine wp_cond_true (e14.trans O) (rS ?_);refine lv ?_;refine lc Tryz.func128 (sP h1 3) ?_;rintro e w1 ⟨rfl,h3,hf⟩;refine ⟨_,rfl,?_⟩;refine lN a3 [0] ?_;intro a4 u4;replace sz:=u4.sz.trans sz;refine rS ?_;refine lv ?_;refine lE a4 [] 2 ?_;intro a5 u5 e2;exact wp_ret (hfail 3 _ _ (u5.df.trans (u4.df.trans df)) e2 rfl ⟨cq,br⟩ h3 hf)
  | cons b l =>
   refine wp_cond_false (e14.trans bh) (wp_skip (rS ?_));obtain ⟨bk,ok,rfl,-,hc⟩:=h1.sl.u8 (j:=0) O;simp only [List.getD_cons_zero,Nat.add_zero] at hc;iterate 7 refine lv ?_
   refine lE a3 [0] 3 ?_;intro a4 u4 e3;refine u4.c1 sz df e0 fun sz df e0=>?_
   refine wp_seq (rS ?_);iterate 2 refine lv ?_
   refine lE a4 [0,3] 24 ?_;intro a5 u5 e24;refine u5.c2 sz df e0 e3 fun sz df e0 e3=>?_
   by_cases hb1:1<b
   ·refine wp_cond_true (e24.trans (by simp [hb1])) (rS ?_)
    refine lv ?_;refine lc Tryz.func128 (sP h1 2) ?_;rintro e w1 ⟨rfl,h3,hf⟩;refine ⟨_,rfl,?_⟩;refine lN a5 [0] ?_;intro a6 u6;replace sz:=u6.sz.trans sz;refine rS ?_;refine lv ?_;refine lE a6 [] 2 ?_;intro a7 u7 e2;exact wp_ret (hfail 2 _ _ (u7.df.trans (u6.df.trans df)) e2 (by rw [aGf,if_pos hb1]) ⟨cq,br⟩ h3 hf)
   ·refine wp_cond_false (e24.trans (by simp [hb1])) (wp_skip (rS ?_))
    have h01:(1:Int)<=(l:Int)+1:=I;have hsl:=h1.sl.dropB (k:=1) h1.len.1 O;simp only [List.drop_succ_cons,List.drop_zero] at hsl;have hln:(b :: l).length - 1=l.length:=by simp
    have f0:=h1.box.frozen 0;iterate 6 refine lv ?_
    generalize (if c=1 then some (↑(qt bk ok):Addr) else some ↑(qt bk (ok+1)))=A1 at *;have hh:=h1.set0 (A':=A1) (c':=c - 1) (l':=l) (by have:=h1.len;rw [ai] at this;omega) hsl h1.byt.tail;iterate 2 refine lv ?_
    refine ls (w1:=w.setCell (qp g) (.slice A1 l (c - 1))) ?_ (hrun:=by simp [execOp,go_sem, *]);refine lE a5 [] 3 ?_;clear e3;intro a6 u6 e3;replace sz:=u6.sz.trans sz;refine rS ?_;iterate 3 refine lv ?_
    refine lE a6 [] 2 ?_;intro a7 u7 e2;exact wp_ret (hres _ _ _ (u7.df.trans (u6.df.trans df)) e2 ⟨b == 1,some l,_,rfl,rfl,⟨A1,_,0,l,hh,rfl,rfl⟩,by simp [cC,aGf,hb1],(au (fun k=>k=g) w).setCell (p:=qp g) (.inl rfl) _⟩)
end
def fG:Dec Nat:=fun l=>(sX l).bind fun x=>if x.2.length<x.1 then none else some x
theorem aL6 (l):qQ l=(fG l).map fun x=>(x.2.take x.1,x.2.drop x.1):=by
 unfold qQ fG;cases sX l with
 | none=>rfl
 | some x=>simp only [aj];split <;> rfl
theorem aIg (l):kC l=(fG l).bind fun x=>iR eD x.1 x.2:=by
 unfold kC fG;cases sX l with
 | none=>rfl
 | some x=>simp only [aj];split <;> rfl
section
variable {g:Nat}{P:Nat->Prop}{A:Option Addr}{c:Nat}{e:Int}{l:List Int}{w w':World}{s:Option (List Int)}
noncomputable def aRd:=RG Tryz.f125
noncomputable abbrev a2y:Code:=.seq (aRd 0) (.seq (aRd 1) (.seq (.seq (aRd 2) (.cond (.tmp 20) (aRd 3) .skip)) (.seq (.seq (aRd 4) (.cond (.tmp 27) (.seq (aRd 5) .ret) .skip)) (.seq (aRd 6) .ret))))
theorem a3n:Tryz.f125.body=some a2y:=U
theorem rY (h:RS g P s w):qg 125 #[qp g] w (yO g P fG 0 (fun n v _=>v=.int .i64 (n:Int)) s w):=by
 refine bW Tryz.func125 a3n rfl O (fun a Q sz df ea hQ=>?_);have e0:=ea 0 (qp g) rfl;refine rS ?_;refine lv ?_;refine lN a [0] ?_;intro a1 u1;refine u1.c1 sz df e0 fun sz df e0=>?_
 refine rS ?_;refine lv ?_;refine lc Tryz.func126 (aGn h) ?_;rintro e w1 ⟨n,s',v,rfl,⟨rfl,hn⟩,hs,hd,hf⟩;refine ⟨_,rfl,?_⟩;refine lv ?_;refine lE a1 [0] 3 ?_;intro a2 u2 e3;refine u2.c1 sz df e0 fun sz df e0=>?_
 obtain ⟨A,c,e,l,h1,h2⟩:=hs;have c0:=h1.box.cell' (u:=.slice A l c) 0 rfl;have c1:=h1.box.cell' (u:=↑e) 1 rfl;have hres:∀ (x:Nat) (s2:Option (List Int)) (b2:Act) (V:World),b2.defers=[]->qq b2 2 (x:Int)->cC fG 0 s x s2->RS g P s2 V->Fr (fun k=>k=g) w V->Q .ret b2 V:=fun x s2 b2 V hd e2 hds hR hF=>hQ _ _ _ hd (by simp [results,Tryz.results125,go_sem,evT e2];try rfl) ⟨x,s2,_,rfl,rfl,hR,hds,hF⟩
 cases s' with
 | none =>
  obtain ⟨h2,h3⟩:=h2;have t0:(e == 0)=false:=a4c h2;have t1:(e != 0)=true:=bne_iff_ne.2 h2
  have hds:cC fG 0 s 0 none:=by
   cases s with
   | none=>exact ⟨rfl,rfl⟩
   | some l0 =>
    simp only [cC,aj,fG] at hd ⊢;cases hu:sX l0 with
    | none=>simp
    | some y=>rw [hu] at hd;cases hd.2
  refine wp_seq (rS ?_);iterate 6 refine lv ?_
  iterate 8 refine ln ?_
  refine lv ?_;refine lE a2 [0] 20 ?_;intro a3 u3 e20;refine u3.c1 sz df e0 fun sz df e0=>?_
  refine wp_cond_false e20 (wp_skip (wp_seq (rS ?_)));iterate 5 refine lv ?_
  refine lE a3 [0] 27 ?_;intro a4 u4 e27;refine u4.c1 sz df e0 fun sz df e0=>?_
  refine wp_cond_true e27 (rS ?_);refine lv ?_;refine lE a4 [] 2 ?_;intro a5 u5 e2;exact wp_ret (hres 0 none _ _ (u5.df.trans df) e2 hds ⟨A,c,e,l,h1,h2,h3⟩ hf)
 | some l1 =>
  obtain ⟨rfl,rfl⟩:=h2;have hlen:=h1.len;have hw:=wrU (z:=l.length) I I;refine wp_seq (rS ?_);iterate 6 refine lv ?_
  iterate 8 refine ly ?_
  refine lv ?_;refine lE a2 [0,3] 20 ?_;intro a3 u3 e20;refine u3.c2 sz df e0 e3 fun sz df e0 e3=>?_
  obtain ⟨l0,rfl,hu⟩:∃ l0,s=some l0∧sX l0=some (n,l):=by
   cases s with
   | none=>cases hd.2
   | some l0 =>
    simp only [cC,aj] at hd;cases hu:sX l0 with
    | none=>rw [hu] at hd;cases hd.2
    | some y =>
     rw [hu] at hd;obtain ⟨rfl,h5⟩:=hd;cases h5;exact ⟨l0,rfl,hu⟩
  by_cases hlt:l<n
  ·refine wp_cond_true (e20.trans bh) (rW ?_)
   refine lv ?_;refine lc Tryz.func128 (sP h1 3) ?_;rintro e w2 ⟨rfl,h3,hf2⟩;refine ⟨_,rfl,?_⟩;refine lN a3 [0] ?_;intro a4 u4;refine u4.c1 sz df e0 fun sz df e0=>?_
   have d1:=h3.box.cell' (u:=.int .i64 3) 1 rfl;refine wp_seq (rS ?_);iterate 5 refine lv ?_
   refine lE a4 [0] 27 ?_;intro a5 u5 e27;refine u5.c1 sz df e0 fun sz df e0=>?_
   refine wp_cond_true e27 (rS ?_);refine lv ?_;refine lE a5 [] 2 ?_;intro a6 u6 e2;exact wp_ret (hres 0 none _ _ (u6.df.trans df) e2 (by simp [cC,fG,hu,hlt]) ⟨A,c,3,l,h3,cq,br⟩ (hf.trans hf2))
  ·refine wp_cond_false (e20.trans bh) (wp_skip ?_)
   refine wp_seq (rS ?_);iterate 5 refine lv ?_
   refine lE a3 [0,3] 27 ?_;intro a4 u4 e27;refine u4.c2 sz df e0 e3 fun sz df e0 e3=>?_
   refine wp_cond_false e27 (wp_skip (rS ?_));have hwn:=wrI (a:=(n:Int)) I I;iterate 3 refine lv ?_
   refine lE a4 [] 2 ?_;intro a5 u5 e2;exact wp_ret (hres n (some l) _ _ (u5.df.trans df) e2 (by simp [cC,fG,hu,hlt]) ⟨A,c,0,l,h1,rfl,rfl⟩ hf)
theorem Sl.takeB {k:Nat}(h:Sl w P 1 A l (l.map (Value.int .u8)))(hk:k<=l):Sl w P 1 A k ((l.take k).map (Value.int .u8)):=by
 refine ⟨bh,fun h0=>?_⟩;obtain ⟨b,off,e,hb,hc⟩:=h.2 I;refine ⟨b,off,e,hb,fun j u hu=>hc j u ?_⟩;rw [List.map_take,List.getElem?_take] at hu;split at hu
 ·exact hu
 ·cases hu
noncomputable def aWb:=RG Tryz.f124
noncomputable abbrev a2z:Code:=.seq (aWb 0) (.seq (aWb 1) (.seq (aWb 2) (.seq (aWb 3) .ret)))
theorem a3o:Tryz.f124.body=some a2z:=U
theorem aOa (h:RSt g P A c e l w)(n:Nat)(hn:n<=l):Calls Tryz.prog 124 #[qp g,↑(n:Int)] w fun en w'=>en=.returned (.slice A n c)∧(∃ A' c',RSt g P A' c' e (l.drop n) w')∧Fr (fun k=>k=g) w w':=by
 have hlen:=h.len;refine bW Tryz.func124 a3o rfl O (fun a Q sz df ea hQ=>?_);have e0:=ea 0 (qp g) rfl;have e1:=ea 1 (↑(n:Int)) rfl;have c0:=h.box.cell' (u:=.slice A l c) 0 rfl;have f0:=h.box.frozen 0;have hn1:(n:Int)<=(c:Int):=by omega
 have hn2:(n:Int)<=(l:Int):=I;refine rS ?_;refine lv ?_;refine lN a [0,1] ?_;intro a1 u1;refine u1.c2 sz df e0 e1 fun sz df e0 e1=>?_
 refine rS ?_;iterate 5 refine lv ?_
 refine lv ?_ (hrun:=by simp [execOp,go_sem, *];exact ⟨rfl,rfl⟩);refine lv ?_;refine lE a1 [0,1] 5 ?_;intro a2 u2 e5;refine u2.c2 sz df e0 e1 fun sz df e0 e1=>?_
 have hend:∀ (b:Act) (A':Option Addr) (c':Nat),Ag [5] a2 b->(l.drop n)<=c'∧c'<=9223372036854775807->Sl w P 1 A' (l.drop n) ((l.drop n).map (Value.int .u8))->qw (.seq (aWb 3) .ret) Q b (w.setCell (qp g) (.slice A' (l.length - n) c')):=by
  intro b A' c' u hc hs;refine u.b1 sz e5 fun sz e5=>?_
  refine rS ?_;iterate 2 refine lv ?_
  refine lE b [] 4 ?_;intro b1 u1 e4;have hh:=h.set0 (A':=A') (c':=c') (l':=l.drop n) ⟨hc.1,hc.2,jr⟩ hs h.byt.drop;rw [am] at hh;exact wp_ret (hQ _ _ _ (u1.df.trans (u.df.trans df)) (by simp [results,Tryz.results124,go_sem,evT e4];try rfl) ⟨rfl,⟨A',c',hh⟩,(au (fun k=>k=g) w).setCell (p:=qp g) (.inl rfl) _⟩)
 refine rS ?_;by_cases hl:0<l.length
 ·obtain ⟨bk,ok,rfl,-,-⟩:=h.sl.2 hl
  have hsl:=h.sl.dropB (k:=n) h.len.1 hn;have h01:0<=(n:Int)∧(n:Int)<=l:=by omega
  iterate 7 refine lv ?_
  generalize (if c=n then some (↑(qt bk ok):Addr) else some ↑(qt bk (ok+n)))=A1 at *;iterate 2 refine lv ?_
  refine ls (w1:=w.setCell (qp g) (.slice A1 (l.length - n) (c - n))) ?_ (hrun:=by simp [execOp,go_sem, *]);refine lN a2 [5] (fun b u=>hend b A1 (c - n) u jr hsl)
 ·have hl0:l=[]:=List.eq_nil_of_length_eq_zero I
  subst hl0;have hn0:n=0:=by simpa using hn
  subst hn0;have hs0:∀ A',Sl w P 1 A' (([]:List Int).drop 0) ((([]:List Int).drop 0).map (Value.int .u8)):=fun A'=>⟨rfl,fun h=>absurd h O⟩
  cases A with
  | none =>
   iterate 9 refine lv ?_
   refine ls ?_ (hrun:=by simp [execOp,go_sem, *];rfl);exact lN a2 [5] (fun b u=>hend b _ _ u bh (hs0 _))
  | some ad =>
   iterate 9 refine lv ?_
   refine ls ?_ (hrun:=by simp [execOp,go_sem, *];rfl);exact lN a2 [5] (fun b u=>hend b _ _ u bh (hs0 _))
end
