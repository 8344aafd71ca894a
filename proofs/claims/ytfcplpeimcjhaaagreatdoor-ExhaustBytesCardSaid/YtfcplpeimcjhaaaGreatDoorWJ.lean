/- Wire. Conditions: none. -/
import Derived.Test.YtfcplpeimcjhaaaGreatDoorVA
import Derived.Test.YtfcplpeimcjhaaaGreatDoorWH
import Derived.Lib.VarintBits
import Derived.Lib.Zigzag
import Derived.Laws.BitsAllLaws
import Derived.Lib.AppendStr
namespace Go.Proofs.YtfcplpeimcjhaaaGreatDoor
open Go.RowKit
theorem callsU {f n:Nat}{fn:Func}{c:Code}{args:Array Value}{w:World}{R:Ending→World→Prop}(hf:Tryz.prog.funcs[f]?=some fn)(hb:fn.body=some c)(hn:fn.ntmps=n)(hs:args.size≤n)(hr:∀ ts w',(results fn ts).run Tryz.prog w'=.ok (.tuple #[]) w')
    (h:∀ (a:Act)(Q:Exit→Act→World→Prop),a.tmps.size=n→a.defers=[]→(∀ i v,args[i]?=some v→Ev a (.tmp i)=v)→(∀ (a':Act)(w':World),a'.defers=[]→R (.returned (.tuple #[])) w'→Q .normal a' w')→Code.wp Tryz.prog c Q a w):Calls Tryz.prog f args w R:=by
  refine calls_of_wp hf hb (h _ _ ?_ rfl ?_ (fun a' w' hd hR=>bodyPost_end (hr _ _) hd hR))
  · simp [hn];omega
  · intro i v hv
    obtain ⟨hi,rfl⟩:=Array.getElem?_eq_some_iff.1 hv
    simp [Ev,Act.eval,Array.getElem?_append,hi]
structure WS (g B:Nat)(v:Value)(l:List Int)(w:World):Prop where
  row:By B v l w
  box:Blk w g 36 #[v]
  ne:some g ≠ v.ownBlock
  lo:B≤w.heap.size
structure WG (S:World)(g:Nat)(u v:Value)(w:World):Prop where
  fr:Fr (fun k=>k=g∨some k=u.ownBlock) S w
  own:v.ownBlock=u.ownBlock∨∃ b,v.ownBlock=some b∧S.heap.size≤b
def RetW (g B:Nat)(u:Value)(l enc:List Int)(w:World)(e:Ending)(w':World):Prop:=e=.returned (.tuple #[])∧∃ v,WS g B v (l ++ enc) w'∧WG w g u v w'
section
variable {S w w1:World}{g B:Nat}{u v v':Value}{l:List Int}
theorem WG.rf (S:World)(g:Nat)(u:Value):WG S g u u S:=⟨Fr.refl _ _,.inl rfl⟩
theorem WG.ext (h:WG S g u v w)(hx:Ext w w1):WG S g u v w1:=⟨h.fr.trans (Fr.of_ext hx),h.own⟩
theorem WG.pre (hx:Ext S w)(h:WG w g u v w1):WG S g u v w1:=⟨(Fr.of_ext hx).trans h.fr,h.own.elim .inl (fun ⟨b,e,hb⟩=>.inr ⟨b,e,Nat.le_trans hx.size hb⟩)⟩
theorem WG.trans (h:WG S g u v w)(k:WG w g v v' w1):WG S g u v' w1:=by
  have hs:=h.fr.size
  refine ⟨h.fr.trans_new (k.fr.mono fun b hb=>?_),?_⟩
  · rcases hb with hb | hb
    · exact .inl (.inl hb)
    · rcases h.own with e | ⟨c,e,hc⟩
      · exact .inl (.inr (hb.trans e))
      · rw [e] at hb;cases hb;exact .inr hc
  · rcases k.own with e | ⟨c,e,hc⟩
    · rw [e];exact h.own
    · exact .inr ⟨c,e,by omega⟩
theorem WS.ext (h:WS g B v l w)(hx:Ext w w1):WS g B v l w1:=⟨h.row.ext_ hx,h.box.ext hx,h.ne,Nat.le_trans h.lo hx.size⟩
theorem WG.old (h:WG S g u v w)(hx:Ext w1 S)(hg:w1.heap.size≤g)(hu:∀ b,u.ownBlock=some b→w1.heap.size≤b):Ext w1 w:=Fr.new_ext ((Fr.of_ext hx).trans h.fr) (fun b hb=>hb.elim (fun e=>e ▸ hg) (fun e=>hu b e.symm))
end
section
variable {ops:Array Oper}{Q:Exit→Act→World→Prop}{a:Act}{w:World}{o1 o2 o3 o4:Oper}{d1 d2 d3 p g B:Nat}{u:Value}{l l2:List Int}{s x:Operand}
theorem lwst {v':Value}{w1:World}(a0:Act)(L:List Nat)(hS:WS g B u l w)(h1:By B v' (l ++ l2) w1)(hf:Fr (fun k=>some k=u.ownBlock) w w1)(hv:v'.ownBlock=u.ownBlock∨∃ b,v'.ownBlock=some b∧w.heap.size≤b)(h:∀ a' v' w',Ag L a0 a'→WS g B v' (l ++ l2) w'→WG w g u v' w'→Q .normal a' w')
    (hg2:o2.guard=none:=by exact rfl)(hd2:o2.dst=some d2:=by exact rfl)(ho2:o2.op=.nilCheck (.tmp p):=by exact rfl)(hg3:o3.guard=none:=by exact rfl)(hd3:o3.dst=some d3:=by exact rfl)(ho3:o3.op=.fieldAddr 36 (.tmp d2) 0:=by exact rfl)(hg4:o4.guard=none:=by exact rfl)(hd4:o4.dst=none:=by exact rfl)(ho4:o4.op=.store 23 (.tmp d3) (.tmp d1):=by exact rfl)
    (hp:∀ v,Ev (Pt a d1 v) (.tmp p)=.pointer (some ⟨g,0,none⟩):=by (intro v;simp [*]))(hz1:d1<a.tmps.size:=by simp [*])(hz2:d2<a.tmps.size:=by simp [*])(hz3:d3<a.tmps.size:=by simp [*])(h12:d1 ≠ d2:=by decide)(h13:d1 ≠ d3:=by decide)
    (hA:∀ v1 v2 v3,Ag L a0 (Pt (Pt (Pt a d1 v1) d2 v2) d3 v3):=by (intro v1 v2 v3;(repeat refine .put ?_ rfl);exact .rf)):WL ops Q [o2,o3,o4] (Pt a d1 v') w1:=by
  obtain ⟨A',c',rfl,-,-,-⟩:=Sl.of_own h1
  have hb1:Blk w1 g 36 #[u]:=hS.box.fr hf hS.ne
  have hne:some g ≠ (Value.slice A' (l ++ l2).length c').ownBlock:=by
    rcases hv with e | ⟨b,e,hb⟩
    · rw [e];exact hS.ne
    · rw [e];intro h;cases h;exact absurd hS.box.lt (by omega)
  refine l_v (v:=.pointer (some ⟨g,0,none⟩)) (w1:=w1) hg2 hd2 (by simp [execOp,ho2,go_sem,hp]) ?_
  refine l_v (v:=.pointer (some ⟨g,0,none⟩)) (w1:=w1) hg3 hd3 (by simp [execOp,ho3,go_sem,hz2]) ?_
  refine l_s (w1:=w1.setCell ⟨g,0,none⟩ (.slice A' (l ++ l2).length c')) hg4 hd4 ?_ (l_nil (h _ _ _ (hA _ _ _) ⟨?_,?_,hne,?_⟩ ⟨?_,?_⟩))
  · simp [execOp,ho4,go_sem,hb1.cell,hb1.frozen,hz1,hz3,h12.symm,h13.symm]
  · exact own_fr h1 ((Fr.refl (fun k=>k=g) w1).setCell (p:=⟨g,0,none⟩) (.inl rfl) (.slice A' (l ++ l2).length c')) (fun b hb e=>hne (by rw [hb,e]))
  · have:=hb1.set_ 0 (.slice A' (l ++ l2).length c')
    simpa using this
  · have h2:=hS.lo
    have h3:=hf.size
    simp [World.setCell]
    omega
  · exact (hf.mono fun b hb=>.inr hb).setCell (p:=⟨g,0,none⟩) (.inl (.inl rfl)) _
  · exact hv
theorem lws {T:Nat→Prop}{A:Option Addr}{n c:Nat}(a0:Act)(L:List Nat)(hS:WS g B u l w)(hsl:Sl w T 1 A n (l2.map (Value.int .u8)))(hn:n=l2.length)(hlen:l.length+l2.length≤1000000000000)(h:∀ a' v' w',Ag L a0 a'→WS g B v' (l ++ l2) w'→WG w g u v' w'→Q .normal a' w')
    (hg1:o1.guard=none:=by exact rfl)(hd1:o1.dst=some d1:=by exact rfl)(ho1:o1.op=.call { callee:=.builtin .append,args:=#[s,x],argTypes:=#[23,23] }:=by exact rfl)(hg2:o2.guard=none:=by exact rfl)(hd2:o2.dst=some d2:=by exact rfl)(ho2:o2.op=.nilCheck (.tmp p):=by exact rfl)(hg3:o3.guard=none:=by exact rfl)(hd3:o3.dst=some d3:=by exact rfl)(ho3:o3.op=.fieldAddr 36 (.tmp d2) 0:=by exact rfl)(hg4:o4.guard=none:=by exact rfl)(hd4:o4.dst=none:=by exact rfl)(ho4:o4.op=.store 23 (.tmp d3) (.tmp d1):=by exact rfl)
    (hs:Ev a s=u:=by simp [*])(hx:Ev a x=.slice A n c:=by (simp [*];try rfl))(hp:∀ v,Ev (Pt a d1 v) (.tmp p)=.pointer (some ⟨g,0,none⟩):=by (intro v;simp [*]))(hz1:d1<a.tmps.size:=by simp [*])(hz2:d2<a.tmps.size:=by simp [*])(hz3:d3<a.tmps.size:=by simp [*])(h12:d1 ≠ d2:=by decide)(h13:d1 ≠ d3:=by decide)
    (hA:∀ v1 v2 v3,Ag L a0 (Pt (Pt (Pt a d1 v1) d2 v2) d3 v3):=by (intro v1 v2 v3;(repeat refine .put ?_ rfl);exact .rf)):WL ops Q [o1,o2,o3,o4] a w:=by
  subst hn
  refine la und74 info5 hS.row hsl (by omega) (by omega) hS.lo u8_one (fun v' w1 h1 hf hv=>lwst a0 L hS (by unfold By;rw [List.length_append,List.map_append];exact h1) hf (hv.elim .inl (fun e=>.inr ⟨_,e,Nat.le_refl _⟩)) h hg2 hd2 ho2 hg3 hd3 ho3 hg4 hd4 ho4 hp hz1 hz2 hz3 h12 h13 hA) hg1 hd1 ho1 rfl (by omega) hs hx
theorem strCells_sB (s:ByteArray):Lib.strCells s=(sB s).map (Value.int .u8):=by
  unfold Lib.strCells sB
  rw [List.map_map]
  rfl
theorem run_str {ty:TypeId}(s:ByteArray)(hrow:By B u l w)(hB:B≤w.heap.size)(hlen:l.length+s.size≤1000000000000):∃ v' w',(Builtin.append_ #[23,9] ty #[u,.string s]).run Tryz.prog w=.ok v' w'∧By B v' (l ++ sB s) w'∧Fr (fun k=>some k=u.ownBlock) w w'∧(v'.ownBlock=u.ownBlock∨∃ b,v'.ownBlock=some b∧w.heap.size≤b):=by
  obtain ⟨i0,hi,hz0,hz1,hz2⟩:=info_parts info5
  have hu9:Tryz.prog.underlying 9=some .string:=by kernel_rfl
  have hm:l.length+s.size≤maxLen:=by unfold maxLen;omega
  have key:∀ base,w.ownsRow base 5 1 u l.length (l.map (Value.int .u8))→base≤w.heap.size→∃ v' w',(Builtin.append_ #[23,9] ty #[u,.string s]).run Tryz.prog w=.ok v' w'∧w'.ownsRow base 5 1 v' (l.length+s.size) (l.map (Value.int .u8) ++ Lib.strCells s)∧w.grownBy w' u.ownBlock∧(v'=.slice none 0 0 ↔ u=.slice none 0 0∧s.size=0):=fun base h hb=>Lib.run_append_own_string w base 23 9 ty 5 i0 und74 hu9 hi hz0 hz1 hz2 u l.length _ h s hm (by omega) hb
  obtain ⟨v',w',hr,h1,h2,h3⟩:=key B hrow hB
  refine ⟨v',w',hr,?_,Fr.of_grown h2,?_⟩
  · unfold By
    rw [List.length_append,sB_len,List.map_append,← strCells_sB]
    exact h1
  rcases hrow.2 with ⟨rfl,h0⟩ | ⟨g,cap,cur,rfl,hg,hh,hn,hm',hs,ht⟩
  · obtain ⟨v2,w2,hr2,h4,-,-⟩:=key w.heap.size ⟨hrow.1,.inl ⟨rfl,h0⟩⟩ (Nat.le_refl _)
    rw [hr] at hr2
    cases hr2
    cases hb:v'.ownBlock with
    | none=>exact .inl rfl
    | some b=>exact .inr ⟨b,rfl,own_lo h4 hb⟩
  · by_cases hroom:l.length+s.size≤cap
    · have hr2:=Lib.run_append_room_string (P:=Tryz.prog) w 23 9 ty 5 i0 und74 hu9 hi hz1 g l.length cap cur hh s hroom (by omega)
      rw [hr] at hr2
      cases hr2
      exact .inl rfl
    · have hr2:=Lib.run_append_grow_string (P:=Tryz.prog) w 23 9 ty 5 i0 (.int .u8 0) und74 hu9 hi hz0 ⟨g,0,none⟩ l.length cap (l.map (Value.int .u8)) (by rw [hz1];simp) (hrow.cells (g:=g) rfl) s (by omega) (by unfold maxLen at hm;omega) (by rw [hz2];exact growslice_fits (by omega) (by omega))
      rw [hr] at hr2
      cases hr2
      exact .inr ⟨_,rfl,Nat.le_refl _⟩
end
set_option maxRecDepth 20000 in
theorem or128 (m:Nat):bits .or .u8 (IntKind.u8.wrap (m:Int)) 128=((m % 128+128:Nat):Int):=by
  have h:∀ k:Fin 256,bits .or .u8 ((k:Nat):Int) 128=(((k:Nat) % 128+128:Nat):Int):=by decide
  have hw:IntKind.u8.wrap (m:Int)=((m % 256:Nat):Int):=by simp [IntKind.wrap,IntKind.bits,IntKind.signed]
  rw [hw,h ⟨m % 256,Nat.mod_lt _ (by decide)⟩]
  simp only
  omega
section
variable {g B:Nat}{u:Value}{l:List Int}{w:World}
noncomputable def R120:=RG Tryz.f23
noncomputable abbrev c120:Code:=.seq (.block 0 (.loop (.seq (.seq (R120 0) (.cond (.tmp 5) .skip (.exit 0))) (.block 1 (.seq (R120 1) (R120 2)))))) (R120 3)
theorem b120:Tryz.f23.body=some c120:=by kernel_rfl
set_option maxHeartbeats 2000000 in
theorem uint120 (n:Nat)(hn:n<18446744073709551616)(hS:WS g B u l w)(hl:l.length≤100000000000):Calls Tryz.prog 23 #[.pointer (some ⟨g,0,none⟩),.int .u64 (n:Int)] w (RetW g B u l (encU n) w):=by
  refine callsU Tryz.func23 b120 rfl (by simp) (fun _ _=>by simp [results,Tryz.results23,go_sem]) (fun a Q sz df ea hQ=>?_)
  have e0:=ea 0 (.pointer (some ⟨g,0,none⟩)) rfl
  have e1:=ea 1 (.int .u64 (n:Int)) rfl
  have h10:=encU10 hn
  refine wp_seq (wp_block (wp_loop (fun a' V=>∃ (m:Nat) (v:Value) (l':List Int),Ag [0] a a'∧Ev a' (.tmp 1)=.int .u64 (m:Int)∧WS g B v (l ++ l') V∧WG w g u v V∧encU n=l' ++ encU m∧m≤n) (fun a' _=>(intOf (Ev a' (.tmp 1))).toNat) ⟨n,u,[],.rf,e1,by simpa using hS,WG.rf _ _ _,rfl,Nat.le_refl _⟩ ?_))
  clear e1 hS
  rintro a3 V ⟨m,v,l',u3,e1,hS,hG,hE,hm⟩
  replace sz:=u3.sz.trans sz
  replace df:=u3.df.trans df
  replace e0:=u3.get 0 e0
  have m1:=e1
  have hll:=congrArg List.length hE
  rw [List.length_append] at hll
  have c0:=hS.box.cell' (u:=v) 0 rfl
  refine wp_seq (wp_seq (rW ?_))
  iterate 2 refine lv ?_
  refine lE a3 [0,1] 5 ?_
  intro a4 u4 e5
  replace sz:=u4.sz.trans sz
  replace df:=u4.df.trans df
  replace e0:=u4.get 0 e0
  replace e1:=u4.get 1 e1
  by_cases hlt:m<128
  · refine wp_cond_false (e5.trans (by simp;omega)) (wp_exit (rW ?_))
    have hw:=wr8 (z:=m) (by omega) (by omega)
    iterate 8 refine lv ?_
    refine lws (c:=1) a4 [] (hS.ext ((Ext.refl V).alloc' (.cells #[.int .u8 (m:Int)] 5))) (Sl.new V [.int .u8 (m:Int)] 5 1 1 rfl) (l2:=[(m:Int)]) rfl (by simp;omega) ?_
    intro a5 v5 w5 u5 hS5 hG5
    rw [encU_small hlt] at hE
    refine hQ a5 w5 (u5.df.trans df) ⟨rfl,v5,by rw [hE,← List.append_assoc];exact hS5,hG.trans (WG.pre ((Ext.refl V).alloc' _) hG5)⟩
  · refine wp_cond_true (e5.trans (by simp;omega)) (wp_skip (wp_block (wp_seq (rW ?_))))
    have hw:=or128 m
    iterate 9 refine lv ?_
    refine lws (c:=1) a4 [0,1] (hS.ext ((Ext.refl V).alloc' (.cells #[.int .u8 ((m % 128+128:Nat):Int)] 5))) (Sl.new V [.int .u8 ((m % 128+128:Nat):Int)] 5 1 1 rfl) (l2:=[((m % 128+128:Nat):Int)]) rfl (by simp;omega) ?_
    intro a5 v5 w5 u5 hS5 hG5
    replace sz:=u5.sz.trans sz
    replace df:=u5.df.trans df
    replace e1:=u5.get 1 e1
    refine rW ?_
    iterate 3 refine lv ?_
    refine lE a5 [0] 1 ?_
    intro a6 u6 f1
    refine ⟨⟨m / 128,v5,l' ++ [((m % 128+128:Nat):Int)],(u3.trans (u4.mono rfl)).trans ((u5.mono rfl).trans u6),f1.trans (by simp),by rw [← List.append_assoc];exact hS5,hG.trans (WG.pre ((Ext.refl V).alloc' _) hG5),by rw [hE,encU_big hlt];simp,by omega⟩,?_⟩
    rw [f1,m1]
    simp only [intOf]
    omega
theorem zigX {n:Int}(hn:I64 n):bits .xor .u64 (IntKind.u64.wrap (IntKind.u64.wrap n*2)) (IntKind.u64.wrap (n / 9223372036854775808))=(zig n:Int):=by
  unfold I64 at hn
  unfold zig
  by_cases h:n<0
  · have e1:IntKind.u64.wrap (IntKind.u64.wrap n*2)=((2*n+18446744073709551616).toNat:Int):=by simp [IntKind.wrap,IntKind.bits,IntKind.signed];omega
    have e2:IntKind.u64.wrap (n / 9223372036854775808)=((2 ^ 64 - 1:Nat):Int):=by
      rw [show n / 9223372036854775808=-1 by omega]
      decide
    rw [e1,e2,u64_xor_nat _ _ (by omega) (by decide),Nat.xor_comm,Lib.xor_ones64 _ (by omega),if_pos h]
    omega
  · have e1:IntKind.u64.wrap (IntKind.u64.wrap n*2)=((2*n).toNat:Int):=by simp [IntKind.wrap,IntKind.bits,IntKind.signed];omega
    have e2:IntKind.u64.wrap (n / 9223372036854775808)=((0:Nat):Int):=by
      rw [show n / 9223372036854775808=0 by omega]
      decide
    rw [e1,e2,u64_xor_nat _ _ (by omega) (by decide),Nat.xor_zero,if_neg h]
noncomputable def R70:=RG Tryz.f22
noncomputable abbrev c70:Code:=R70 0
theorem b70:Tryz.f22.body=some c70:=by kernel_rfl
theorem int70 (n:Int)(hn:I64 n)(hS:WS g B u l w)(hl:l.length≤100000000000):Calls Tryz.prog 22 #[.pointer (some ⟨g,0,none⟩),.int .i64 n] w (RetW g B u l (encI n) w):=by
  refine callsU Tryz.func22 b70 rfl (by simp) (fun _ _=>by simp [results,Tryz.results22,go_sem]) (fun a Q sz df ea hQ=>?_)
  have e0:=ea 0 (.pointer (some ⟨g,0,none⟩)) rfl
  have e1:=ea 1 (.int .i64 n) rfl
  refine rW ?_
  have hz:=zigX hn
  iterate 8 refine lv ?_
  refine lc Tryz.func23 (uint120 (zig n) (zig_U n hn) hS hl) ?_
  rintro e w1 ⟨rfl,v1,hS1,hG1⟩
  refine ⟨_,rfl,?_⟩
  refine lN a [] ?_
  intro a1 u1
  exact hQ a1 w1 (u1.df.trans df) ⟨rfl,v1,hS1,hG1⟩
noncomputable def R68:=RG Tryz.f9
noncomputable abbrev c68:Code:=.seq (R68 0) (R68 1)
theorem b68:Tryz.f9.body=some c68:=by kernel_rfl
theorem raw68 {P:Nat→Prop}{A:Option Addr}{n c:Nat}(b:List Int)(hn:n=b.length)(hb:b.length≤100000000000)(hs:Sl w P 1 A n (b.map (Value.int .u8)))(hP:∀ k,P k→k ≠ g∧some k ≠ u.ownBlock)(hS:WS g B u l w)(hl:l.length≤100000000000):Calls Tryz.prog 9 #[.pointer (some ⟨g,0,none⟩),.slice A n c] w (RetW g B u l (encR b) w):=by
  subst hn
  refine callsU Tryz.func9 b68 rfl (by simp) (fun _ _=>by simp [results,Tryz.results9,go_sem]) (fun a Q sz df ea hQ=>?_)
  have e0:=ea 0 (.pointer (some ⟨g,0,none⟩)) rfl
  have e1:=ea 1 (.slice A b.length c) rfl
  have h10:=encU10 (n:=b.length) (by omega)
  refine wp_seq (rW ?_)
  have hw:=wrU (z:=b.length) (by omega) (by omega)
  iterate 4 refine lv ?_
  refine lc Tryz.func23 (uint120 b.length (by omega) hS hl) ?_
  rintro e w1 ⟨rfl,v1,hS1,hG1⟩
  refine ⟨_,rfl,?_⟩
  refine lN a [0,1] ?_
  intro a1 u1
  replace sz:=u1.sz.trans sz
  replace df:=u1.df.trans df
  replace e0:=u1.get 0 e0
  replace e1:=u1.get 1 e1
  have c0:=hS1.box.cell' (u:=v1) 0 rfl
  refine rW ?_
  iterate 6 refine lv ?_
  refine lws (c:=c) a1 [] hS1 (hs.keep (Q:=fun _=>True) (Keeps.of_fr hG1.fr fun k hk h=>h.elim (hP k hk).1 (hP k hk).2) (fun _ _=>trivial)) rfl (by rw [List.length_append];omega) ?_
  intro a2 v2 w2 u2 hS2 hG2
  exact hQ a2 w2 (u2.df.trans df) ⟨rfl,v2,by rw [encR,← List.append_assoc];exact hS2,hG1.trans hG2⟩
end
theorem l_ap {ops:Array Oper}{Q:Exit→Act→World→Prop}{a:Act}{w w':World}{rest:List Oper}{o:Oper}{d:Nat}{s x:Operand}{ts:Array TypeId}{v0 v1 v':Value}(hs:Ev a s=v0)(hx:Ev a x=v1)(hr:(Builtin.append_ ts o.type #[v0,v1]).run Tryz.prog w=.ok v' w')(h:WL ops Q rest (Pt a d v') w')
    (hg:o.guard=none:=by exact rfl)(hd:o.dst=some d:=by exact rfl)(ho:o.op=.call { callee:=.builtin .append,args:=#[s,x],argTypes:=ts }:=by exact rfl):WL ops Q (o :: rest) a w:=by
  refine l_v hg hd ?_ h
  unfold execOp
  simp only [ho,resolve,invoke,builtin,Sem.run_bind,Sem.run_pure,Result.andThen_ok,List.map_toArray,List.map_cons,List.map_nil,hs,hx,hr]
section
variable {g B:Nat}{u:Value}{l:List Int}{w:World}
noncomputable def R165:=RG Tryz.f21
noncomputable abbrev c165:Code:=.seq (R165 0) (R165 1)
theorem b165:Tryz.f21.body=some c165:=by kernel_rfl
theorem text165 (s:ByteArray)(hs:s.size≤100000000000)(hS:WS g B u l w)(hl:l.length≤100000000000):Calls Tryz.prog 21 #[.pointer (some ⟨g,0,none⟩),.string s] w (RetW g B u l (encS s) w):=by
  refine callsU Tryz.func21 b165 rfl (by simp) (fun _ _=>by simp [results,Tryz.results21,go_sem]) (fun a Q sz df ea hQ=>?_)
  have e0:=ea 0 (.pointer (some ⟨g,0,none⟩)) rfl
  have e1:=ea 1 (.string s) rfl
  have h10:=encU10 (n:=s.size) (by omega)
  refine wp_seq (rW ?_)
  have hw:=wrU (z:=s.size) (by omega) (by omega)
  iterate 4 refine lv ?_
  refine lc Tryz.func23 (uint120 s.size (by omega) hS hl) ?_
  rintro e w1 ⟨rfl,v1,hS1,hG1⟩
  refine ⟨_,rfl,?_⟩
  refine lN a [0,1] ?_
  intro a1 u1
  replace sz:=u1.sz.trans sz
  replace df:=u1.df.trans df
  replace e0:=u1.get 0 e0
  replace e1:=u1.get 1 e1
  have c0:=hS1.box.cell' (u:=v1) 0 rfl
  obtain ⟨v2,w2,hr,h1,hf,hv⟩:=run_str (ty:=23) s hS1.row hS1.lo (by rw [List.length_append];omega)
  refine rW ?_
  iterate 6 refine lv ?_
  refine l_ap (s:=.tmp 13) (x:=.tmp 14) (by simp [*]) (by simp [*]) hr ?_
  refine lwst a1 [] hS1 h1 hf hv ?_
  intro a2 v3 w3 u2 hS2 hG2
  exact hQ a2 w3 (u2.df.trans df) ⟨rfl,v3,by rw [encS,encR,sB_len,← List.append_assoc];exact hS2,hG1.trans hG2⟩
noncomputable def R73:=RG Tryz.f11
noncomputable abbrev c73:Code:=.seq (R73 0) (.seq (R73 1) .ret)
theorem b73:Tryz.f11.body=some c73:=by kernel_rfl
theorem done73 (hS:WS g B u l w)(hl:l.length≤100000000000):Calls Tryz.prog 11 #[.pointer (some ⟨g,0,none⟩)] w (RetBy l w):=by
  refine callsV Tryz.func11 b73 rfl (by simp) (fun a Q sz df ea hQ=>?_)
  have e0:=ea 0 (.pointer (some ⟨g,0,none⟩)) rfl
  refine wp_seq (rW ?_)
  refine lv ?_
  refine lN a [0] ?_
  intro a1 u1
  replace sz:=u1.sz.trans sz
  replace df:=u1.df.trans df
  replace e0:=u1.get 0 e0
  have c0:=hS.box.cell' (u:=u) 0 rfl
  obtain ⟨A,c,rfl,-,-,hsl⟩:=Sl.of_own hS.row
  refine wp_seq (rW ?_)
  refine lv ?_
  have hx:Ext w (w.alloc (.cells #[] 5)):=(Ext.refl w).alloc' _
  have hO:Out w (.slice (some ⟨w.heap.size,0,none⟩) 0 0) [] (w.alloc (.cells #[] 5)):=⟨World.ownsRow_lit w #[] 0 (Nat.le_refl _) (by unfold maxLen;omega) rfl,⟨Fr.of_ext hx,.inr ⟨_,rfl,Nat.le_refl _⟩⟩,Nat.le_refl _⟩
  have hsl':=(hsl (fun _=>True) (fun _ _=>trivial)).ext hx
  have c1:=cell_ext hx c0
  generalize w.alloc (.cells #[] 5)=W at *
  iterate 4 refine lv ?_
  refine lap (c:=c) hO hsl' rfl (by simp;omega) ?_
  intro v2 w2 hO2
  refine lv ?_
  refine lE a1 [] 2 ?_
  intro a2 u2 e2
  exact wp_ret (hQ _ _ _ (u2.df.trans df) (by simp [results,Tryz.results11,go_sem,evT e2];try rfl) ⟨v2,rfl,hO2⟩)
end
set_option maxHeartbeats 1000000 in
theorem loopW {α:Type}{f:α→List Int}{l:List α}(d:α){S w:World}{g B:Nat}{u v:Value}{pre:List Int}{s t bl bb:Nat}{rT rB rC:Code}{a:Act}{Q:Exit→Act→World→Prop}(K:List Nat)
    (h0:Ev a (.tmp s)=.int .i64 0)(hS:WS g B v pre w)(hG:WG S g u v w)(hlen:pre.length+(l.flatMap f).length≤100000000000)(hll:l.length≤1000000000000)
    (hT:∀ R b V v' (j:Nat),Ag K a b→Ev b (.tmp s)=.int .i64 (j:Int)→WG S g u v' V→(∀ b',Ag (s :: K) b b'→Ev b' (.tmp t)=.bool (decide (j<l.length))→R .normal b' V)→Code.wp Tryz.prog rT R b V)
    (hB:∀ R b V v' (j:Nat) pre',j<l.length→Ag K a b→Ev b (.tmp s)=.int .i64 (j:Int)→WS g B v' pre' V→WG S g u v' V→pre'.length+(f (l.getD j d)).length≤100000000000→(∀ b' v2 V',Ag (s :: K) b b'→WS g B v2 (pre' ++ f (l.getD j d)) V'→WG S g u v2 V'→R .normal b' V')→Code.wp Tryz.prog rB R b V)
    (hC:∀ R b V (j:Nat),Ag K a b→Ev b (.tmp s)=.int .i64 (j:Int)→IntKind.i64.wrap ((j:Int)+1)=(j:Int)+1→(∀ b',Ag K b b'→Ev b' (.tmp s)=.int .i64 ((j:Int)+1)→R .normal b' V)→Code.wp Tryz.prog rC R b V)
    (hQ:∀ b v' V,Ag K a b→WS g B v' (pre ++ l.flatMap f) V→WG S g u v' V→Q .normal b V):Code.wp Tryz.prog (.block bl (.loop (.seq rT (.seq (.cond (.tmp t) .skip (.exit bl)) (.seq (.block bb rB) rC))))) Q a w:=by
  refine wp_block (wp_loop (fun a' V=>∃ (j:Nat) (v:Value),Ag K a a'∧Ev a' (.tmp s)=.int .i64 (j:Int)∧WS g B v (pre ++ (l.take j).flatMap f) V∧WG S g u v V∧j≤l.length) (fun a' _=>(l.length - intOf (Ev a' (.tmp s))).toNat) ⟨0,_,.rf,h0,by simpa using hS,hG,Nat.zero_le _⟩ ?_)
  rintro b V ⟨j,v',u0,es,hS',hG',hj⟩
  refine wp_seq (hT _ b V v' j u0 es hG' (fun b1 u1 et=>?_))
  have es1:=u1.hd es
  have k1:=u0.trans u1.tl
  by_cases hlt:j<l.length
  · have htk:=flat_take f d hlt
    have htl:=flat_le f l (j+1)
    rw [htk,List.length_append] at htl
    refine wp_seq (wp_cond_true (et.trans (by simp [hlt])) (wp_skip (wp_seq (wp_block (hB _ b1 V v' j _ hlt k1 es1 hS' hG' (by rw [List.length_append];omega) (fun b2 v2 V2 u2 hS2 hG2=>?_))))))
    have k2:=k1.trans u2.tl
    refine hC _ b2 V2 j k2 (u2.hd es1) (wrI (by omega) (by omega)) (fun b3 u3 es3=>?_)
    refine ⟨⟨j+1,v2,k2.trans u3,es3.trans (by simp),by rw [htk,← List.append_assoc];exact hS2,hG2,hlt⟩,?_⟩
    rw [es3,es]
    simp only [intOf]
    omega
  · refine wp_seq (wp_cond_false (et.trans (by simp [hlt])) (wp_exit ?_))
    rw [List.take_of_length_le (by omega)] at hS'
    simpa [Exit.then,Exit.inBlock] using hQ b1 v' V k1 hS' hG'
section
variable {g B:Nat}{u:Value}{l:List Int}{w:World}{P:Nat→Prop}{A:Option Addr}{c:Nat}
end
end Go.Proofs.YtfcplpeimcjhaaaGreatDoor
