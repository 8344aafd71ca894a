/- Wire. Conditions: none. -/
import Derived.Test.YtfcplpeimcjhaaaGreatDoorVA
import Derived.Test.YtfcplpeimcjhaaaGreatDoorWC
namespace Go.Proofs.YtfcplpeimcjhaaaGreatDoor
open Go.RowKit
theorem info5:(Tryz.prog.info? 5).map (fun i=>(i.zero,i.size,i.bytes))=some (some (.int .u8 0),1,1):=by kernel_rfl
theorem und74:Tryz.prog.underlying 23=some (.slice 5):=by kernel_rfl
def By (B:Nat)(v:Value)(l:List Int)(w:World):Prop:=w.ownsRow B 5 1 v l.length (l.map (Value.int .u8))
structure Grow (S:World)(u v:Value)(w:World):Prop where
  fr:Fr (fun k=>some k=u.ownBlock) S w
  own:v.ownBlock=u.ownBlock∨∃ b,v.ownBlock=some b∧S.heap.size≤b
structure Ou (S:World)(u:Value)(B:Nat)(v:Value)(l:List Int)(w:World):Prop where
  row:By B v l w
  gr:Grow S u v w
  lo:B≤S.heap.size
abbrev nl:Value:=.slice none 0 0
abbrev Out (w0:World)(v:Value)(l:List Int)(w:World):Prop:=Ou w0 nl w0.heap.size v l w
def RetBy (l:List Int)(w0:World)(e:Ending)(w:World):Prop:=∃ v,e=.returned v∧Out w0 v l w
theorem own_lo {w:World}{base:Nat}{e:TypeId}{size n:Nat}{v:Value}{xs:List Value}(h:w.ownsRow base e size v n xs){b:Nat}(hb:v.ownBlock=some b):base≤b:=by
  rcases h.2 with ⟨rfl,_⟩ | ⟨g,cap,cur,rfl,hg,_⟩
  · cases hb
  · cases hb;exact hg
theorem own_base {w:World}{base base':Nat}{e:TypeId}{size n:Nat}{v:Value}{xs:List Value}(h:w.ownsRow base e size v n xs)(hb:base'≤base):w.ownsRow base' e size v n xs:=by
  refine ⟨h.1,?_⟩
  rcases h.2 with h | ⟨g,cap,cur,h1,h2,h3⟩
  · exact .inl h
  · exact .inr ⟨g,cap,cur,h1,Nat.le_trans hb h2,h3⟩
section
variable {S w w0 w1:World}{u v v':Value}{l l2:List Int}{B:Nat}
theorem Grow.rf (S:World)(u:Value):Grow S u u S:=⟨Fr.refl _ _,.inl rfl⟩
theorem Grow.ext (h:Grow S u v w)(hx:Ext w w1):Grow S u v w1:=⟨h.fr.trans (Fr.of_ext hx),h.own⟩
theorem Grow.trans (h:Grow S u v w)(k:Grow w v v' w1):Grow S u v' w1:=by
  have hs:=h.fr.size
  refine ⟨h.fr.trans_new (k.fr.mono fun b hb=>?_),?_⟩
  · rcases h.own with e | ⟨c,e,hc⟩
    · exact .inl (hb.trans e)
    · rw [e] at hb;cases hb;exact .inr hc
  · rcases k.own with e | ⟨c,e,hc⟩
    · rw [e];exact h.own
    · exact .inr ⟨c,e,by omega⟩
theorem Grow.old (h:Grow S u v w)(hx:Ext w0 S)(hu:∀ b,u.ownBlock=some b→w0.heap.size≤b):Ext w0 w:=Fr.new_ext ((Fr.of_ext hx).trans h.fr) (fun b hb=>hu b hb.symm)
theorem Grow.ex (h:Grow S nl v w):Ext S w:=h.old (Ext.refl S) (fun _ h=>nomatch h)
theorem Grow.blk {g:Nat}{t:TypeId}{cs:Array Value}(h:Grow S u v w)(hb:Blk S g t cs)(hg:some g ≠ u.ownBlock):Blk w g t cs:=hb.fr h.fr hg
theorem Ou.ext (h:Ou S u B v l w)(hx:Ext w w1):Ou S u B v l w1:=⟨h.row.ext_ hx,h.gr.ext hx,h.lo⟩
theorem Ou.ex (h:Ou S nl B v l w):Ext S w:=h.gr.ex
theorem Ou.lift (h:Out w v l w1)(hx:Ext w0 w):Out w0 v l w1:=by
  have hs:=hx.size
  refine ⟨own_base h.row hs,⟨(Fr.of_ext hx).trans h.gr.fr,?_⟩,Nat.le_refl _⟩
  rcases h.gr.own with e | ⟨c,e,hc⟩
  · exact .inl e
  · exact .inr ⟨c,e,by omega⟩
theorem Ou.none (w:World):Out w (.slice none 0 0) [] w:=⟨own_none _ _ _ _,Grow.rf _ _,Nat.le_refl _⟩
theorem Ou.sl (h:Ou S u B v l w):∃ A c,v=.slice A l.length c∧l.length≤c∧c≤9223372036854775807∧Sl w (fun b=>B≤b∧some b=v.ownBlock) 1 A l.length (l.map (Value.int .u8)):=by
  obtain ⟨A,c,e,h1,h2,h3⟩:=Sl.of_own h.row
  unfold maxLen at h2
  exact ⟨A,c,e,h1,by omega,h3 _ (fun b hb=>⟨own_lo h.row hb,hb.symm⟩)⟩
theorem u8_one {l:List Int}:∀ u ∈ l.map (Value.int .u8),u.oneCell'=true:=by
  intro u hu
  simp only [List.mem_map] at hu
  obtain ⟨x,-,rfl⟩:=hu
  rfl
end
section
variable {ops:Array Oper}{Q:Exit→Act→World→Prop}{a:Act}{S w w0:World}{rest:List Oper}{o o1 o2 o3:Oper}{d d1 d2 t B:Nat}{u v:Value}{l l2:List Int}{s x:Operand}
theorem lap {T:Nat→Prop}{A:Option Addr}{n c:Nat}(hO:Ou S u B v l w)(hsl:Sl w T 1 A n (l2.map (Value.int .u8)))(hn:n=l2.length)(hlen:l.length+l2.length≤1000000000000)(h:∀ v' w',Ou S u B v' (l ++ l2) w'→WL ops Q rest (Pt a d v') w')
    (hg:o.guard=none:=by exact rfl)(hd:o.dst=some d:=by exact rfl)(ho:o.op=.call { callee:=.builtin .append,args:=#[s,x],argTypes:=#[23,23] }:=by exact rfl)(hs:Ev a s=v:=by simp [*])(hx:Ev a x=.slice A n c:=by (simp [*];try rfl)):WL ops Q (o :: rest) a w:=by
  subst hn
  refine la und74 info5 hO.row hsl (by omega) (by omega) (Nat.le_trans hO.lo hO.gr.fr.size) u8_one (fun v' w' h1 hf hv=>h v' w' ⟨by unfold By;rw [List.length_append,List.map_append];exact h1,hO.gr.trans ⟨hf,hv.elim .inl (fun e=>.inr ⟨_,e,Nat.le_refl _⟩)⟩,hO.lo⟩) hg hd ho rfl (by omega) hs hx
theorem lcaE (a0:Act)(L:List Nat){f:FuncId}{xs:Array Operand}{ats:Array TypeId}{fn:Func}{vs:Array Value}(hf:Tryz.prog.funcs[f]?=some fn)(hc:Calls Tryz.prog f vs w (RetBy l2 w))(hO:Ou S u B v l w)(hlen:l.length+l2.length≤1000000000000)(h:∀ a' v' w',Ag L a0 a'→Ev a' (.tmp t)=v'→Ou S u B v' (l ++ l2) w'→Q .normal a' w')
    (hg1:o1.guard=none:=by exact rfl)(hd1:o1.dst=some d1:=by exact rfl)(hop1:o1.op=Op.call { callee:=Callee.value (Operand.func f),args:=xs,argTypes:=ats }:=by exact rfl)(hg2:o2.guard=none:=by exact rfl)(hd2:o2.dst=some d2:=by exact rfl)(ho2:o2.op=.call { callee:=.builtin .append,args:=#[s,.tmp d1],argTypes:=#[23,23] }:=by exact rfl)(hg3:o3.guard=none:=by exact rfl)(hd3:o3.dst=some t:=by exact rfl)(ho3:o3.op=.assign (.tmp d2):=by exact rfl)
    (hn:(fn.name == "runtime.NumGoroutine")=false:=by rfl) (hb:fn.body.isNone=false:=by rfl) (hv:xs.map (Ev a)=vs:=by simp [*]) (hz1:d1<a.tmps.size:=by simp [*]) (hz2:d2<a.tmps.size:=by simp [*]) (hz3:t<a.tmps.size:=by simp [*]) (hs:∀ v2,Ev (Pt a d1 v2) s=v:=by (intro v2;simp [*])) (hA:∀ v2 v',Ag L a0 (Pt (Pt (Pt a d1 v2) d2 v') t v'):=by (intro v2 v';(repeat refine .put ?_ rfl);exact .rf)):WL ops Q [o1,o2,o3] a w:=by
  refine lc hf hc ?_ hg1 hd1 hop1 hn hb hv
  rintro e w1 ⟨v2,rfl,hO2⟩
  refine ⟨_,rfl,?_⟩
  obtain ⟨A,c,rfl,-,-,hsl⟩:=hO2.sl
  refine lap (c:=c) (hO.ext hO2.ex) hsl rfl hlen (fun v' w' h'=>?_) hg2 hd2 ho2 (hs _) (by simp [hz1])
  exact l_v hg3 hd3 (by simp [execOp,ho3,go_sem,hz2]) (l_nil (h _ v' w' (hA _ _) (by simp [hz3]) h'))
theorem lcE (a0:Act)(L:List Nat){f:FuncId}{xs:Array Operand}{ats:Array TypeId}{fn:Func}{vs:Array Value}(hf:Tryz.prog.funcs[f]?=some fn)(hc:Calls Tryz.prog f vs w (RetBy l2 w))(hx:Ext w0 w)(h:∀ a' v' w',Ag L a0 a'→Ev a' (.tmp t)=v'→Out w0 v' l2 w'→Q .normal a' w')
    (hg1:o1.guard=none:=by exact rfl)(hd1:o1.dst=some d1:=by exact rfl)(hop1:o1.op=Op.call { callee:=Callee.value (Operand.func f),args:=xs,argTypes:=ats }:=by exact rfl)(hg3:o3.guard=none:=by exact rfl)(hd3:o3.dst=some t:=by exact rfl)(ho3:o3.op=.assign (.tmp d1):=by exact rfl)
    (hn:(fn.name == "runtime.NumGoroutine")=false:=by rfl) (hb:fn.body.isNone=false:=by rfl) (hv:xs.map (Ev a)=vs:=by simp [*]) (hz1:d1<a.tmps.size:=by simp [*]) (hz3:t<a.tmps.size:=by simp [*]) (hA:∀ v',Ag L a0 (Pt (Pt a d1 v') t v'):=by (intro v';(repeat refine .put ?_ rfl);exact .rf)):WL ops Q [o1,o3] a w:=by
  refine lc hf hc ?_ hg1 hd1 hop1 hn hb hv
  rintro e w1 ⟨v2,rfl,hO2⟩
  refine ⟨_,rfl,?_⟩
  exact l_v hg3 hd3 (by simp [execOp,ho3,go_sem,hz1]) (l_nil (h _ v2 w1 (hA _) (by simp [hz3]) (hO2.lift hx)))
theorem lbE (a0:Act)(L:List Nat){z:Int}(hO:Ou S u B v l w)(hlen:l.length+1≤1000000000000)(h:∀ a' v' w',Ag L a0 a'→Ev a' (.tmp t)=v'→Ou S u B v' (l ++ [z]) w'→Q .normal a' w')
    (hg1:o1.guard=none:=by exact rfl)(hd1:o1.dst=some d1:=by exact rfl)(hr1:(execOp (Ev a) o1).run Tryz.prog w=.ok (.value (.slice (some ⟨w.heap.size,0,none⟩) 1 1)) (w.alloc (.cells #[.int .u8 z] 5)):=by (simp [execOp,go_sem, *];try rfl))(hg2:o2.guard=none:=by exact rfl)(hd2:o2.dst=some d2:=by exact rfl)(ho2:o2.op=.call { callee:=.builtin .append,args:=#[s,.tmp d1],argTypes:=#[23,23] }:=by exact rfl)(hg3:o3.guard=none:=by exact rfl)(hd3:o3.dst=some t:=by exact rfl)(ho3:o3.op=.assign (.tmp d2):=by exact rfl)
    (hz1:d1<a.tmps.size:=by simp [*])(hz2:d2<a.tmps.size:=by simp [*])(hz3:t<a.tmps.size:=by simp [*])(hs:∀ v2,Ev (Pt a d1 v2) s=v:=by (intro v2;simp [*]))(hA:∀ v2 v',Ag L a0 (Pt (Pt (Pt a d1 v2) d2 v') t v'):=by (intro v2 v';(repeat refine .put ?_ rfl);exact .rf)):WL ops Q [o1,o2,o3] a w:=by
  refine l_v hg1 hd1 hr1 ?_
  refine lap (c:=1) (l2:=[z]) (hO.ext ((Ext.refl w).alloc' _)) (Sl.new w [.int .u8 z] 5 1 1 rfl) rfl hlen (fun v' w' h'=>?_) hg2 hd2 ho2 (hs _) (by simp [hz1])
  exact l_v hg3 hd3 (by simp [execOp,ho3,go_sem,hz2]) (l_nil (h _ v' w' (hA _ _) (by simp [hz3]) h'))
end
theorem encU_le:∀ (k n:Nat),n<room k→(encU n).length≤k+1
  | 0,n,h=>by simp only [room] at h;rw [encU_small (by omega)];simp
  | k+1,n,h=>by
    by_cases h1:n<128
    · rw [encU_small h1];simp
    · rw [encU_big h1,List.length_cons]
      have:=encU_le k (n / 128) (by simp only [room] at h;omega)
      omega
theorem encU10 {n:Nat}(h:n<18446744073709551616):(encU n).length≤10:=encU_le 9 n (by rw [room9];exact h)
theorem encI10 {n:Int}(h:I64 n):(encI n).length≤10:=encU10 (zig_U n h)
theorem wr8 {z:Int}(h:0≤z)(h':z<256):IntKind.u8.wrap z=z:=by simp [IntKind.wrap,IntKind.bits,IntKind.signed];omega
theorem wrU {z:Int}(h:0≤z)(h':z<18446744073709551616):IntKind.u64.wrap z=z:=by simp [IntKind.wrap,IntKind.bits,IntKind.signed];omega
noncomputable def R129:=RG Tryz.f26
noncomputable abbrev c129:Code:=.seq (R129 0) (.seq (R129 1) (.seq (.block 0 (.loop (.seq (.seq (R129 2) (.cond (.tmp 5) .skip (.exit 0))) (.block 1 (.seq (R129 3) (R129 4)))))) (.seq (R129 5) .ret)))
theorem b129:Tryz.f26.body=some c129:=by kernel_rfl
set_option maxHeartbeats 1000000 in
theorem uint129 (n:Nat)(hn:n<18446744073709551616)(w:World):Calls Tryz.prog 26 #[.int .u64 (n:Int)] w (RetBy (encU n) w):=by
  refine callsV Tryz.func26 b129 rfl (by simp) (fun a Q sz df ea hQ=>?_)
  have e0:=ea 0 (.int .u64 (n:Int)) rfl
  refine wp_seq (rW ?_)
  refine lv ?_
  refine lN a [0] ?_
  intro a1 u1
  replace sz:=u1.sz.trans sz
  replace df:=u1.df.trans df
  replace e0:=u1.get 0 e0
  refine wp_seq (rW ?_)
  refine lv ?_
  refine lE a1 [0] 3 ?_
  intro a2 u2 e3
  replace sz:=u2.sz.trans sz
  replace df:=u2.df.trans df
  replace e0:=u2.get 0 e0
  have h10:=encU10 hn
  refine wp_seq (wp_block (wp_loop (fun a' V=>∃ (m:Nat) (v:Value) (l:List Int),Ag [] a2 a'∧Ev a' (.tmp 0)=.int .u64 (m:Int)∧Ev a' (.tmp 3)=v∧Out w v l V∧encU n=l ++ encU m∧m≤n) (fun a' _=>(intOf (Ev a' (.tmp 0))).toNat) ⟨n,_,[],.rf,e0,e3,Ou.none w,rfl,Nat.le_refl _⟩ ?_))
  clear e0 e3
  rintro a3 V ⟨m,v,l,u3,e0,e3,hO,hE,hm⟩
  replace sz:=u3.sz.trans sz
  replace df:=u3.df.trans df
  have m0:=e0
  have hl:=congrArg List.length hE
  rw [List.length_append] at hl
  refine wp_seq (wp_seq (rW ?_))
  iterate 2 refine lv ?_
  refine lE a3 [0,3] 5 ?_
  intro a4 u4 e5
  replace sz:=u4.sz.trans sz
  replace df:=u4.df.trans df
  replace e0:=u4.get 0 e0
  replace e3:=u4.get 3 e3
  by_cases hlt:m<128
  · refine wp_cond_false (e5.trans (by simp;omega)) (wp_exit (wp_seq (rW ?_)))
    have hw:=wr8 (z:=m) (by omega) (by omega)
    iterate 3 refine lv ?_
    refine lbE a4 [] hO (z:=m) (by omega) ?_
    intro a5 v5 w5 u5 e2 hO5
    rw [encU_small hlt] at hE
    exact wp_ret (hQ _ _ _ (u5.df.trans df) (by simp [results,Tryz.results26,go_sem,evT e2];try rfl) ⟨v5,rfl,by rw [hE];exact hO5⟩)
  · refine wp_cond_true (e5.trans (by simp;omega)) (wp_skip (wp_block (wp_seq (rW ?_))))
    have hw1:=wrU (z:=128+(m:Int) % 128) (by omega) (by omega)
    have hw2:=wr8 (z:=128+(m:Int) % 128) (by omega) (by omega)
    iterate 5 refine lv ?_
    refine lbE a4 [0] hO (z:=128+(m:Int) % 128) (by omega) ?_
    intro a5 v5 w5 u5 e3 hO5
    replace sz:=u5.sz.trans sz
    replace df:=u5.df.trans df
    replace e0:=u5.get 0 e0
    have hw3:=wrU (z:=(m:Int) / 128) (by omega) (by omega)
    refine rW ?_
    iterate 3 refine lv ?_
    refine lE a5 [3] 0 ?_
    intro a6 u6 f0
    have hd:(128:Int)+(m:Int) % 128=((m % 128+128:Nat):Int):=by omega
    refine ⟨⟨m / 128,v5,_,(u3.trans (u4.mono rfl)).trans ((u5.mono rfl).trans (u6.mono rfl)),f0.trans (by simp),u6.get 3 e3,hO5,?_,by omega⟩,?_⟩
    · rw [hE,encU_big hlt,hd]
      simp
    · rw [f0,m0]
      simp only [intOf]
      omega
noncomputable def R132:=RG Tryz.f41
noncomputable abbrev c132:Code:=.seq (R132 0) (.seq (.seq (R132 1) (.cond (.tmp 4) (.seq (R132 2) .ret) .skip)) (.seq (R132 3) .ret))
theorem b132:Tryz.f41.body=some c132:=by kernel_rfl
theorem zig132 (n:Int)(hn:I64 n)(w:World):Calls Tryz.prog 41 #[.int .i64 n] w (RetE (.int .u64 (zig n:Int)) w):=by
  refine callsV Tryz.func41 b132 rfl (by simp) (fun a Q sz df ea hQ=>?_)
  have e0:=ea 0 (.int .i64 n) rfl
  unfold I64 at hn
  refine wp_seq (rW ?_)
  refine lv ?_
  refine lN a [0] ?_
  intro a1 u1
  replace sz:=u1.sz.trans sz
  replace df:=u1.df.trans df
  replace e0:=u1.get 0 e0
  refine wp_seq (wp_seq (rW ?_))
  iterate 2 refine lv ?_
  refine lE a1 [0] 4 ?_
  intro a2 u2 e4
  replace sz:=u2.sz.trans sz
  replace df:=u2.df.trans df
  replace e0:=u2.get 0 e0
  by_cases h:n<0
  · have h1:=wrI (a:=n+1) (by omega) (by omega)
    have h2:=wrI (a:=-(n+1)) (by omega) (by omega)
    have h3:=wrU (z:=-(n+1)) (by omega) (by omega)
    have h4:=wrU (z:=2*-(n+1)) (by omega) (by omega)
    have h5:=wrU (z:=2*-(n+1)+1) (by omega) (by omega)
    refine wp_cond_true (e4.trans (by simp [h])) (wp_seq (rW ?_))
    iterate 7 refine lv ?_
    refine lE a2 [] 2 ?_
    intro a3 u3 e2
    exact wp_ret (hQ _ _ _ (u3.df.trans df) (by simp [results,Tryz.results41,go_sem,evT e2];try rfl) ⟨by unfold zig;rw [if_pos h];congr 2;omega,Ext.refl _⟩)
  · have h3:=wrU (z:=n) (by omega) (by omega)
    have h4:=wrU (z:=2*n) (by omega) (by omega)
    refine wp_cond_false (e4.trans (by simp;omega)) (wp_skip (wp_seq (rW ?_)))
    iterate 4 refine lv ?_
    refine lE a2 [] 2 ?_
    intro a3 u3 e2
    exact wp_ret (hQ _ _ _ (u3.df.trans df) (by simp [results,Tryz.results41,go_sem,evT e2];try rfl) ⟨by unfold zig;rw [if_neg h];congr 2;omega,Ext.refl _⟩)
noncomputable def R83:=RG Tryz.f25
noncomputable abbrev c83:Code:=.seq (R83 0) (.seq (R83 1) .ret)
theorem b83:Tryz.f25.body=some c83:=by kernel_rfl
theorem int83 (n:Int)(hn:I64 n)(w:World):Calls Tryz.prog 25 #[.int .i64 n] w (RetBy (encI n) w):=by
  refine callsV Tryz.func25 b83 rfl (by simp) (fun a Q sz df ea hQ=>?_)
  have e0:=ea 0 (.int .i64 n) rfl
  refine wp_seq (rW ?_)
  refine lv ?_
  refine lN a [0] ?_
  intro a1 u1
  replace sz:=u1.sz.trans sz
  replace df:=u1.df.trans df
  replace e0:=u1.get 0 e0
  refine wp_seq (rW ?_)
  refine lv ?_
  refine lc Tryz.func41 (zig132 n hn w) ?_
  rintro e w1 ⟨rfl,x1⟩
  refine ⟨_,rfl,?_⟩
  refine lcE a1 [] Tryz.func26 (uint129 (zig n) (zig_U n hn) w1) x1 ?_
  intro a2 v2 w2 u2 e2 hO
  exact wp_ret (hQ _ _ _ (u2.df.trans df) (by simp [results,Tryz.results25,go_sem,evT e2];try rfl) ⟨v2,rfl,hO⟩)
noncomputable def R81:=RG Tryz.f24
noncomputable abbrev c81:Code:=.seq (R81 0) (.seq (R81 1) .ret)
theorem b81:Tryz.f24.body=some c81:=by kernel_rfl
theorem raw81 {P:Nat→Prop}{A:Option Addr}{n c:Nat}(l:List Int)(w:World)(hn:n=l.length)(hl:l.length≤100000000000)(hs:Sl w P 1 A n (l.map (Value.int .u8))):Calls Tryz.prog 24 #[.slice A n c] w (RetBy (encR l) w):=by
  subst hn
  refine callsV Tryz.func24 b81 rfl (by simp) (fun a Q sz df ea hQ=>?_)
  have e0:=ea 0 (.slice A l.length c) rfl
  refine wp_seq (rW ?_)
  refine lv ?_
  refine lN a [0] ?_
  intro a1 u1
  replace sz:=u1.sz.trans sz
  replace df:=u1.df.trans df
  replace e0:=u1.get 0 e0
  refine wp_seq (rW ?_)
  have h1:=wrU (z:=l.length) (by omega) (by omega)
  iterate 3 refine lv ?_
  refine lc Tryz.func26 (uint129 l.length (by omega) w) ?_
  rintro e w1 ⟨v1,rfl,hO⟩
  refine ⟨_,rfl,?_⟩
  refine lv ?_
  have h2:=encU10 (n:=l.length) (by omega)
  refine lap (A:=A) (c:=c) hO (hs.keep (Q:=fun _=>True) (Keeps.of_ext hO.ex) (fun _ _=>trivial)) rfl (by omega) ?_
  intro v2 w2 hO2
  refine lv ?_
  refine lE a1 [] 2 ?_
  intro a2 u2 e2
  exact wp_ret (hQ _ _ _ (u2.df.trans df) (by simp [results,Tryz.results24,go_sem,evT e2];try rfl) ⟨v2,rfl,hO2⟩)
theorem conv_str (s:ByteArray)(w:World):∃ k W,(convert 9 23 (.string s)).run Tryz.prog w=.ok (.slice (some ⟨w.heap.size,0,none⟩) s.size k) W∧Ext w W∧Sl W (fun _=>True) 1 (some ⟨w.heap.size,0,none⟩) s.size ((sB s).map (Value.int .u8)):=by
  refine ⟨_,_,run_bytes_of_string w 9 23 5 _ (by kernel_rfl) (by kernel_rfl) (by kernel_rfl),(Ext.refl w).drew'.alloc' _,by rw [List.length_map,sB_len,Nat.mul_one],fun _=>⟨_,0,rfl,trivial,fun j u hu=>?_⟩⟩
  have hj:j<s.size:=by
    rw [← sB_len]
    rcases Nat.lt_or_ge j (sB s).length with h | h
    · exact h
    · rw [List.getElem?_eq_none (by simpa using h)] at hu;cases hu
  have:(bytesRow s (grownCap w s.size 0 5))[j]?=some u:=by
    unfold bytesRow
    rw [Array.getElem?_append_left (by rw [Array.size_map];exact hj),← hu,← Array.getElem?_toList]
    simp only [sB,Array.toList_map,List.map_map]
    rfl
  rw [Nat.zero_add,← this]
  exact cell_new w.drew _ _ _ _
theorem take_get {α:Type}{l:List α}{k:Nat}(d:α)(hk:k<l.length):l.take (k+1)=l.take k ++ [l.getD k d]:=by
  rw [List.take_add_one]
  simp [List.getD,hk]
section
variable {k:Nat}
end
section
variable {w w':World}{B:Nat}{P P':Nat→Prop}{v:Value}{ps:List (List Int)}
end
theorem flat_take {α:Type}(f:α→List Int){l:List α}{k:Nat}(d:α)(hk:k<l.length):(l.take (k+1)).flatMap f=(l.take k).flatMap f ++ f (l.getD k d):=by
  rw [take_get d hk,List.flatMap_append]
  simp
theorem flat_le {α:Type}(f:α→List Int)(l:List α)(k:Nat):((l.take k).flatMap f).length≤(l.flatMap f).length:=by
  rw [show l.flatMap f=(l.take k).flatMap f ++ (l.drop k).flatMap f by rw [← List.flatMap_append,List.take_append_drop],List.length_append]
  omega
end Go.Proofs.YtfcplpeimcjhaaaGreatDoor
