/- Wire. Conditions: none. -/
import Derived.Test.YtfcplpeimcjhaaaGreatDoorVA
import Derived.Test.YtfcplpeimcjhaaaGreatDoorWO
namespace Go.Proofs.YtfcplpeimcjhaaaGreatDoor
open Go.RowKit
def BysV (B:Nat)(l:List Int)(v:Value)(w:World):Prop:=∃ A c,v=.slice A l.length c∧l.length≤c∧c≤9223372036854775807∧l.length≤100000000000∧Byt l∧Sl w (fun k=>B≤k) 1 A l.length (l.map (Value.int .u8))
theorem Fr.new {M N:Nat→Prop}{w w':World}(h:Fr N w w')(hM:∀ k,N k→M k∨w.heap.size≤k):Fr M w w':=⟨h.os,h.tape,h.output,h.size,fun k hk hm=>h.block k hk (fun hn=>(hM k hn).elim hm (fun h=>by omega))⟩
theorem decs.len {s s':Option (List Int)}{n:Nat}(h:decs decLen 0 s n s'):(∀ r,s'=some r→n≤r.length)∧(s'=none→n=0):=by
  cases s with
  | none=>obtain ⟨rfl,rfl⟩:=h;exact ⟨fun _ h=>(nomatch h),fun _=>rfl⟩
  | some l =>
    simp only [decs,Option.bind_some] at h
    cases hd:decLen l with
    | none=>rw [hd] at h;obtain ⟨rfl,rfl⟩:=h;exact ⟨fun _ h=>(nomatch h),fun _=>rfl⟩
    | some y =>
      rw [hd] at h
      obtain ⟨rfl,rfl⟩:=h
      refine ⟨fun r hr=>?_,fun h=>(nomatch h)⟩
      cases hr
      unfold decLen at hd
      cases hu:decU l with
      | none=>rw [hu] at hd;simp at hd
      | some z =>
        rw [hu] at hd
        simp only [Option.bind_some] at hd
        split at hd
        · cases hd
        · cases hd;omega
theorem decs.take {s s':Option (List Int)}{n:Nat}(h:decs decLen 0 s n s'):decs decR [] s ((s'.getD []).take n) (s'.map (·.drop n)):=by
  cases s with
  | none=>obtain ⟨rfl,rfl⟩:=h;exact ⟨rfl,rfl⟩
  | some l =>
    simp only [decs,Option.bind_some,decR_len] at h ⊢
    cases hd:decLen l with
    | none=>rw [hd] at h;obtain ⟨rfl,rfl⟩:=h;exact ⟨rfl,rfl⟩
    | some y=>rw [hd] at h;obtain ⟨rfl,rfl⟩:=h;exact ⟨rfl,rfl⟩
theorem decs.str {s s':Option (List Int)}{l:List Int}(h:decs decR [] s l s'):decs decS ⟨#[]⟩ s (strOfNums l) s':=by
  cases s with
  | none=>obtain ⟨rfl,rfl⟩:=h;exact ⟨rfl,rfl⟩
  | some l0 =>
    simp only [decs,Option.bind_some,decS] at h ⊢
    cases hd:decR l0 with
    | none=>rw [hd] at h;obtain ⟨rfl,rfl⟩:=h;exact ⟨rfl,rfl⟩
    | some y=>rw [hd] at h;obtain ⟨rfl,rfl⟩:=h;exact ⟨rfl,rfl⟩
section
variable {g:Nat}{P:Nat→Prop}{w w':World}{s:Option (List Int)}
theorem take_of {s':Option (List Int)}{n:Nat}{w1:World}(hs:RS g P s' w1)(hd:decs decLen 0 s n s'):∃ (A:Option Addr)(c:Nat)(l:List Int),n≤l.length∧l.take n=(s'.getD []).take n∧Sl w1 P 1 A n ((l.take n).map (Value.int .u8))∧Byt (l.take n)∧n≤c∧c≤9223372036854775807∧n≤100000000000∧Calls Tryz.prog 33 #[.pointer (some ⟨g,0,none⟩),.int .i64 (n:Int)] w1 fun en w'=>en=.returned (.slice A n c)∧RS g P (s'.map (·.drop n)) w'∧Fr (fun k=>k=g) w1 w':=by
  obtain ⟨A,c,e,l,h1,h2⟩:=hs
  obtain ⟨k1,k2⟩:=hd.len
  have hn:n≤l.length:=by
    cases s' with
    | none=>rw [k2 rfl];omega
    | some r=>obtain ⟨-,rfl⟩:=h2;exact k1 _ rfl
  have hlen:=h1.len
  refine ⟨A,c,l,hn,?_,h1.sl.takeB hn,fun x hx=>h1.byt x (List.mem_of_mem_take hx),by omega,hlen.2.1,by omega,(take124 h1 n hn).mono ?_⟩
  · cases s' with
    | none=>rw [k2 rfl];simp
    | some r=>obtain ⟨-,rfl⟩:=h2;rfl
  · rintro en w' ⟨rfl,⟨A',c',h3⟩,hf⟩
    refine ⟨rfl,⟨A',c',e,_,h3,?_⟩,hf⟩
    cases s' with
    | none=>exact h2
    | some r=>obtain ⟨rfl,rfl⟩:=h2;exact ⟨rfl,rfl⟩
noncomputable def R76:=RG Tryz.f15
noncomputable abbrev c76:Code:=.seq (R76 0) (.seq (R76 1) .ret)
theorem b76:Tryz.f15.body=some c76:=by kernel_rfl
set_option maxHeartbeats 1000000 in
theorem raw76 (h:RS g P s w):Calls Tryz.prog 15 #[.pointer (some ⟨g,0,none⟩)] w (RetRd g P decR [] (fun l v w'=>BysV w.heap.size l v w') s w):=by
  obtain ⟨hg,hP⟩:=h.glt
  refine callsV Tryz.func15 b76 rfl (by simp) (fun a Q sz df ea hQ=>?_)
  have e0:=ea 0 (.pointer (some ⟨g,0,none⟩)) rfl
  refine wp_seq (rW ?_)
  refine lv ?_
  refine lN a [0] ?_
  intro a1 u1
  replace sz:=u1.sz.trans sz
  replace df:=u1.df.trans df
  replace e0:=u1.get 0 e0
  refine wp_seq (rW ?_)
  refine lv ?_
  have hx:Ext w (w.alloc (.cells #[] 5)):=(Ext.refl w).alloc' _
  have hO:By w.heap.size (.slice (some ⟨w.heap.size,0,none⟩) 0 0) [] (w.alloc (.cells #[] 5)):=World.ownsRow_lit w #[] 0 (Nat.le_refl _) (by unfold maxLen;omega) rfl
  replace h:=h.ext hx
  generalize w.alloc (.cells #[] 5)=W at *
  iterate 2 refine lv ?_
  refine lc Tryz.func34 (length125 h) ?_
  rintro e w1 ⟨n,s',v,rfl,rfl,hs,hd,hf⟩
  refine ⟨_,rfl,?_⟩
  obtain ⟨A,c,l,hn,ht,hsl,hby,hc1,hc2,hn2,hc⟩:=take_of hs hd
  refine lc Tryz.func33 hc ?_
  rintro e w2 ⟨rfl,hs2,hf2⟩
  refine ⟨_,rfl,?_⟩
  have hF:=hf.trans hf2
  have hO2:By w.heap.size (.slice (some ⟨w.heap.size,0,none⟩) 0 0) [] w2:=own_fr hO hF (fun b hb e=>by have h7:w.heap.size=b:=Option.some.inj hb;omega)
  have hsl2:=hsl.keep (Q:=fun _=>True) (Keeps.of_fr hf2 (fun k hk e=>by obtain ⟨_,_,_,_,h5,_⟩:=hs;exact h5.sep k hk e)) (fun _ _=>trivial)
  have htl:(l.take n).length=n:=by rw [List.length_take];omega
  refine la und74 info5 hO2 hsl2 (by simp;omega) (by simp;omega) (Nat.le_trans hx.size hF.size) u8_one ?_
  intro v3 w3 h1 hf3 hv
  refine lv ?_
  refine lE a1 [] 2 ?_
  intro a2 u2 e2
  have h1':By w.heap.size v3 (l.take n) w3:=by
    unfold By
    rw [htl]
    simpa using h1
  obtain ⟨A3,c3,rfl,h4,h5,h6⟩:=Sl.of_own h1'
  unfold maxLen at h5
  have hown:(Value.slice (some ⟨w.heap.size,0,none⟩) 0 0).ownBlock=some w.heap.size:=rfl
  have hs3:=hs2.fr hf3 (fun e=>by have h7:=Option.some.inj (e.trans hown);omega) (fun k hk e=>by have h7:=Option.some.inj (e.trans hown);have:=hP _ hk;omega)
  exact wp_ret (hQ _ _ _ (u2.df.trans df) (by simp [results,Tryz.results15,go_sem,evT e2];try rfl) ⟨l.take n,_,_,rfl,⟨A3,c3,rfl,h4,by omega,by rw [htl];exact hn2,hby,h6 _ (fun b hb=>own_lo h1' hb)⟩,hs3,by rw [ht];exact hd.take,(((Fr.of_ext hx).trans hF).trans_new (M:=fun k=>k=g) (hf3.mono fun k hk=>.inr (by have h7:=Option.some.inj (hk.trans hown);omega)))⟩)
noncomputable def R167:=RG Tryz.f27
noncomputable abbrev c167:Code:=.seq (R167 0) (.seq (R167 1) .ret)
theorem b167:Tryz.f27.body=some c167:=by kernel_rfl
set_option maxHeartbeats 1000000 in
theorem text167 (h:RS g P s w):Calls Tryz.prog 27 #[.pointer (some ⟨g,0,none⟩)] w (RetRd g P decS ⟨#[]⟩ (fun x v _=>v=.string x∧x.size≤100000000000) s w):=by
  refine callsV Tryz.func27 b167 rfl (by simp) (fun a Q sz df ea hQ=>?_)
  have e0:=ea 0 (.pointer (some ⟨g,0,none⟩)) rfl
  refine wp_seq (rW ?_)
  refine lv ?_
  refine lN a [0] ?_
  intro a1 u1
  replace sz:=u1.sz.trans sz
  replace df:=u1.df.trans df
  replace e0:=u1.get 0 e0
  refine wp_seq (rW ?_)
  iterate 2 refine lv ?_
  refine lc Tryz.func34 (length125 h) ?_
  rintro e w1 ⟨n,s',v,rfl,rfl,hs,hd,hf⟩
  refine ⟨_,rfl,?_⟩
  obtain ⟨A,c,l,hn,ht,hsl,hby,hc1,hc2,hn2,hc⟩:=take_of hs hd
  refine lc Tryz.func33 hc ?_
  rintro e w2 ⟨rfl,hs2,hf2⟩
  refine ⟨_,rfl,?_⟩
  have hsl2:=hsl.keep (Q:=fun _=>True) (Keeps.of_fr hf2 (fun k hk e=>by obtain ⟨_,_,_,_,h5,_⟩:=hs;exact h5.sep k hk e)) (fun _ _=>trivial)
  have htl:(l.take n).length=n:=by rw [List.length_take];omega
  have hcv:(convert 23 9 (.slice A n c)).run Tryz.prog w2=.ok (.string (strOfNums (l.take n))) w2:=by
    by_cases h0:0<n
    · obtain ⟨bk,ok,rfl,-,hcc⟩:=hsl2.2 h0
      refine run_convert_bytes_arg w2 23 5 und74 (by kernel_rfl) bk ok n c (l.take n) htl (fun i hi=>?_) 9 (by kernel_rfl)
      exact hcc i _ (by rw [List.getElem?_map,List.getD,List.getElem?_eq_getElem (show i<(l.take n).length by omega)];rfl)
    · obtain rfl:n=0:=by omega
      cases A with
      | none=>exact run_convert_bytes_nil w2 23 5 und74 (by kernel_rfl) 0 c 9 (by kernel_rfl)
      | some ad =>
        rw [run_convert_bytes_string w2 23 9 5 (some ad) 0 c und74 (by kernel_rfl) (by kernel_rfl),run_bytesToString w2 ad 0 c [] (by simp [loadCells,loadCellsFrom])]
        rfl
  iterate 2 refine lv ?_
  refine lE a1 [] 2 ?_
  intro a2 u2 e2
  refine wp_ret (hQ _ _ _ (u2.df.trans df) (by simp [results,Tryz.results27,go_sem,evT e2,ht]) ⟨strOfNums (l.take n),_,_,rfl,⟨rfl,by rw [strOfNums_size,htl];exact hn2⟩,hs2,?_,hf.trans hf2⟩)
  have:=hd.take
  rw [← ht] at this
  exact this.str
noncomputable def R80:=RG Tryz.f32
noncomputable abbrev c80:Code:=.seq (R80 0) (.seq (.seq (R80 1) (.cond (.tmp 7) (.seq (R80 2) .ret) .skip)) (.seq (.seq (R80 3) (.cond (.tmp 17) (.seq (R80 4) .ret) .skip)) (.seq (R80 5) .ret)))
theorem b80:Tryz.f32.body=some c80:=by kernel_rfl
theorem end80 (h:RS g P s w):Calls Tryz.prog 32 #[.pointer (some ⟨g,0,none⟩)] w fun e w'=>∃ r:Int,e=.returned (.int .i64 r)∧(r=0 ↔ s=some [])∧w'=w:=by
  refine callsV Tryz.func32 b80 rfl (by simp) (fun a Q sz df ea hQ=>?_)
  have e0:=ea 0 (.pointer (some ⟨g,0,none⟩)) rfl
  obtain ⟨A,c,e,l,h1,h2⟩:=h
  have c0:=h1.box.cell' (u:=.slice A l.length c) 0 rfl
  have c1:=h1.box.cell' (u:=.int .i64 e) 1 rfl
  have hres:∀ (r:Int) (b2:Act),b2.defers=[]→Ev b2 (.tmp 2)=.int .i64 r→(r=0 ↔ s=some [])→Q .ret b2 w:=fun r b2 hd e2 hr=>hQ _ _ _ hd (by simp [results,Tryz.results32,go_sem,evT e2];try rfl) ⟨r,rfl,hr,rfl⟩
  refine wp_seq (rW ?_)
  refine lv ?_
  refine lN a [0] ?_
  intro a1 u1
  replace sz:=u1.sz.trans sz
  replace df:=u1.df.trans df
  replace e0:=u1.get 0 e0
  refine wp_seq (wp_seq (rW ?_))
  iterate 5 refine lv ?_
  refine lE a1 [0] 7 ?_
  intro a2 u2 e7
  replace sz:=u2.sz.trans sz
  replace df:=u2.df.trans df
  replace e0:=u2.get 0 e0
  cases s with
  | none =>
    obtain ⟨h2,h3⟩:=h2
    refine wp_cond_true (e7.trans (by simp [h2])) (wp_seq (rW ?_))
    iterate 5 refine lv ?_
    refine lE a2 [] 2 ?_
    intro a3 u3 e2
    exact wp_ret (hres e _ (u3.df.trans df) e2 ⟨fun h=>absurd h h2,fun h=>nomatch h⟩)
  | some l0 =>
    obtain ⟨rfl,rfl⟩:=h2
    refine wp_cond_false (e7.trans (by simp)) (wp_skip (wp_seq (wp_seq (rW ?_))))
    iterate 6 refine lv ?_
    refine lE a2 [0] 17 ?_
    intro a3 u3 e17
    replace sz:=u3.sz.trans sz
    replace df:=u3.df.trans df
    replace e0:=u3.get 0 e0
    by_cases hl:0<l.length
    · refine wp_cond_true (e17.trans (by simp [hl])) (wp_seq (rW ?_))
      refine lv ?_
      refine lE a3 [] 2 ?_
      intro a4 u4 e2
      exact wp_ret (hres 2 _ (u4.df.trans df) e2 ⟨fun h=>by omega,fun h=>by cases h;simp at hl⟩)
    · refine wp_cond_false (e17.trans (by simp [hl])) (wp_skip (wp_seq (rW ?_)))
      refine lv ?_
      refine lE a3 [] 2 ?_
      intro a4 u4 e2
      exact wp_ret (hres 0 _ (u4.df.trans df) e2 ⟨fun _=>by rw [List.eq_nil_of_length_eq_zero (by omega:l.length=0)],fun _=>rfl⟩)
end
section
variable {w:World}{T:Nat→Prop}{A:Option Addr}{c:Nat}{l:List Int}
noncomputable def R74:=RG Tryz.f10
noncomputable abbrev c74:Code:=.seq (R74 0) (.seq (R74 1) .ret)
theorem b74:Tryz.f10.body=some c74:=by kernel_rfl
theorem read74 (hl:l.length≤10000000000)(hb:Byt l)(hs:Sl w T 1 A l.length (l.map (Value.int .u8))):Calls Tryz.prog 10 #[.slice A l.length c] w fun e w'=>∃ g P,e=.returned (.pointer (some ⟨g,0,none⟩))∧RS g P (some l) w'∧w.heap.size≤g∧(∀ k,P k→w.heap.size≤k)∧Ext w w':=by
  refine callsV Tryz.func10 b74 rfl (by simp) (fun a Q sz df ea hQ=>?_)
  have e0:=ea 0 (.slice A l.length c) rfl
  refine wp_seq (rW ?_)
  refine lv ?_
  refine lN a [0] ?_
  intro a1 u1
  replace sz:=u1.sz.trans sz
  replace df:=u1.df.trans df
  replace e0:=u1.get 0 e0
  refine wp_seq (rW ?_)
  refine lv ?_
  have hx:Ext w (w.alloc (.cells #[] 5)):=(Ext.refl w).alloc' _
  have hO:Out w (.slice (some ⟨w.heap.size,0,none⟩) 0 0) [] (w.alloc (.cells #[] 5)):=⟨World.ownsRow_lit w #[] 0 (Nat.le_refl _) (by unfold maxLen;omega) rfl,⟨Fr.of_ext hx,.inr ⟨_,rfl,Nat.le_refl _⟩⟩,Nat.le_refl _⟩
  have hs':=hs.ext hx
  generalize w.alloc (.cells #[] 5)=W at *
  refine lv ?_
  refine lap (c:=c) hO hs' rfl (by simp;omega) ?_
  intro v2 w2 hO2
  rw [List.nil_append] at hO2
  obtain ⟨A2,c2,rfl,h1,h2,h3⟩:=hO2.sl
  have hB:=Blk.new w2 58 #[.slice A2 l.length c2,.int .i64 0]
  have hx2:Ext w2 (w2.alloc (.cells #[.slice A2 l.length c2,.int .i64 0] 58)):=(Ext.refl w2).alloc' _
  refine lv ?_
  refine lv (w1:=w2.alloc (.cells #[.slice A2 l.length c2,.int .i64 0] 58)) ?_
  refine lv ?_
  refine lE a1 [] 2 ?_
  intro a2 u2 e2
  exact wp_ret (hQ _ _ _ (u2.df.trans df) (by simp [results,Tryz.results10,go_sem,evT e2];try rfl) ⟨w2.heap.size,_,rfl,⟨A2,c2,0,l,⟨hB,⟨h1,h2,by omega⟩,h3.ext hx2,hb,fun k hk=>by have:=hO2.row.block_lt hk.2.symm;omega,fun k hk=>by have:=hO2.row.block_lt hk.2.symm;have:=hx2.size;omega⟩,rfl,rfl⟩,hO2.ex.size,fun k hk=>hk.1,hO2.ex.trans' hx2⟩)
end
theorem exec_fp {a:Act}{dst:Option Tmp}{y:Operand}{xs:Array Operand}{ats:Array TypeId}{ty:TypeId}{pos:String}{after:Array Edge}{guard:Option (Nat × Bool)}{f:FuncId}{pre post:Array Value}(hy:a.eval y=.func (.func f) pre post) :
    execOp a.eval { dst,op:=.call { callee:=.value y,args:=xs,argTypes:=ats },type:=ty,pos,after,guard }=callFunc f (pre ++ xs.map a.eval ++ post):=by
  rw [show execOp a.eval { dst,op:=.call { callee:=.value y,args:=xs,argTypes:=ats },type:=ty,pos,after,guard }=(do let d ← Deferred.ofValue (a.eval y) (xs.map a.eval);invoke d.target d.args) from rfl,hy]
  rfl
section
variable {ops:Array Oper}{Q:Exit→Act→World→Prop}{a:Act}{w:World}{rest:List Oper}{o:Oper}{d:Nat}{y:Operand}{f:FuncId}{xs:Array Operand}{ats:Array TypeId}{fn:Func}{vs pre post:Array Value}{R:Ending→World→Prop}
theorem wp_fp {K:Act→World→Prop}(hop:o.op=Op.call { callee:=Callee.value y,args:=xs,argTypes:=ats })(hy:Ev a y=.func (.func f) pre post)(hf:Tryz.prog.funcs[f]?=some fn)(hn:(fn.name == "runtime.NumGoroutine")=false) (hb:fn.body.isNone=false) (hv:pre ++ xs.map (Ev a) ++ post=vs)
    (h:Calls Tryz.prog f vs w fun e w'=>∃ v,e=.returned v∧K (a.put o.dst v) w'):Oper.wp Tryz.prog o a w K Q:=by
  unfold Oper.wp
  obtain ⟨dst,op,ty,pos,after,guard⟩:=o
  simp only at hop
  subst hop
  subst hv
  rw [exec_fp hy]
  have hp:Sem.run Tryz.prog program w=.ok Tryz.prog w:=rfl
  simp only [callFunc,Sem.run_bind,hp,Result.andThen_ok,hf,hn,hb,Bool.false_eq_true,if_false,Sem.run_pure,Oper.upon]
  refine h.mono ?_
  rintro e w' ⟨v,rfl,hk⟩
  exact hk
theorem lcp (hf:Tryz.prog.funcs[f]?=some fn)(hy:Ev a y=.func (.func f) pre post)(hc:Calls Tryz.prog f vs w R)(h:∀ e w',R e w'→∃ v,e=.returned v∧WL ops Q rest (Pt a d v) w')
    (hg:o.guard=none:=by exact rfl)(hd:o.dst=some d:=by exact rfl)(hop:o.op=Op.call { callee:=Callee.value y,args:=xs,argTypes:=ats }:=by exact rfl)(hn:(fn.name == "runtime.NumGoroutine")=false:=by rfl) (hb:fn.body.isNone=false:=by rfl) (hv:pre ++ xs.map (Ev a) ++ post=vs:=by simp [*]):WL ops Q (o :: rest) a w:=by
  refine ⟨wpList_plain hg fun K hK=>?_⟩
  refine wp_fp hop hy hf hn hb hv (hc.mono fun e w' hR=>?_)
  obtain ⟨v,rfl,h1⟩:=h e w' hR
  exact ⟨v,rfl,by rw [hd];exact hK _ _ h1.out⟩
end
section
variable {g:Nat}{P:Nat→Prop}{w w':World}{s:Option (List Int)}
end
section
variable {ops:Array Oper}{Q:Exit→Act→World→Prop}{a:Act}{S w w1:World}{rest:List Oper}{o:Oper}{d g B:Nat}{u0 u v:Value}{l enc:List Int}{P:Nat→Prop}
theorem lcw {f:FuncId}{xs:Array Operand}{ats:Array TypeId}{fn:Func}{vs:Array Value}(a0:Act)(L:List Nat)(hf:Tryz.prog.funcs[f]?=some fn)(hG:WG S g u0 u w)(hc:Calls Tryz.prog f vs w (RetW g B u l enc w))(h:∀ a' v' w',Ag L a0 a'→WS g B v' (l ++ enc) w'→WG S g u0 v' w'→Q .normal a' w')
    (hg:o.guard=none:=by exact rfl)(hd:o.dst=some d:=by exact rfl)(hop:o.op=Op.call { callee:=Callee.value (Operand.func f),args:=xs,argTypes:=ats }:=by exact rfl)(hn:(fn.name == "runtime.NumGoroutine")=false:=by rfl) (hb:fn.body.isNone=false:=by rfl) (hv:xs.map (Ev a)=vs:=by simp [*]) (hA:∀ v,Ag L a0 (Pt a d v):=by (intro v;(repeat refine .put ?_ rfl);exact .rf)):WL ops Q [o] a w:=by
  refine lc hf hc ?_ hg hd hop hn hb hv
  rintro e w1 ⟨rfl,v1,hS1,hG1⟩
  exact ⟨_,rfl,l_nil (h _ v1 w1 (hA _) hS1 (hG.trans hG1))⟩
theorem WG.sep (h:WG S g u v w)(hP:∀ k,P k→k ≠ g∧some k ≠ u.ownBlock)(hl:∀ k,P k→k<S.heap.size):∀ k,P k→k ≠ g∧some k ≠ v.ownBlock:=fun k hk=>⟨(hP k hk).1,fun e=>by
  rcases h.own with e1 | ⟨b,e1,hb⟩
  · exact (hP k hk).2 (e.trans e1)
  · rw [e1] at e;cases e;have:=hl _ hk;omega⟩
theorem WG.keeps (h:WG S g u v w)(hP:∀ k,P k→k ≠ g∧some k ≠ u.ownBlock):Keeps P S w:=Keeps.of_fr h.fr fun k hk e=>e.elim (hP k hk).1 (hP k hk).2
theorem WG.blk {k:Nat}{t:TypeId}{cs:Array Value}(h:WG S g u v w)(hb:Blk S k t cs)(hk:k ≠ g)(hk':some k ≠ u.ownBlock):Blk w k t cs:=hb.fr h.fr fun e=>e.elim hk hk'
theorem WS.new (h:WS g B v l w)(_:Obj):w.heap.size ≠ g∧some w.heap.size ≠ v.ownBlock:=⟨fun e=>by have:=h.box.lt;omega,fun e=>by have:=h.row.block_lt e.symm;omega⟩
end
end Go.Proofs.YtfcplpeimcjhaaaGreatDoor
