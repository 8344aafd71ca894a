/- Walks against a frame that is a variable: single operations, and steps of a list of operations. Conditions: none. -/
import Derived.Test.YtkoeecdjijfjnaaGreatLU
namespace Go.Proofs.YtkoeecdjijfjnaaGreat
open Go.RowKit
section
variable {ρ:Operand→Value}{o:Oper}{w:World}
theorem y_assign {v:Value}(x:Operand)(ho:o.op=.assign x)(hx:ρ x=v):(execOp ρ o).run Tryz.prog w=.ok (.value v) w:=by
 simp [execOp,ho,hx,go_sem]
theorem y_sub {a b:Int}(x y:Operand)(ho:o.op=.binOp .sub 3 x y 3)(hx:ρ x=.int .i64 a)(hy:ρ y=.int .i64 b)(hr:I64 (a - b)):(execOp ρ o).run Tryz.prog w=.ok (.value (.int .i64 (a - b))) w:=by
 have hw:IntKind.i64.wrap (a - b)=a - b:=IntWalk.i64_in _ (by unfold I64 at hr;omega)
 simp [execOp,ho,hx,hy,go_sem,hw]
theorem y_mul {a b:Int}(x y:Operand)(ho:o.op=.binOp .mul 3 x y 3)(hx:ρ x=.int .i64 a)(hy:ρ y=.int .i64 b)(hr:I64 (a*b)):(execOp ρ o).run Tryz.prog w=.ok (.value (.int .i64 (a*b))) w:=by
 have hw:IntKind.i64.wrap (a*b)=a*b:=IntWalk.i64_in _ (by unfold I64 at hr;omega)
 simp [execOp,ho,hx,hy,go_sem,hw]
theorem y_quo {a b:Int}(x y:Operand)(ho:o.op=.binOp .quo 3 x y 3)(hx:ρ x=.int .i64 a)(hy:ρ y=.int .i64 b)(h0:0≤a)(h1:a≤1000000000000)(h2:0<b):(execOp ρ o).run Tryz.prog w=.ok (.value (.int .i64 (a / b))) w:=by
 have hb:¬ b=0:=by omega
 have ht:a.tdiv b=a / b:=Int.tdiv_eq_ediv_of_nonneg h0
 have h3:0≤a / b:=Int.ediv_nonneg h0 (by omega)
 have h4:a / b≤a:=Int.ediv_le_self _ h0
 have hw:IntKind.i64.wrap (a / b)=a / b:=IntWalk.i64_in _ (by omega)
 simp [execOp,ho,hx,hy,go_sem,hw,ht,hb]
theorem y_rem {a b:Int}(x y:Operand)(ho:o.op=.binOp .rem 3 x y 3)(hx:ρ x=.int .i64 a)(hy:ρ y=.int .i64 b)(h0:0≤a)(h2:0<b):(execOp ρ o).run Tryz.prog w=.ok (.value (.int .i64 (a % b))) w:=by
 have hb:¬ b=0:=by omega
 have ht:a.tmod b=a % b:=Int.tmod_eq_emod_of_nonneg h0
 simp [execOp,ho,hx,hy,go_sem,ht,hb]
theorem y_lss {a b:Int}(x y:Operand)(ho:o.op=.binOp .lss 3 x y 3)(hx:ρ x=.int .i64 a)(hy:ρ y=.int .i64 b):(execOp ρ o).run Tryz.prog w=.ok (.value (.bool (decide (a<b)))) w:=by
 simp [execOp,ho,hx,hy,go_sem]
theorem y_leq {a b:Int}(x y:Operand)(ho:o.op=.binOp .leq 3 x y 3)(hx:ρ x=.int .i64 a)(hy:ρ y=.int .i64 b):(execOp ρ o).run Tryz.prog w=.ok (.value (.bool (decide (a≤b)))) w:=by
 simp [execOp,ho,hx,hy,go_sem]
theorem y_gtr {a b:Int}(x y:Operand)(ho:o.op=.binOp .gtr 3 x y 3)(hx:ρ x=.int .i64 a)(hy:ρ y=.int .i64 b):(execOp ρ o).run Tryz.prog w=.ok (.value (.bool (decide (b<a)))) w:=by
 simp [execOp,ho,hx,hy,go_sem]
theorem y_eql {a b:Int}(T:TypeId)(hT:T=3∨T=29)(x y:Operand)(ho:o.op=.binOp .eql T x y T)(hx:ρ x=.int .i64 a)(hy:ρ y=.int .i64 b):(execOp ρ o).run Tryz.prog w=.ok (.value (.bool (a == b))) w:=by
 rcases hT with rfl | rfl <;> simp [execOp,ho,hx,hy,go_sem]
theorem y_f87_0 {g:Nat}(x:Operand)(ho:o.op=.fieldAddr 87 x 0)(hx:ρ x=.pointer (some ⟨g,0,none⟩)):(execOp ρ o).run Tryz.prog w=.ok (.value (.pointer (some ⟨g,0,none⟩))) w:=by
 simp [execOp,ho,hx,go_sem]
theorem y_f87_1 {g:Nat}(x:Operand)(ho:o.op=.fieldAddr 87 x 1)(hx:ρ x=.pointer (some ⟨g,0,none⟩)):(execOp ρ o).run Tryz.prog w=.ok (.value (.pointer (some ⟨g,1,none⟩))) w:=by
 simp [execOp,ho,hx,go_sem]
theorem y_f87_2 {g:Nat}(x:Operand)(ho:o.op=.fieldAddr 87 x 2)(hx:ρ x=.pointer (some ⟨g,0,none⟩)):(execOp ρ o).run Tryz.prog w=.ok (.value (.pointer (some ⟨g,2,none⟩))) w:=by
 simp [execOp,ho,hx,go_sem]
theorem y_f87_3 {g:Nat}(x:Operand)(ho:o.op=.fieldAddr 87 x 3)(hx:ρ x=.pointer (some ⟨g,0,none⟩)):(execOp ρ o).run Tryz.prog w=.ok (.value (.pointer (some ⟨g,3,none⟩))) w:=by
 simp [execOp,ho,hx,go_sem]
theorem y_f87_8 {g:Nat}(x:Operand)(ho:o.op=.fieldAddr 87 x 8)(hx:ρ x=.pointer (some ⟨g,0,none⟩)):(execOp ρ o).run Tryz.prog w=.ok (.value (.pointer (some ⟨g,8,none⟩))) w:=by
 simp [execOp,ho,hx,go_sem]
theorem y_f25_0 {g:Nat}(x:Operand)(ho:o.op=.fieldAddr 25 x 0)(hx:ρ x=.pointer (some ⟨g,0,none⟩)):(execOp ρ o).run Tryz.prog w=.ok (.value (.pointer (some ⟨g,0,none⟩))) w:=by
 simp [execOp,ho,hx,go_sem]
theorem y_load3 {g f:Nat}{v:Value}(x:Operand)(ho:o.op=.load 3 x)(hx:ρ x=.pointer (some ⟨g,f,none⟩))(hc:w.cell? ⟨g,f,none⟩=some v):(execOp ρ o).run Tryz.prog w=.ok (.value v) w:=by
 simp [execOp,ho,hx,go_sem,hc]
theorem y_load23 {g f:Nat}{v:Value}(x:Operand)(ho:o.op=.load 23 x)(hx:ρ x=.pointer (some ⟨g,f,none⟩))(hc:w.cell? ⟨g,f,none⟩=some v):(execOp ρ o).run Tryz.prog w=.ok (.value v) w:=by
 simp [execOp,ho,hx,go_sem,hc]
theorem y_load25 {g:Nat}{v:Value}(x:Operand)(ho:o.op=.load 25 x)(hx:ρ x=.pointer (some ⟨g,0,none⟩))(hc:w.cell? ⟨g,0,none⟩=some v):(execOp ρ o).run Tryz.prog w=.ok (.value (.agg #[v])) w:=by
 simp [execOp,ho,hx,go_sem,hc]
theorem r_alloc25 (ho:o.op=.alloc 25):(execOp ρ o).run Tryz.prog w=.ok (.value (.pointer (some ⟨w.heap.size,0,none⟩))) (w.alloc (.cells #[.slice none 0 0] 25)):=by
 simp [execOp,ho,go_sem]
theorem r_alloc87 (ho:o.op=.alloc 87):(execOp ρ o).run Tryz.prog w=.ok (.value (.pointer (some ⟨w.heap.size,0,none⟩))) (w.alloc (.cells #[.int .i64 0,.string ⟨#[]⟩,.int .i64 0,.int .i64 0,.slice none 0 0,.slice none 0 0,.slice none 0 0,.slice none 0 0,.int .i64 0,.int .i64 0,.string ⟨#[]⟩,.slice none 0 0] 87)):=by
 simp [execOp,ho,go_sem]
theorem y_build25 (ho:o.op=.build 25 #[]):(execOp ρ o).run Tryz.prog w=.ok (.value (.agg #[.slice none 0 0])) w:=by
 simp [execOp,ho,go_sem]
theorem y_build87 {z:Int}(x:Operand)(ho:o.op=.build 87 #[(0,x)])(hx:ρ x=.int .i64 z):(execOp ρ o).run Tryz.prog w=.ok (.value (.agg #[.int .i64 z,.string ⟨#[]⟩,.int .i64 0,.int .i64 0,.slice none 0 0,.slice none 0 0,.slice none 0 0,.slice none 0 0,.int .i64 0,.int .i64 0,.string ⟨#[]⟩,.slice none 0 0])) w:=by
 simp [execOp,ho,hx,go_sem]
theorem y_build85 {z:Int}(x:Operand)(ho:o.op=.build 85 #[(1,x)])(hx:ρ x=.int .i64 z):(execOp ρ o).run Tryz.prog w=.ok (.value (.agg #[.int .i64 0,.int .i64 z,.string ⟨#[]⟩,.slice none 0 0])) w:=by
 simp [execOp,ho,hx,go_sem]
theorem y_build87v {z:Int}(x:Operand)(ho:o.op=.build 87 #[(8,x)])(hx:ρ x=.agg #[.int .i64 0,.int .i64 z,.string ⟨#[]⟩,.slice none 0 0]):(execOp ρ o).run Tryz.prog w=.ok (.value (.agg #[.int .i64 0,.string ⟨#[]⟩,.int .i64 0,.int .i64 0,.slice none 0 0,.slice none 0 0,.slice none 0 0,.slice none 0 0,.int .i64 0,.int .i64 z,.string ⟨#[]⟩,.slice none 0 0])) w:=by
 simp [execOp,ho,hx,go_sem]
theorem r_store25 {g:Nat}{A:Option Addr}{n c:Nat}{old:Value}(x y:Operand)(ho:o.op=.store 25 x y)(hx:ρ x=.pointer (some ⟨g,0,none⟩))(hy:ρ y=.agg #[.slice A n c])(hc:w.cell? ⟨g,0,none⟩=some old)(hz:w.frozen? ⟨g,0,none⟩=false):(execOp ρ o).run Tryz.prog w=.ok .skip (w.setCell ⟨g,0,none⟩ (.slice A n c)):=by
 simp [execOp,ho,hx,hy,go_sem,hc,hz]
theorem r_store23 {g f:Nat}{A:Option Addr}{n c:Nat}{old:Value}(x y:Operand)(ho:o.op=.store 23 x y)(hx:ρ x=.pointer (some ⟨g,f,none⟩))(hy:ρ y=.slice A n c)(hc:w.cell? ⟨g,f,none⟩=some old)(hz:w.frozen? ⟨g,f,none⟩=false):(execOp ρ o).run Tryz.prog w=.ok .skip (w.setCell ⟨g,f,none⟩ (.slice A n c)):=by
 simp [execOp,ho,hx,hy,go_sem,hc,hz]
theorem r_store3 {g f:Nat}{z:Int}{old:Value}(x y:Operand)(ho:o.op=.store 3 x y)(hx:ρ x=.pointer (some ⟨g,f,none⟩))(hy:ρ y=.int .i64 z)(hc:w.cell? ⟨g,f,none⟩=some old)(hz:w.frozen? ⟨g,f,none⟩=false):(execOp ρ o).run Tryz.prog w=.ok .skip (w.setCell ⟨g,f,none⟩ (.int .i64 z)):=by
 simp [execOp,ho,hx,hy,go_sem,hc,hz]
theorem r_store9 {g f:Nat}{z:ByteArray}{old:Value}(x y:Operand)(ho:o.op=.store 9 x y)(hx:ρ x=.pointer (some ⟨g,f,none⟩))(hy:ρ y=.string z)(hc:w.cell? ⟨g,f,none⟩=some old)(hz:w.frozen? ⟨g,f,none⟩=false):(execOp ρ o).run Tryz.prog w=.ok .skip (w.setCell ⟨g,f,none⟩ (.string z)):=by
 simp [execOp,ho,hx,hy,go_sem,hc,hz]
theorem y_load87 {g:Nat}{u0 u1 u2 u3 u4 u5 u6 u7 u8 u9 u10 u11:Value}(x:Operand)(ho:o.op=.load 87 x)(hx:ρ x=.pointer (some ⟨g,0,none⟩))(h0:w.cell? ⟨g,0,none⟩=some u0)(h1:w.cell? ⟨g,1,none⟩=some u1)(h2:w.cell? ⟨g,2,none⟩=some u2)(h3:w.cell? ⟨g,3,none⟩=some u3)(h4:w.cell? ⟨g,4,none⟩=some u4)(h5:w.cell? ⟨g,5,none⟩=some u5)(h6:w.cell? ⟨g,6,none⟩=some u6)(h7:w.cell? ⟨g,7,none⟩=some u7)(h8:w.cell? ⟨g,8,none⟩=some u8)(h9:w.cell? ⟨g,9,none⟩=some u9)(h10:w.cell? ⟨g,10,none⟩=some u10)(h11:w.cell? ⟨g,11,none⟩=some u11):(execOp ρ o).run Tryz.prog w=.ok (.value (.agg #[u0,u1,u2,u3,u4,u5,u6,u7,u8,u9,u10,u11])) w:=by
 simp [execOp,ho,hx,go_sem,h0,h1,h2,h3,h4,h5,h6,h7,h8,h9,h10,h11]
end
structure WL (ops:Array Oper)(Q:Exit→Act→World→Prop)(l:List Oper)(a:Act)(w:World):Prop where
 out:wpList Tryz.prog ops Q l a w
theorem wp_region_W {id:Nat}{l:List Oper}{Q:Exit→Act→World→Prop}{a:Act}{w:World}(h:WL l.toArray Q l a w):(Code.region id l.toArray false).wp Tryz.prog Q a w:=wp_region_lit h.out
theorem l_nil {ops:Array Oper}{Q:Exit→Act→World→Prop}{a:Act}{w:World}(h:Q .normal a w):WL ops Q [] a w:=⟨h⟩
section
variable {ops:Array Oper}{Q:Exit→Act→World→Prop}{a:Act}{w w1:World}{rest:List Oper}{o:Oper}
theorem l_value (d:Nat)(v:Value)(hg:o.guard=none)(hd:o.dst=some d)(hrun:(execOp a.eval o).run Tryz.prog w=.ok (.value v) w1)(h:WL ops Q rest (a.put (some d) v) w1):WL ops Q (o :: rest) a w:=by
 refine ⟨wpList_plain hg (fun K hK=>?_)⟩
 unfold Oper.wp
 rw [hrun]
 show K (a.put o.dst v) w1
 rw [hd]
 exact hK _ _ h.out
theorem l_on (d:Nat)(v:Value)(hw:Region.wanted o (yielded ops a.tmps)=true)(hd:o.dst=some d)(hrun:(execOp a.eval o).run Tryz.prog w=.ok (.value v) w1)(h:WL ops Q rest (a.put (some d) v) w1):WL ops Q (o :: rest) a w:=by
 refine ⟨wpList_step (fun K hK=>?_)⟩
 rw [if_pos hw]
 unfold Oper.wp
 rw [hrun]
 show K (a.put o.dst v) w1
 rw [hd]
 exact hK _ _ h.out
theorem l_skip (hg:o.guard=none)(hd:o.dst=none)(hrun:(execOp a.eval o).run Tryz.prog w=.ok .skip w1)(h:WL ops Q rest a w1):WL ops Q (o :: rest) a w:=by
 refine ⟨wpList_plain hg (fun K hK=>?_)⟩
 unfold Oper.wp
 rw [hrun]
 show K (a.put o.dst undef) w1
 rw [hd]
 exact hK _ _ h.out
theorem l_call (d:Nat)(hg:o.guard=none)(hd:o.dst=some d)(f:FuncId)(xs:Array Operand)(ats:Array TypeId)(hop:o.op=Op.call { callee:=Callee.value (Operand.func f),args:=xs,argTypes:=ats })(fn:Func)(hf:Tryz.prog.funcs[f]?=some fn)(hn:(fn.name == "runtime.NumGoroutine")=false) (hb:fn.body.isNone=false) (vs:Array Value) (hv:xs.map a.eval=vs)
  (h:Calls Tryz.prog f vs w fun e w'=>∃ v,e=.returned v∧WL ops Q rest (a.put (some d) v) w'):WL ops Q (o :: rest) a w:=by
 refine ⟨wpList_step (fun K hK=>?_)⟩
 refine step_call hg f xs ats hop fn hf hn hb vs hv (h.mono ?_)
 rintro e w' ⟨v,rfl,h2⟩
 exact ⟨v,rfl,by rw [hd];exact hK _ _ h2.out⟩
theorem wanted_of {j d:Nat}{want b:Bool}(hg:o.guard=some (j,want))(hj:(ops[j]?).bind (fun x=>x.dst)=some d)(hd:d<a.tmps.size)(he:a.eval (.tmp d)=.bool b):Region.wanted o (yielded ops a.tmps)=(b == want):=by
 have h1:a.tmps[d]?=some (.bool b):=by
  have h2:a.tmps.getD d undef=.bool b:=he
  simp only [Array.getD,hd,dite_true] at h2
  rw [Array.getElem?_eq_getElem hd]
  exact congrArg some h2
 have h3:yielded ops a.tmps j=some b:=by
  unfold yielded
  rw [show ((ops[j]?).bind (fun x=>x.dst)).bind (fun x=>a.tmps[x]?)=some (.bool b) by rw [hj];exact h1]
 simp only [Region.wanted,hg,h3]
 cases b <;> cases want <;> rfl
theorem l_off (d gd:Nat){j:Nat}{want b:Bool}(hg:o.guard=some (j,want))(hj:(ops[j]?).bind (fun x=>x.dst)=some gd)(hs:gd<a.tmps.size)(he:a.eval (.tmp gd)=.bool b)(hb:(b == want)=false)(hd:o.dst=some d)(h:WL ops Q rest (a.put (some d) undef) w):WL ops Q (o :: rest) a w:=by
 refine ⟨wpList_skip (by rw [wanted_of hg hj hs he,hb]) ?_⟩
 rw [hd]
 exact h.out
theorem l_onG (d:Nat)(v:Value)(gd:Nat){j:Nat}{want b:Bool}(hg:o.guard=some (j,want))(hj:(ops[j]?).bind (fun x=>x.dst)=some gd)(hs:gd<a.tmps.size)(he:a.eval (.tmp gd)=.bool b)(hb:(b == want)=true)(hd:o.dst=some d)(hrun:(execOp a.eval o).run Tryz.prog w=.ok (.value v) w1)(h:WL ops Q rest (a.put (some d) v) w1):WL ops Q (o :: rest) a w :=
 l_on d v (by rw [wanted_of hg hj hs he,hb]) hd hrun h
theorem l_append (s x:Operand)(t:TypeId)(d:Nat)(hgd:o.guard=none)(hd:o.dst=some d)
  (ho:o.op=.call { callee:=.builtin .append,args:=#[s,x],argTypes:=#[t,t] })
  (base:Nat)(e:TypeId)(i:TypeInfo)(z:Value)(size bytes:Nat)(ht:Tryz.prog.underlying t=some (.slice e))(hi:Tryz.prog.info? e=some i)(hz:i.zero=some z)
  (hsize:i.size=size)(hby:i.bytes=bytes)(hzs:z.cells.size=size)(hsz:0<size)
  (v:Value)(n:Nat)(xs:List Value)(hs:a.eval s=v)(hown:w.ownsRow base e size v n xs)
  (S:Nat→Prop)(A:Option Addr)(m c:Nat)(news:List Value)(hx:a.eval x=.slice A m c)(hr:Sl w S size A m news)(h1:∀ u ∈ news,u.oneCell'=true)
  (h63:n+m≤1000000000000)(hbytes:(n+m)*bytes≤140737488355328)(hbase:base≤w.heap.size)
  (h:∀ v' w',w'.ownsRow base e size v' (n+m) (xs ++ news)→Fr (fun k=>some k=v.ownBlock) w w'→(v'.ownBlock=v.ownBlock∨v'.ownBlock=some w.heap.size)→WL ops Q rest (a.put (some d) v') w'):WL ops Q (o :: rest) a w :=
 ⟨wpList_append_sl w hgd s x t ho base e i z size bytes ht hi hz hsize hby hzs hsz v n xs hs hown S A m c news hx hr h1 h63 hbytes hbase (fun v' w' q1 q2 q3=>by rw [hd];exact (h v' w' q1 q2 q3).out)⟩
end
end Go.Proofs.YtkoeecdjijfjnaaGreat
