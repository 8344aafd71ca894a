/- A region that draws its order and only reads, against a frame that is a variable. Conditions: none. -/
import Derived.Test.YtkoeecdjijfjnaaGreatAX
namespace Go.Proofs.YtkoeecdjijfjnaaGreat
open Go.RowKit
structure WQ (ops:Array Oper)(C:World→Prop)(K:Act→Prop)(l:List Oper)(a:Act):Prop where
 out:wpQuiet Tryz.prog ops C K l a
section
variable {ops:Array Oper}{C:World→Prop}{K:Act→Prop}{a:Act}{rest:List Oper}{o:Oper}
theorem wp_region_Q {id:Nat}{Q:Exit→Act→World→Prop}{w:World}{l:List Oper}(C:World→Prop)(hm:Tryz.prog.follows .mixedOrders=true)(hB:Region.lexB .any l.toArray=true)(hC:C w.drew)
  (h:WQ l.toArray C (fun a'=>∀ w',C w'→Q .normal a' w') l a):(Code.region id l.toArray true).wp Tryz.prog Q a w :=
 wp_region_quiet (C:=C) hm hB hC (by simpa using h.out)
theorem q_nil (h:K a):WQ ops C K [] a:=⟨h⟩
theorem q_at (d:Nat)(v:Value)(hw:Region.wanted o (yielded ops a.tmps)=true)(hd:o.dst=some d)(hrun:∀ w,C w→o.quietAt Tryz.prog a C w v)(h:WQ ops C K rest (a.put (some d) v)):WQ ops C K (o :: rest) a:=by
 refine ⟨Go.BigFrame.wpQuiet_want hw (fun K hK=>⟨v,hrun,?_⟩)⟩
 rw [hd]
 exact hK _ h.out
theorem quiet_val {v:Value}{w:World}(h:(execOp a.eval o).run Tryz.prog w=.ok (.value v) w):o.quietAt Tryz.prog a C w v:=by
 unfold Oper.quietAt
 rw [h]
 exact ⟨rfl,rfl⟩
theorem q_value (d:Nat)(v:Value)(hg:o.guard=none)(hd:o.dst=some d)(hrun:∀ w,C w→(execOp a.eval o).run Tryz.prog w=.ok (.value v) w)(h:WQ ops C K rest (a.put (some d) v)):WQ ops C K (o :: rest) a :=
 q_at d v (by simp [Region.wanted,hg]) hd (fun w hw=>quiet_val (hrun w hw)) h
theorem q_onG (d:Nat)(v:Value)(gd:Nat){j:Nat}{want b:Bool}(hg:o.guard=some (j,want))(hj:(ops[j]?).bind (fun x=>x.dst)=some gd)(hs:gd<a.tmps.size)(he:a.eval (.tmp gd)=.bool b)(hb:(b == want)=true)(hd:o.dst=some d)(hrun:∀ w,C w→(execOp a.eval o).run Tryz.prog w=.ok (.value v) w)(h:WQ ops C K rest (a.put (some d) v)):WQ ops C K (o :: rest) a :=
 q_at d v (by rw [wanted_of hg hj hs he,hb]) hd (fun w hw=>quiet_val (hrun w hw)) h
theorem q_off (d gd:Nat){j:Nat}{want b:Bool}(hg:o.guard=some (j,want))(hj:(ops[j]?).bind (fun x=>x.dst)=some gd)(hs:gd<a.tmps.size)(he:a.eval (.tmp gd)=.bool b)(hb:(b == want)=false)(hd:o.dst=some d)(h:WQ ops C K rest (a.put (some d) undef)):WQ ops C K (o :: rest) a:=by
 refine ⟨Go.BigFrame.wpQuiet_skip (by rw [wanted_of hg hj hs he,hb]) ?_⟩
 rw [hd]
 exact h.out
theorem quiet_go {v:Value}{w:World}(f:FuncId)(xs:Array Operand)(ats:Array TypeId)(hop:o.op=Op.call { callee:=Callee.value (Operand.func f),args:=xs,argTypes:=ats })(fn:Func)(hf:Tryz.prog.funcs[f]?=some fn)(hn:(fn.name == "runtime.NumGoroutine")=false) (hb:fn.body.isNone=false) (vs:Array Value) (hv:xs.map a.eval=vs)
  (h:Calls Tryz.prog f vs w fun e w'=>e=.returned v∧C w'):o.quietAt Tryz.prog a C w v:=by
 unfold Oper.quietAt
 obtain ⟨dst,op,ty,pos,after,guard⟩:=o
 simp only at hop
 subst hop
 rw [execOp_call_go,hv]
 subst hv
 have hp:Sem.run Tryz.prog program w=.ok Tryz.prog w:=rfl
 simp only [callFunc,Array.append_empty,Array.empty_append,Sem.run_bind,hp,Result.andThen_ok,hf,hn,hb,Bool.false_eq_true,if_false,Sem.run_pure,Oper.quietUpon]
 exact ⟨trivial,h⟩
theorem q_call (d:Nat)(v:Value)(hg:o.guard=none)(hd:o.dst=some d)(f:FuncId)(xs:Array Operand)(ats:Array TypeId)(hop:o.op=Op.call { callee:=Callee.value (Operand.func f),args:=xs,argTypes:=ats })(fn:Func)(hf:Tryz.prog.funcs[f]?=some fn)(hn:(fn.name == "runtime.NumGoroutine")=false) (hb:fn.body.isNone=false) (vs:Array Value) (hv:xs.map a.eval=vs)
  (hc:∀ w,C w→Calls Tryz.prog f vs w fun e w'=>e=.returned v∧C w')(h:WQ ops C K rest (a.put (some d) v)):WQ ops C K (o :: rest) a :=
 q_at d v (by simp [Region.wanted,hg]) hd (fun w hw=>quiet_go f xs ats hop fn hf hn hb vs hv (hc w hw)) h
theorem q_callG (d:Nat)(v:Value)(gd:Nat){j:Nat}{want b:Bool}(hg:o.guard=some (j,want))(hj:(ops[j]?).bind (fun x=>x.dst)=some gd)(hs:gd<a.tmps.size)(he:a.eval (.tmp gd)=.bool b)(hbw:(b == want)=true)(hd:o.dst=some d)(f:FuncId)(xs:Array Operand)(ats:Array TypeId)(hop:o.op=Op.call { callee:=Callee.value (Operand.func f),args:=xs,argTypes:=ats })(fn:Func)(hf:Tryz.prog.funcs[f]?=some fn)(hn:(fn.name == "runtime.NumGoroutine")=false) (hb:fn.body.isNone=false) (vs:Array Value) (hv:xs.map a.eval=vs)
  (hc:∀ w,C w→Calls Tryz.prog f vs w fun e w'=>e=.returned v∧C w')(h:WQ ops C K rest (a.put (some d) v)):WQ ops C K (o :: rest) a :=
 q_at d v (by rw [wanted_of hg hj hs he,hbw]) hd (fun w hw=>quiet_go f xs ats hop fn hf hn hb vs hv (hc w hw)) h
end
end Go.Proofs.YtkoeecdjijfjnaaGreat
