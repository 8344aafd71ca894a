/- Contracts of functions, plain laws. Conditions: none. -/
import Derived.Test.YtkoeecdjijfjnaaGreatSD
set_option maxRecDepth 100000
set_option maxHeartbeats 8000000
namespace Go.Proofs.YtkoeecdjijfjnaaGreat
open Go.RowKit
def Iv (b:Bool)(v:Value):Value:=cond b v undef
@[simp] theorem aZu (v:Value):Iv true v=v:=rfl
@[simp] theorem aXr (a:Act) (f:FuncId):Ev a (.func f)=.func (.func f) #[] #[]:=rfl
theorem aE5 {a:Act}{dst:Option Tmp}{y:Operand}{xs:Array Operand}{ats:Array TypeId}{ty:TypeId}{pos:String}{after:Array Edge}{guard:Option (Nat × Bool)}{f:FuncId}(hy:a.eval y=.func (.func f) #[] #[]) :
  execOp a.eval { dst,op:=.call { callee:=.value y,args:=xs,argTypes:=ats },type:=ty,pos,after,guard }=callFunc f (#[] ++ xs.map a.eval ++ #[]):=by
 rw [show execOp a.eval { dst,op:=.call { callee:=.value y,args:=xs,argTypes:=ats },type:=ty,pos,after,guard }=(do let d <- Deferred.ofValue (a.eval y) (xs.map a.eval);invoke d.target d.args) from rfl,hy]
 rfl
section
variable {ops:Array Oper}{C:World->Prop}{a:Act}{rest:List Oper}{o:Oper}{d gd j:Nat}{v:Value}{b:Bool}{w:World}{y:Operand}{f:FuncId}{xs:Array Operand}{ats:Array TypeId}{fn:Func}{vs:Array Value}
theorem aH7 (hop:o.op=Op.call { callee:=Callee.value y,args:=xs,argTypes:=ats })(hy:Ev a y=.func (.func f) #[] #[])(hf:Tryz.prog.funcs[f]?=some fn)(hn:(fn.name == "runtime.NumGoroutine")=false) (hb:fn.body.isNone=false) (hv:xs.map (Ev a)=vs)
  (h:Calls Tryz.prog f vs w fun e w'=>e=.returned v∧C w'):o.quietAt Tryz.prog a C w v:=by
 unfold Oper.quietAt;obtain ⟨dst,op,ty,pos,after,guard⟩:=o;simp only at hop;subst hop;subst hv;rw [aE5 hy];have hp:Sem.run Tryz.prog program w=.ok Tryz.prog w:=rfl;simp only [callFunc,Array.append_empty,Array.empty_append,Sem.run_bind,hp,Result.andThen_ok,hf,hn,hb,Bool.false_eq_true,if_false,Sem.run_pure,Oper.quietUpon];exact ⟨trivial,h⟩
theorem q_f {K:Act->Prop}(hg:o.guard=none)(hd:o.dst=some d)(hop:o.op=Op.call { callee:=Callee.value y,args:=xs,argTypes:=ats })(hy:Ev a y=.func (.func f) #[] #[])(hf:Tryz.prog.funcs[f]?=some fn)(hn:(fn.name == "runtime.NumGoroutine")=false) (hb:fn.body.isNone=false)
  (hc:∀ w,C w->Calls Tryz.prog f vs w fun e w'=>e=.returned v∧C w')(hv:xs.map (Ev a)=vs)(h:WQ ops C K rest (Pt a d v)):WQ ops C K (o :: rest) a :=
 aSx d v ct hd (fun w hw=>aH7 hop hy hf hn hb hv (hc w hw)) h
theorem aQa {K:Act->World->Prop}{Q:Exit->Act->World->Prop}(hop:o.op=Op.call { callee:=Callee.value y,args:=xs,argTypes:=ats })(hy:Ev a y=.func (.func f) #[] #[])(hf:Tryz.prog.funcs[f]?=some fn)(hn:(fn.name == "runtime.NumGoroutine")=false) (hb:fn.body.isNone=false) (hv:xs.map (Ev a)=vs)
  (h:Calls Tryz.prog f vs w fun e w'=>∃ v,e=.returned v∧K (a.put o.dst v) w'):Oper.wp Tryz.prog o a w K Q:=by
 unfold Oper.wp;obtain ⟨dst,op,ty,pos,after,guard⟩:=o;simp only at hop;subst hop;subst hv;rw [aE5 hy];have hp:Sem.run Tryz.prog program w=.ok Tryz.prog w:=rfl;simp only [callFunc,Array.append_empty,Array.empty_append,Sem.run_bind,hp,Result.andThen_ok,hf,hn,hb,Bool.false_eq_true,if_false,Sem.run_pure,Oper.upon];refine h.mono ?_;rintro e w' ⟨v,rfl,hk⟩;exact hk
structure WX (ops:Array Oper)(w:World)(Q:Exit->Act->World->Prop)(l:List Oper)(a:Act):Prop where
 out:∀ w',Ext w w'->WL ops Q l a w'
variable {Q:Exit->Act->World->Prop}
theorem xF {id:Nat}{l:List Oper}(h:WX l.toArray w Q l a):(Code.region id l.toArray false).wp Tryz.prog Q a w:=oC (h.out w (Ext.refl w))
theorem rX {id:Nat}{l:List Oper}{c:Code}(h:WX l.toArray w Q l a)(hc:c=.region id l.toArray false:=by exact rfl):Code.wp Tryz.prog c Q a w:=by
 subst hc;exact xF h
theorem aA2 (h:∀ w',Ext w w'->Q .normal a w'):WX ops w Q [] a:=⟨fun w' hw=>aJ (h w' hw)⟩
theorem x_v (hg:o.guard=none)(hd:o.dst=some d)(hrun:∀ w',Ext w w'->(execOp (Ev a) o).run Tryz.prog w'=.ok (.value v) w')(h:WX ops w Q rest (Pt a d v)):WX ops w Q (o :: rest) a:=⟨fun w' hw=>l_v hg hd (hrun w' hw) (h.out w' hw)⟩
theorem uG (hg:o.guard=some (j,true))(hj:(ops[j]?).bind (fun x=>x.dst)=some gd)(hd:o.dst=some d)(hs:gd<a.tmps.size)(he:Ev a (.tmp gd)=.bool b)(hrun:b=true->∀ w',Ext w w'->(execOp (Ev a) o).run Tryz.prog w'=.ok (.value v) w')(h:WX ops w Q rest (Pt a d (Iv b v))):WX ops w Q (o :: rest) a:=by
 refine ⟨fun w' hw=>?_⟩
 cases b
 ·exact ⟨wpList_skip (by rw [dJ hg hj hs he];rfl) (by rw [hd];exact (h.out w' hw).out)⟩
 ·exact ⟨(aO0 d v gd hg hj hs he rfl hd (hrun rfl w' hw) (h.out w' hw)).out⟩
theorem x_p {x z:Operand}{c:Bool}(hg:o.guard=none)(hd:o.dst=some d)(hop:o.op=.pick x z (.const (.bool false)))(hx:Ev a x=.bool b)(hz:Ev a z=Iv b (.bool c))(h:WX ops w Q rest (Pt a d (.bool (b && c)))):WX ops w Q (o :: rest) a :=
 x_v hg hd (fun w' _=>by cases b <;> simp [execOp,hop,hx,hz,go_sem,Iv]) h
theorem x_c (hg:o.guard=none)(hd:o.dst=some d)(hop:o.op=Op.call { callee:=Callee.value y,args:=xs,argTypes:=ats })(hy:Ev a y=.func (.func f) #[] #[])(hf:Tryz.prog.funcs[f]?=some fn)(hn:(fn.name == "runtime.NumGoroutine")=false) (hb:fn.body.isNone=false)
  (hc:∀ w',Ext w w'->Calls Tryz.prog f vs w' fun e w2=>e=.returned v∧Ext w w2)(hv:xs.map (Ev a)=vs)(h:WX ops w Q rest (Pt a d v)):WX ops w Q (o :: rest) a:=by
 refine ⟨fun w' hw=>⟨wpList_plain hg (fun K hK=>aQa hop hy hf hn hb hv ((hc w' hw).mono ?_))⟩⟩;rintro e w2 ⟨rfl,h2⟩;refine ⟨v,rfl,?_⟩;rw [hd];exact hK _ _ (h.out w2 h2).out
theorem aP8 (hg:o.guard=some (j,true))(hj:(ops[j]?).bind (fun x=>x.dst)=some gd)(hd:o.dst=some d)(hs:gd<a.tmps.size)(he:Ev a (.tmp gd)=.bool b)(hop:o.op=Op.call { callee:=Callee.value y,args:=xs,argTypes:=ats })(hf:Tryz.prog.funcs[f]?=some fn)(hn:(fn.name == "runtime.NumGoroutine")=false) (hb:fn.body.isNone=false)
  (hc:∀ w',Ext w w'->Calls Tryz.prog f vs w' fun e w2=>e=.returned v∧Ext w w2)(hy:b=true->Ev a y=.func (.func f) #[] #[])(hv:b=true->xs.map (Ev a)=vs)(h:WX ops w Q rest (Pt a d (Iv b v))):WX ops w Q (o :: rest) a:=by
 refine ⟨fun w' hw=>?_⟩
 cases b
 ·exact ⟨wpList_skip (by rw [dJ hg hj hs he];rfl) (by rw [hd];exact (h.out w' hw).out)⟩
 ·have hw1:Region.wanted o (yielded ops a.tmps)=true:=by rw [dJ hg hj hs he];rfl
  refine ⟨wpList_step (fun K hK=>?_)⟩;rw [if_pos hw1];refine aQa hop (hy rfl) hf hn hb (hv rfl) ((hc w' hw).mono ?_);rintro e w2 ⟨rfl,h2⟩;refine ⟨v,rfl,?_⟩;rw [hd];exact hK _ _ (h.out w2 h2).out
end
end Go.Proofs.YtkoeecdjijfjnaaGreat
