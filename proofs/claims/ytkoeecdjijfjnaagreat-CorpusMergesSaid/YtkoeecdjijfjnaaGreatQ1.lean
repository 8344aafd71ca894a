/- Contracts of functions, plain laws. Conditions: none. -/
import Derived.BigCall
import Derived.Deep.RegionLaw
import Derived.Test.YtkoeecdjijfjnaaGreatA1
set_option maxRecDepth 100000
set_option maxHeartbeats 8000000
namespace Go.Proofs.YtkoeecdjijfjnaaGreat
open Go.RowKit
structure aCl (w:World) where
 v:World
 h:Ext w v
instance (w:World):Nonempty (aCl w):=⟨⟨w,Ext.refl w⟩⟩
theorem kX {P:Program}{id:Nat}{Q:Exit->Act->World->Prop}{a:Act}{w:World}{l:List Oper}(hm:P.follows .mixedOrders=true)(hB:Region.lexB .any l.toArray=true)
  (h:wpQuiet P l.toArray (fun w'=>∃ p:aCl w,w'=p.v) (fun a'=>∀ w',(∃ p:aCl w,w'=p.v)->Q .normal a' w') l a):(Code.region id l.toArray true).wp P Q a w :=
 wp_region_quiet (C:=fun w'=>∃ p:aCl w,w'=p.v) hm hB ⟨⟨w.drew,(Ext.refl w).drew'⟩,rfl⟩ et
theorem aCl.cell {w:World}{b off:Nat}{u:Value}(h:w.cell? ⟨b,off,none⟩=some u)(p:aCl w):p.v.cell? ⟨b,off,none⟩=some u:=aA p.h h
theorem aKv {P:Program}{f:FuncId}{args:Array Value}{w:World}{p:aCl w}{v:Value}(h:Calls P f args p.v (cT v p.v)):Calls P f args p.v fun e w''=>e=.returned v∧∃ q:aCl w,w''=q.v :=
 h.mono fun _ _ ⟨he,hx⟩=>⟨he,⟨_,p.h.trans' hx⟩,rfl⟩
theorem uR {P:Program}{ops:Array Oper}{o:Oper}{a:Act}{w:World}{K:Act->World->Prop}{Q:Exit->Act->World->Prop}{E:Prop}(hg:o.guard=none)(f:FuncId)(xs:Array Operand)(ats:Array TypeId)
  (hop:o.op=Op.call { callee:=Callee.value (Operand.func f),args:=xs,argTypes:=ats })(fn:Func)(hf:P.funcs[f]?=some fn)(hn:(fn.name == "runtime.NumGoroutine")=false) (hb:fn.body.isNone=false) (vs:Array Value) (hv:xs.map a.eval=vs) (h:Calls P f vs w fun e w'=>∃ v,e=.returned v∧K (a.put o.dst v) w') :
  if Region.wanted o (yielded ops a.tmps)=true then Oper.wp P o a w K Q else E:=by
 have hw:Region.wanted o (yielded ops a.tmps)=true:=ct
 rw [if_pos hw];unfold Oper.wp;obtain ⟨dst,op,ty,pos,after,guard⟩:=o;simp only at hop;subst hop;rw [execOp_call_go,hv];subst hv;have hp:Sem.run P program w=.ok P w:=rfl;simp only [callFunc,Array.append_empty,Array.empty_append,Sem.run_bind,hp,Result.andThen_ok,hf,hn,hb,Bool.false_eq_true,if_false,Sem.run_pure,Oper.upon];refine h.mono ?_;rintro e w' ⟨v,rfl,hk⟩;exact hk
end Go.Proofs.YtkoeecdjijfjnaaGreat
