/- Contracts and laws. Conditions: none. -/
import Derived.Test.YtkoeecdjijfjnaaGreatDoorRD
set_option linter.all false
set_option maxRecDepth 100000
set_option maxHeartbeats 8000000
namespace Go.Proofs.YtkoeecdjijfjnaaGreatDoor
open Go.RowKit
theorem xD {k:Nat}(h:k<=1000000000):IntKind.i64.wrap ((k:Int)+1)=(k:Int)+1:=IntWalk.i64_in _ I
def Ev (a:Act):Operand->Value:=a.eval
inductive Zq6 (a:Act)(t:Nat)(v:Value)|z
abbrev qq (a:Act)(t:Nat)(v:Value):Zq6 a t v:=.z
instance {a:Act}{t:Nat}{v:Value}:CoeSort (Zq6 a t v) Prop:=⟨fun _=>Ev a (.tmp t)=v⟩
instance {a:Act}{t:Nat}{v:Value}:CoeOut (Zq6 a t v) Prop:=⟨fun _=>Ev a (.tmp t)=v⟩
def Pt (a:Act)(d:Nat)(v:Value):Act:=a.put (some d) v
@[simp] theorem MB (a:Act) (v:Value):Ev a (.const v)=v:=rfl
@[simp] theorem zR (a:Act) (d e:Nat) (v:Value):Ev (Pt a d v) (.tmp e)=if d=e then (if d<a.tmps.size then v else undef) else Ev a (.tmp e):=vp a d e v
@[simp] theorem ql (a:Act) (d:Nat) (v:Value):(Pt a d v).tmps.size=a.tmps.size:=zp a d v
structure Ag (l:List Nat)(a a':Act):Prop where
 sz:a'.tmps.size=a.tmps.size
 df:a'.defers=a.defers
 ev:∀ t ∈ l,qq a' t (Ev a (.tmp t))
section
variable {l:List Nat}{a a' a'':Act}{d:Nat}{v:Value}
theorem Ag.rf:Ag l a a:=⟨rfl,rfl,fun _ _=>rfl⟩
theorem Ag.put (h:Ag l a a')(hd:l.contains d=false):Ag l a (Pt a' d v) :=
 ⟨by rw [ql];exact h.sz,h.df,fun t ht=>by
  rw [zR,if_neg (fun e=>by subst e;simp [ht] at hd)];exact h.ev t ht⟩
theorem Ag.get (h:Ag l a a')(t:Nat)(e:qq a t v)(ht:l.contains t=true:=by rfl):qq a' t v:=by
 rw [h.ev t (by simpa using ht)];exact e
theorem Ag.trans (h:Ag l a a')(h':Ag l a' a''):Ag l a a'':=⟨h'.sz.trans h.sz,h'.df.trans h.df,fun t ht=>(h'.ev t ht).trans (h.ev t ht)⟩
theorem Ag.mono {l l':List Nat}{a a':Act}(h:Ag l a a')(hl:l'.all l.contains=true):Ag l' a a':=⟨h.sz,h.df,fun t ht=>h.ev t (by simpa using List.all_eq_true.1 hl t ht)⟩
theorem Ag.b1 {l:List Nat}{a c:Act}{p:Prop}{n t0:Nat}{v0:Value}(h:Ag l a c)(s:a.tmps.size=n)(e0:Ev a (.tmp t0)=v0)(k:c.tmps.size=n->Ev c (.tmp t0)=v0->p)(h0:l.contains t0=true:=by rfl):p:=k (h.sz.trans s) (h.get _ e0 h0)
theorem Ag.b2 {l:List Nat}{a c:Act}{p:Prop}{n t0 t1:Nat}{v0 v1:Value}(h:Ag l a c)(s:a.tmps.size=n)(e0:Ev a (.tmp t0)=v0)(e1:Ev a (.tmp t1)=v1)(k:c.tmps.size=n->Ev c (.tmp t0)=v0->Ev c (.tmp t1)=v1->p)(h0:l.contains t0=true:=by rfl)(h1:l.contains t1=true:=by rfl):p:=k (h.sz.trans s) (h.get _ e0 h0) (h.get _ e1 h1)
theorem Ag.b3 {l:List Nat}{a c:Act}{p:Prop}{n t0 t1 t2:Nat}{v0 v1 v2:Value}(h:Ag l a c)(s:a.tmps.size=n)(e0:Ev a (.tmp t0)=v0)(e1:Ev a (.tmp t1)=v1)(e2:Ev a (.tmp t2)=v2)(k:c.tmps.size=n->Ev c (.tmp t0)=v0->Ev c (.tmp t1)=v1->Ev c (.tmp t2)=v2->p)(h0:l.contains t0=true:=by rfl)(h1:l.contains t1=true:=by rfl)(h2:l.contains t2=true:=by rfl):p:=k (h.sz.trans s) (h.get _ e0 h0) (h.get _ e1 h1) (h.get _ e2 h2)
theorem Ag.b4 {l:List Nat}{a c:Act}{p:Prop}{n t0 t1 t2 t3:Nat}{v0 v1 v2 v3:Value}(h:Ag l a c)(s:a.tmps.size=n)(e0:Ev a (.tmp t0)=v0)(e1:Ev a (.tmp t1)=v1)(e2:Ev a (.tmp t2)=v2)(e3:Ev a (.tmp t3)=v3)(k:c.tmps.size=n->Ev c (.tmp t0)=v0->Ev c (.tmp t1)=v1->Ev c (.tmp t2)=v2->Ev c (.tmp t3)=v3->p)(h0:l.contains t0=true:=by rfl)(h1:l.contains t1=true:=by rfl)(h2:l.contains t2=true:=by rfl)(h3:l.contains t3=true:=by rfl):p:=k (h.sz.trans s) (h.get _ e0 h0) (h.get _ e1 h1) (h.get _ e2 h2) (h.get _ e3 h3)
theorem Ag.b5 {l:List Nat}{a c:Act}{p:Prop}{n t0 t1 t2 t3 t4:Nat}{v0 v1 v2 v3 v4:Value}(h:Ag l a c)(s:a.tmps.size=n)(e0:Ev a (.tmp t0)=v0)(e1:Ev a (.tmp t1)=v1)(e2:Ev a (.tmp t2)=v2)(e3:Ev a (.tmp t3)=v3)(e4:Ev a (.tmp t4)=v4)(k:c.tmps.size=n->Ev c (.tmp t0)=v0->Ev c (.tmp t1)=v1->Ev c (.tmp t2)=v2->Ev c (.tmp t3)=v3->Ev c (.tmp t4)=v4->p)(h0:l.contains t0=true:=by rfl)(h1:l.contains t1=true:=by rfl)(h2:l.contains t2=true:=by rfl)(h3:l.contains t3=true:=by rfl)(h4:l.contains t4=true:=by rfl):p:=k (h.sz.trans s) (h.get _ e0 h0) (h.get _ e1 h1) (h.get _ e2 h2) (h.get _ e3 h3) (h.get _ e4 h4)
theorem Ag.b6 {l:List Nat}{a c:Act}{p:Prop}{n t0 t1 t2 t3 t4 t5:Nat}{v0 v1 v2 v3 v4 v5:Value}(h:Ag l a c)(s:a.tmps.size=n)(e0:Ev a (.tmp t0)=v0)(e1:Ev a (.tmp t1)=v1)(e2:Ev a (.tmp t2)=v2)(e3:Ev a (.tmp t3)=v3)(e4:Ev a (.tmp t4)=v4)(e5:Ev a (.tmp t5)=v5)(k:c.tmps.size=n->Ev c (.tmp t0)=v0->Ev c (.tmp t1)=v1->Ev c (.tmp t2)=v2->Ev c (.tmp t3)=v3->Ev c (.tmp t4)=v4->Ev c (.tmp t5)=v5->p)(h0:l.contains t0=true:=by rfl)(h1:l.contains t1=true:=by rfl)(h2:l.contains t2=true:=by rfl)(h3:l.contains t3=true:=by rfl)(h4:l.contains t4=true:=by rfl)(h5:l.contains t5=true:=by rfl):p:=k (h.sz.trans s) (h.get _ e0 h0) (h.get _ e1 h1) (h.get _ e2 h2) (h.get _ e3 h3) (h.get _ e4 h4) (h.get _ e5 h5)
theorem Ag.c0 {l:List Nat}{a c:Act}{p:Prop}{n:Nat}{D:List Deferred}(h:Ag l a c)(s:a.tmps.size=n)(d:a.defers=D)(k:c.tmps.size=n->c.defers=D->p):p:=k (h.sz.trans s) (h.df.trans d)
theorem Ag.c1 {l:List Nat}{a c:Act}{p:Prop}{n t0:Nat}{D:List Deferred}{v0:Value}(h:Ag l a c)(s:a.tmps.size=n)(d:a.defers=D)(e0:Ev a (.tmp t0)=v0)(k:c.tmps.size=n->c.defers=D->Ev c (.tmp t0)=v0->p)(h0:l.contains t0=true:=by rfl):p:=k (h.sz.trans s) (h.df.trans d) (h.get _ e0 h0)
theorem Ag.c2 {l:List Nat}{a c:Act}{p:Prop}{n t0 t1:Nat}{D:List Deferred}{v0 v1:Value}(h:Ag l a c)(s:a.tmps.size=n)(d:a.defers=D)(e0:Ev a (.tmp t0)=v0)(e1:Ev a (.tmp t1)=v1)(k:c.tmps.size=n->c.defers=D->Ev c (.tmp t0)=v0->Ev c (.tmp t1)=v1->p)(h0:l.contains t0=true:=by rfl)(h1:l.contains t1=true:=by rfl):p:=k (h.sz.trans s) (h.df.trans d) (h.get _ e0 h0) (h.get _ e1 h1)
theorem Ag.c3 {l:List Nat}{a c:Act}{p:Prop}{n t0 t1 t2:Nat}{D:List Deferred}{v0 v1 v2:Value}(h:Ag l a c)(s:a.tmps.size=n)(d:a.defers=D)(e0:Ev a (.tmp t0)=v0)(e1:Ev a (.tmp t1)=v1)(e2:Ev a (.tmp t2)=v2)(k:c.tmps.size=n->c.defers=D->Ev c (.tmp t0)=v0->Ev c (.tmp t1)=v1->Ev c (.tmp t2)=v2->p)(h0:l.contains t0=true:=by rfl)(h1:l.contains t1=true:=by rfl)(h2:l.contains t2=true:=by rfl):p:=k (h.sz.trans s) (h.df.trans d) (h.get _ e0 h0) (h.get _ e1 h1) (h.get _ e2 h2)
theorem Ag.c4 {l:List Nat}{a c:Act}{p:Prop}{n t0 t1 t2 t3:Nat}{D:List Deferred}{v0 v1 v2 v3:Value}(h:Ag l a c)(s:a.tmps.size=n)(d:a.defers=D)(e0:Ev a (.tmp t0)=v0)(e1:Ev a (.tmp t1)=v1)(e2:Ev a (.tmp t2)=v2)(e3:Ev a (.tmp t3)=v3)(k:c.tmps.size=n->c.defers=D->Ev c (.tmp t0)=v0->Ev c (.tmp t1)=v1->Ev c (.tmp t2)=v2->Ev c (.tmp t3)=v3->p)(h0:l.contains t0=true:=by rfl)(h1:l.contains t1=true:=by rfl)(h2:l.contains t2=true:=by rfl)(h3:l.contains t3=true:=by rfl):p:=k (h.sz.trans s) (h.df.trans d) (h.get _ e0 h0) (h.get _ e1 h1) (h.get _ e2 h2) (h.get _ e3 h3)
theorem Ag.c5 {l:List Nat}{a c:Act}{p:Prop}{n t0 t1 t2 t3 t4:Nat}{D:List Deferred}{v0 v1 v2 v3 v4:Value}(h:Ag l a c)(s:a.tmps.size=n)(d:a.defers=D)(e0:Ev a (.tmp t0)=v0)(e1:Ev a (.tmp t1)=v1)(e2:Ev a (.tmp t2)=v2)(e3:Ev a (.tmp t3)=v3)(e4:Ev a (.tmp t4)=v4)(k:c.tmps.size=n->c.defers=D->Ev c (.tmp t0)=v0->Ev c (.tmp t1)=v1->Ev c (.tmp t2)=v2->Ev c (.tmp t3)=v3->Ev c (.tmp t4)=v4->p)(h0:l.contains t0=true:=by rfl)(h1:l.contains t1=true:=by rfl)(h2:l.contains t2=true:=by rfl)(h3:l.contains t3=true:=by rfl)(h4:l.contains t4=true:=by rfl):p:=k (h.sz.trans s) (h.df.trans d) (h.get _ e0 h0) (h.get _ e1 h1) (h.get _ e2 h2) (h.get _ e3 h3) (h.get _ e4 h4)
theorem Ag.c6 {l:List Nat}{a c:Act}{p:Prop}{n t0 t1 t2 t3 t4 t5:Nat}{D:List Deferred}{v0 v1 v2 v3 v4 v5:Value}(h:Ag l a c)(s:a.tmps.size=n)(d:a.defers=D)(e0:Ev a (.tmp t0)=v0)(e1:Ev a (.tmp t1)=v1)(e2:Ev a (.tmp t2)=v2)(e3:Ev a (.tmp t3)=v3)(e4:Ev a (.tmp t4)=v4)(e5:Ev a (.tmp t5)=v5)(k:c.tmps.size=n->c.defers=D->Ev c (.tmp t0)=v0->Ev c (.tmp t1)=v1->Ev c (.tmp t2)=v2->Ev c (.tmp t3)=v3->Ev c (.tmp t4)=v4->Ev c (.tmp t5)=v5->p)(h0:l.contains t0=true:=by rfl)(h1:l.contains t1=true:=by rfl)(h2:l.contains t2=true:=by rfl)(h3:l.contains t3=true:=by rfl)(h4:l.contains t4=true:=by rfl)(h5:l.contains t5=true:=by rfl):p:=k (h.sz.trans s) (h.df.trans d) (h.get _ e0 h0) (h.get _ e1 h1) (h.get _ e2 h2) (h.get _ e3 h3) (h.get _ e4 h4) (h.get _ e5 h5)
theorem Ag.c7 {l:List Nat}{a c:Act}{p:Prop}{n t0 t1 t2 t3 t4 t5 t6:Nat}{D:List Deferred}{v0 v1 v2 v3 v4 v5 v6:Value}(h:Ag l a c)(s:a.tmps.size=n)(d:a.defers=D)(e0:Ev a (.tmp t0)=v0)(e1:Ev a (.tmp t1)=v1)(e2:Ev a (.tmp t2)=v2)(e3:Ev a (.tmp t3)=v3)(e4:Ev a (.tmp t4)=v4)(e5:Ev a (.tmp t5)=v5)(e6:Ev a (.tmp t6)=v6)(k:c.tmps.size=n->c.defers=D->Ev c (.tmp t0)=v0->Ev c (.tmp t1)=v1->Ev c (.tmp t2)=v2->Ev c (.tmp t3)=v3->Ev c (.tmp t4)=v4->Ev c (.tmp t5)=v5->Ev c (.tmp t6)=v6->p)(h0:l.contains t0=true:=by rfl)(h1:l.contains t1=true:=by rfl)(h2:l.contains t2=true:=by rfl)(h3:l.contains t3=true:=by rfl)(h4:l.contains t4=true:=by rfl)(h5:l.contains t5=true:=by rfl)(h6:l.contains t6=true:=by rfl):p:=k (h.sz.trans s) (h.df.trans d) (h.get _ e0 h0) (h.get _ e1 h1) (h.get _ e2 h2) (h.get _ e3 h3) (h.get _ e4 h4) (h.get _ e5 h5) (h.get _ e6 h6)
theorem Ag.c8 {l:List Nat}{a c:Act}{p:Prop}{n t0 t1 t2 t3 t4 t5 t6 t7:Nat}{D:List Deferred}{v0 v1 v2 v3 v4 v5 v6 v7:Value}(h:Ag l a c)(s:a.tmps.size=n)(d:a.defers=D)(e0:Ev a (.tmp t0)=v0)(e1:Ev a (.tmp t1)=v1)(e2:Ev a (.tmp t2)=v2)(e3:Ev a (.tmp t3)=v3)(e4:Ev a (.tmp t4)=v4)(e5:Ev a (.tmp t5)=v5)(e6:Ev a (.tmp t6)=v6)(e7:Ev a (.tmp t7)=v7)(k:c.tmps.size=n->c.defers=D->Ev c (.tmp t0)=v0->Ev c (.tmp t1)=v1->Ev c (.tmp t2)=v2->Ev c (.tmp t3)=v3->Ev c (.tmp t4)=v4->Ev c (.tmp t5)=v5->Ev c (.tmp t6)=v6->Ev c (.tmp t7)=v7->p)(h0:l.contains t0=true:=by rfl)(h1:l.contains t1=true:=by rfl)(h2:l.contains t2=true:=by rfl)(h3:l.contains t3=true:=by rfl)(h4:l.contains t4=true:=by rfl)(h5:l.contains t5=true:=by rfl)(h6:l.contains t6=true:=by rfl)(h7:l.contains t7=true:=by rfl):p:=k (h.sz.trans s) (h.df.trans d) (h.get _ e0 h0) (h.get _ e1 h1) (h.get _ e2 h2) (h.get _ e3 h3) (h.get _ e4 h4) (h.get _ e5 h5) (h.get _ e6 h6) (h.get _ e7 h7)
end
section
variable {ops:Array Oper}{Q:Exit->Act->World->Prop}{a:Act}{w w1:World}{rest:List Oper}{o:Oper}{d:Nat}{v:Value}
theorem l_v (hg:o.guard=none)(hd:o.dst=some d)(hrun:(execOp (Ev a) o).run Tryz.prog w=.ok (.value v) w1)(h:WL ops Q rest (Pt a d v) w1):WL ops Q (o :: rest) a w:=D4 d v hg hd hrun h
theorem lV (h:WL ops Q rest (Pt a d v) w1)(hg:o.guard=none:=by exact rfl)(hd:o.dst=some d:=by exact rfl)(hrun:(execOp (Ev a) o).run Tryz.prog w=.ok (.value v) w1:=by simp [execOp,go_sem, *];exact ⟨rfl,rfl⟩):WL ops Q (o :: rest) a w:=l_v hg hd hrun h
theorem l_s (hg:o.guard=none)(hd:o.dst=none)(hrun:(execOp (Ev a) o).run Tryz.prog w=.ok .skip w1)(h:WL ops Q rest a w1):WL ops Q (o :: rest) a w:=Ep hg hd hrun h
theorem l_a {s x:Operand}{t e:TypeId}{z:Value}{size bytes:Nat}(hg:o.guard=none)(hd:o.dst=some d)(ho:o.op=.call { callee:=.builtin .append,args:=#[s,x],argTypes:=#[t,t] })(ht:Tryz.prog.underlying t=some (.slice e))(hI:(Tryz.prog.info? e).map (fun i=>(i.zero,i.size,i.bytes))=some (some z,size,bytes))(hzs:z.cells.size=size)(hsz:0<size)
  {base n:Nat}{v:Value}{xs:List Value} (hown:w.ownsRow base e size v n xs) {S:Nat->Prop}{A:Option Addr}{m c:Nat}{news:List Value} (hsl:Sl w S size A m news) (hs:Ev a s=v) (hx:Ev a x=.slice A m c) (h1:∀ u ∈ news,u.oneCell'=true) (h63:n+m<=1000000000000) (hbytes:(n+m)*bytes<=140737488355328) (hbase:base<=w)
  (h:∀ v' w',w'.ownsRow base e size v' (n+m) (xs ++ news)->Fr (fun k=>some k=v.ownBlock) w w'->(v'.ownBlock=v.ownBlock∨v'.ownBlock=some w.heap.size)->WL ops Q rest (Pt a d v') w'):WL ops Q (o :: rest) a w:=by
 obtain ⟨i0,hi,hz0,hz1,hz2⟩:=info_parts hI;exact MH s x t d hg hd ho base e i0 z size bytes ht hi hz0 hz1 hz2 hzs hsz v n xs hs hown S A m c news hx hsl h1 h63 hbytes hbase h
theorem l_c {f:FuncId}{xs:Array Operand}{ats:Array TypeId}{fn:Func}{vs:Array Value}{R:Ending->World->Prop}(hg:o.guard=none)(hd:o.dst=some d)(hop:o.op=Op.call { callee:=Callee.value (Operand.func f),args:=xs,argTypes:=ats })(hf:Tryz.prog.funcs[f]?=some fn)(hn:(fn.name == "runtime.NumGoroutine")=false) (hb:fn.body.isNone=false)
  (hc:qg f vs w R)(hv:xs.map (Ev a)=vs)(h:∀ e w',R e w'->∃ v,e=.returned v∧WL ops Q rest (Pt a d v) w'):WL ops Q (o :: rest) a w :=
 Em d hg hd f xs ats hop fn hf hn hb vs hv (hc.mono h)
end
section
variable {ops:Array Oper}{C:World->Prop}{K:Act->Prop}{a:Act}{rest:List Oper}{o:Oper}{d gd:Nat}{v:Value}{j:Nat}{want b:Bool}
theorem q_v (hg:o.guard=none)(hd:o.dst=some d)(hrun:∀ w,C w->(execOp (Ev a) o).run Tryz.prog w=.ok (.value v) w)(h:WQ ops C K rest (Pt a d v)):WQ ops C K (o :: rest) a:=Js d v hg hd hrun h
theorem q_y (hg:o.guard=some (j,want))(hj:(ops[j]?).bind (fun x=>x.dst)=some gd)(hd:o.dst=some d)(hs:gd<a.tmps.size)(he:Ev a (.tmp gd)=.bool b)(hb:(b == want)=true)(hrun:∀ w,C w->(execOp (Ev a) o).run Tryz.prog w=.ok (.value v) w)(h:WQ ops C K rest (Pt a d v)):WQ ops C K (o :: rest) a:=Iy d v gd hg hj hs he hb hd hrun h
theorem q_n (hg:o.guard=some (j,want))(hj:(ops[j]?).bind (fun x=>x.dst)=some gd)(hd:o.dst=some d)(hs:gd<a.tmps.size)(he:Ev a (.tmp gd)=.bool b)(hb:(b == want)=false)(h:WQ ops C K rest (Pt a d undef)):WQ ops C K (o :: rest) a:=Lr d gd hg hj hs he hb hd h
theorem q_c {f:FuncId}{xs:Array Operand}{ats:Array TypeId}{fn:Func}{vs:Array Value}(hg:o.guard=none)(hd:o.dst=some d)(hop:o.op=Op.call { callee:=Callee.value (Operand.func f),args:=xs,argTypes:=ats })(hf:Tryz.prog.funcs[f]?=some fn)(hn:(fn.name == "runtime.NumGoroutine")=false) (hb:fn.body.isNone=false)
  (hc:∀ w,C w->Calls Tryz.prog f vs w fun e w'=>e=.returned v∧C w')(hv:xs.map (Ev a)=vs)(h:WQ ops C K rest (Pt a d v)):WQ ops C K (o :: rest) a:=DQ d v hg hd f xs ats hop fn hf hn hb vs hv hc h
theorem nh {f:FuncId}{xs:Array Operand}{ats:Array TypeId}{fn:Func}{vs:Array Value}(hg:o.guard=some (j,want))(hj:(ops[j]?).bind (fun x=>x.dst)=some gd)(hd:o.dst=some d)(hs:gd<a.tmps.size)(he:Ev a (.tmp gd)=.bool b)(hbw:(b == want)=true)(hop:o.op=Op.call { callee:=Callee.value (Operand.func f),args:=xs,argTypes:=ats })(hf:Tryz.prog.funcs[f]?=some fn)(hn:(fn.name == "runtime.NumGoroutine")=false) (hb:fn.body.isNone=false)
  (hc:∀ w,C w->Calls Tryz.prog f vs w fun e w'=>e=.returned v∧C w')(hv:xs.map (Ev a)=vs)(h:WQ ops C K rest (Pt a d v)):WQ ops C K (o :: rest) a:=LD d v gd hg hj hs he hbw hd f xs ats hop fn hf hn hb vs hv hc h
end
section
variable {ops:Array Oper}{K:Act->World->Prop}{S:World->Prop}{bf:Nat->Bool}{n:Nat}{is:List Nat}{a:Act}{w w1:World}{o:Oper}{d gd:Nat}{v:Value}{j:Nat}{want b:Bool}
def WTd (ops:Array Oper)(S:World->Prop)(K':Act->Prop):List Nat->Act->Prop
 | [],a=>K' a
 | i :: J,a=>∃ o d v,ops[i]?=some o∧o.dst=some d∧YieldsIf Tryz.prog ops S o v a∧WTd ops S K' J (a.put (some d) v)
structure WT (ops:Array Oper)(S:World->Prop)(K':Act->Prop)(J:List Nat)(a:Act):Prop where
 out:WTd ops S K' J a
def mt (ops:Array Oper)(bf:Nat->Bool):List Nat->List Nat->Bool
 | _,[]=>true
 | is,i :: J=>tkB ops bf is i && mt ops bf (i :: is) J
def ou:List Nat->List Nat->List Nat
 | is,[]=>is
 | is,i :: J=>ou (i :: is) J
theorem tm {n:Nat}{K':Act->Prop}(hS:S w):∀ (J is:List Nat)(a:Act),mt ops bf is J=true->WTd ops S K' J a->(∀ a',K' a'->WD ops K S bf n (ou is J) a' w)->WD ops K S bf (n+J) is a w
 | [],is,a,_,h,hK=>hK a h
 | i :: J,is,a,ht,h,hK=>by
  obtain ⟨o,d,v,hi,hd,hy,h'⟩:=h;simp only [mt,Bool.and_eq_true] at ht;have h2:=tm (n:=n) hS J (i :: is) (a.put (some d) v) ht.2 h' hK;exact uw i d v hi hd ht.1 hy hS h2
theorem d_t {N:Nat}(n:Nat)(J:List Nat)(hN:N=n+J)(ht:mt ops bf is J=true)(hS:S w)(h:WT ops S (fun a'=>WD ops K S bf n (ou is J) a' w) J a):WD ops K S bf N is a w:=by
 subst hN;exact tm hS J is a ht h.out (fun _ h=>h)
section
variable {K':Act->Prop}{J:List Nat}{i:Nat}
theorem t_e (h:K' a):WT ops S K' [] a:=⟨h⟩
theorem t_v (hi:ops[i]?=some o)(hg:o.guard=none)(hd:o.dst=some d)(hy:∀ w,S w->(execOp (Ev a) o).run Tryz.prog w=.ok (.value v) w)(h:WT ops S K' J (Pt a d v)):WT ops S K' (i :: J) a :=
 ⟨⟨o,d,v,hi,hd,.inl ⟨dy,hy⟩,h.out⟩⟩
theorem t_y (hi:ops[i]?=some o)(hg:o.guard=some (j,want))(hj:(ops[j]?).bind (fun x=>x.dst)=some gd)(hd:o.dst=some d)(hs:gd<a.tmps.size)(he:Ev a (.tmp gd)=.bool b)(hb:(b == want)=true)(hy:∀ w,S w->(execOp (Ev a) o).run Tryz.prog w=.ok (.value v) w)(h:WT ops S K' J (Pt a d v)):WT ops S K' (i :: J) a :=
 ⟨⟨o,d,v,hi,hd,.inl ⟨fv,hy⟩,h.out⟩⟩
theorem t_n (hi:ops[i]?=some o)(hg:o.guard=some (j,want))(hj:(ops[j]?).bind (fun x=>x.dst)=some gd)(hd:o.dst=some d)(hs:gd<a.tmps.size)(he:Ev a (.tmp gd)=.bool b)(hb:(b == want)=false)(h:WT ops S K' J (Pt a d undef)):WT ops S K' (i :: J) a :=
 ⟨⟨o,d,undef,hi,hd,.inr ⟨fv,rfl⟩,h.out⟩⟩
end
theorem d_1 (i:Nat)(hr:Region.ready .any ops (mkL ops.size is)=[i])(hi:ops[i]?=some o)(hg:o.guard=none)(hd:o.dst=some d)
  (hrun:(execOp (Ev a) o).run Tryz.prog w=.ok (.value v) w1)(hS:bf i=true->S w1)(h:WD ops K S bf n (i :: is) (Pt a d v) w1):WD ops K S bf (n+1) is a w:=by
 refine l5 i hr hi (fun K' hK=>?_);have hw:Region.wanted o (yielded ops a.tmps)=true:=by simp [Region.wanted,hg]
 rw [if_pos hw];unfold Oper.wp;rw [show (execOp a.eval o).run Tryz.prog w=.ok (.value v) w1 from hrun];show K' (a.put o.dst v) w1;rw [hd];exact hK _ _ hS h
theorem d_s (i:Nat)(hr:Region.ready .any ops (mkL ops.size is)=[i])(hi:ops[i]?=some o)(hg:o.guard=none)(hd:o.dst=none)
  (hrun:(execOp (Ev a) o).run Tryz.prog w=.ok .skip w1)(hS:bf i=true->S w1)(h:WD ops K S bf n (i :: is) a w1):WD ops K S bf (n+1) is a w:=Jz i hr hi hg hd hrun hS h
end
def MA (ops:Array Oper)(C:World->Prop)(Q:Exit->Act->World->Prop)(o:Oper)(v:Value)(a:Act):Prop :=
 ∀ w,C w->∀ K:Act->World->Prop,(∀ w',C w'->K (a.put o.dst v) w')->if Region.wanted o (yielded ops a.tmps)=true then Oper.wp Tryz.prog o a w K Q else K (a.put o.dst undef) w
section
variable {ops:Array Oper}{K:Act->World->Prop}{S C:World->Prop}{bf:Nat->Bool}{n:Nat}{is:List Nat}{a:Act}{w:World}{oi oj:Oper}{Q:Exit->Act->World->Prop}
end
def Iv (b:Bool)(v:Value):Value:=cond b v undef
@[simp] theorem ME (v:Value):Iv true v=v:=rfl
@[simp] theorem MD (a:Act) (f:FuncId):Ev a (.func f)=.func (.func f) #[] #[]:=rfl
section
variable {ops:Array Oper}{C:World->Prop}{a:Act}{rest:List Oper}{o:Oper}{d gd j:Nat}{v:Value}{b:Bool}{w:World}{y:Operand}{f:FuncId}{xs:Array Operand}{ats:Array TypeId}{fn:Func}{vs:Array Value}
structure WX (ops:Array Oper)(w:World)(Q:Exit->Act->World->Prop)(l:List Oper)(a:Act):Prop where
 out:∀ w',Ext w w'->WL ops Q l a w'
variable {Q:Exit->Act->World->Prop}
end
section
variable {a b:Int}
theorem wrI (h:-9223372036854775808<=a)(h':a<=9223372036854775807):IntKind.i64.wrap a=a:=IntWalk.i64_in _ ⟨h,h'⟩
theorem tqI (h0:0<=a)(h1:a<=9223372036854775807)(h2:0<b):IntKind.i64.wrap (a.tdiv b)=a / b:=by
 rw [Int.tdiv_eq_ediv_of_nonneg h0];have h3:=Int.ediv_nonneg h0 (Int.le_of_lt h2);have h4:=Int.ediv_le_self b h0;exact wrI I I
theorem tmI (h0:0<=a):a.tmod b=a % b:=Int.tmod_eq_emod_of_nonneg h0
end
section
variable {ops:Array Oper}{Q:Exit->Act->World->Prop}{K:Act->World->Prop}{a:Act}{w w1:World}{rest l:List Oper}{o:Oper}{d id n i:Nat}{v:Value}{c:Code}{S:World->Prop}{bf:Nat->Bool}{is:List Nat}{R:World->Prop}
theorem rD {ops:Array Oper}{c:Code}(S:World->Prop)(bf:Nat->Bool)(n:Nat)(h:WD ops (fun a w=>Q .normal a w) S bf n [] a w.drew)(hc:c=.region id ops true:=by exact rfl)(hm:Tryz.prog.follows .mixedOrders=true:=by kernel_rfl)(hn:ops.size=n:=by kernel_rfl):qw c Q a w:=by
 subst hc;exact fR S bf n hm hn h
theorem lv (h:WL ops Q rest (Pt a d v) w1)(hg:o.guard=none:=by exact rfl)(hd:o.dst=some d:=by exact rfl)(hrun:(execOp (Ev a) o).run Tryz.prog w=.ok (.value v) w1:=by (simp [execOp,go_sem, *];try simp (disch:=omega) only [tqI,tmI,wrI]);first | exact ⟨rfl,rfl⟩ | rfl):WL ops Q (o :: rest) a w:=l_v hg hd hrun h
theorem ls (h:WL ops Q rest a w1)(hg:o.guard=none:=by exact rfl)(hd:o.dst=none:=by exact rfl)(hrun:(execOp (Ev a) o).run Tryz.prog w=.ok .skip w1:=by simp [execOp,go_sem, *];rfl):WL ops Q (o :: rest) a w:=l_s hg hd hrun h
theorem ly {gd j:Nat}{want b:Bool}(h:WL ops Q rest (Pt a d v) w1)(hg:o.guard=some (j,want):=by exact rfl)(hj:(ops[j]?).bind (fun x=>x.dst)=some gd:=by exact rfl)(hd:o.dst=some d:=by exact rfl)(hs:gd<a.tmps.size:=by simp [*])(he:Ev a (.tmp gd)=.bool b:=by simp [*];rfl)(hb:(b == want)=true:=by exact rfl)(hrun:(execOp (Ev a) o).run Tryz.prog w=.ok (.value v) w1:=by (simp [execOp,go_sem, *];try simp (disch:=omega) only [tqI,tmI,wrI]);first | exact ⟨rfl,rfl⟩ | rfl):WL ops Q (o :: rest) a w:=za d v gd hg hj hs he hb hd hrun h
theorem ln {gd j:Nat}{want b:Bool}(h:WL ops Q rest (Pt a d undef) w)(hg:o.guard=some (j,want):=by exact rfl)(hj:(ops[j]?).bind (fun x=>x.dst)=some gd:=by exact rfl)(hd:o.dst=some d:=by exact rfl)(hs:gd<a.tmps.size:=by simp [*])(he:Ev a (.tmp gd)=.bool b:=by simp [*];rfl)(hb:(b == want)=false:=by exact rfl):WL ops Q (o :: rest) a w:=Ke d gd hg hj hs he hb hd h
theorem lE (a0:Act)(L:List Nat)(d:Nat)(h:∀ a',Ag L a0 a'->qq a' d v->Q .normal a' w)(hA:Ag L a0 a:=by (repeat refine .put ?_ rfl);exact .rf)(he:qq a d v:=by simp [*];rfl):WL ops Q [] a w:=aV (h a hA he)
theorem lE2 {v':Value}(a0:Act)(L:List Nat)(d d':Nat)(h:∀ a',Ag L a0 a'->qq a' d v->Ev a' (.tmp d')=v'->Q .normal a' w)(hA:Ag L a0 a:=by (repeat refine .put ?_ rfl);exact .rf)(he:qq a d v:=by simp [*];rfl)(he':Ev a (.tmp d')=v':=by simp [*];rfl):WL ops Q [] a w:=aV (h a hA he he')
theorem lN (a0:Act)(L:List Nat)(h:∀ a',Ag L a0 a'->Q .normal a' w)(hA:Ag L a0 a:=by (repeat refine .put ?_ rfl);exact .rf):WL ops Q [] a w:=aV (h a hA)
theorem lc {f:FuncId}{xs:Array Operand}{ats:Array TypeId}{fn:Func}{vs:Array Value}{R:Ending->World->Prop}(hf:Tryz.prog.funcs[f]?=some fn)(hc:qg f vs w R)(h:∀ e w',R e w'->∃ v,e=.returned v∧WL ops Q rest (Pt a d v) w')
  (hg:o.guard=none:=by exact rfl)(hd:o.dst=some d:=by exact rfl)(hop:o.op=Op.call { callee:=Callee.value (Operand.func f),args:=xs,argTypes:=ats }:=by exact rfl)(hn:(fn.name == "runtime.NumGoroutine")=false:=by rfl) (hb:fn.body.isNone=false:=by rfl) (hv:xs.map (Ev a)=vs:=by simp [*]):WL ops Q (o :: rest) a w:=l_c hg hd hop hf hn hb hc hv h
theorem lcg {gd j:Nat}{want b:Bool}{f:FuncId}{xs:Array Operand}{ats:Array TypeId}{fn:Func}{vs:Array Value}{R:Ending->World->Prop}(hf:Tryz.prog.funcs[f]?=some fn)(hc:qg f vs w R)(h:∀ e w',R e w'->∃ v,e=.returned v∧WL ops Q rest (Pt a d v) w')(hg:o.guard=some (j,want):=by exact rfl)(hj:(ops[j]?).bind (fun x=>x.dst)=some gd:=by exact rfl)(hd:o.dst=some d:=by exact rfl)(hs:gd<a.tmps.size:=by simp [*])(he:Ev a (.tmp gd)=.bool b:=by simp [*];rfl)(hb:(b == want)=true:=by exact rfl)
  (hop:o.op=Op.call { callee:=Callee.value (Operand.func f),args:=xs,argTypes:=ats }:=by exact rfl)(hn:(fn.name == "runtime.NumGoroutine")=false:=by rfl) (hbn:fn.body.isNone=false:=by rfl) (hv:xs.map (Ev a)=vs:=by simp [*]):WL ops Q (o :: rest) a w :=
 DF d gd hg hj hs he hb hd f xs ats hop fn hf hn hbn vs hv (hc.mono h)
theorem d_E (a0:Act)(L:List Nat)(h:∀ a',Ag L a0 a'->K a' w)(hr:Region.ready .any ops (mkL ops.size is)=[]:=by kernel_rfl)(hA:Ag L a0 a:=by (repeat refine .put ?_ rfl);exact .rf):WD ops K S bf n is a w:=kF hr (h a hA)
theorem dv (i:Nat)(h:WD ops K S bf n (i :: is) (Pt a d v) w1)(hS:bf i=true->S w1:=by exact fun _=>hS)(hr:Region.ready .any ops (mkL ops.size is)=[i]:=by kernel_rfl)(hi:ops[i]?=some o:=by exact rfl)(hg:o.guard=none:=by exact rfl)(hd:o.dst=some d:=by exact rfl)(hrun:(execOp (Ev a) o).run Tryz.prog w=.ok (.value v) w1:=by (simp [execOp,go_sem, *];try simp (disch:=omega) only [tqI,tmI,wrI]);first | exact ⟨rfl,rfl⟩ | rfl):WD ops K S bf (n+1) is a w:=d_1 i hr hi hg hd hrun hS h
theorem dq (i:Nat)(h:WD ops K S bf n (i :: is) a w1)(hS:bf i=true->S w1:=by exact fun h=>absurd h dx)(hr:Region.ready .any ops (mkL ops.size is)=[i]:=by kernel_rfl)(hi:ops[i]?=some o:=by exact rfl)(hg:o.guard=none:=by exact rfl)(hd:o.dst=none:=by exact rfl)(hrun:(execOp (Ev a) o).run Tryz.prog w=.ok .skip w1:=by simp [execOp,go_sem, *];rfl):WD ops K S bf (n+1) is a w:=d_s i hr hi hg hd hrun hS h
theorem dt {N:Nat}(n:Nat)(J:List Nat)(h:WT ops S (fun a'=>WD ops K S bf n (ou is J) a' w) J a)(hS:S w:=by exact hS)(hN:N=n+J:=by exact rfl)(ht:mt ops bf is J=true:=by kernel_rfl):WD ops K S bf N is a w:=d_t n J hN ht hS h
theorem tv {K':Act->Prop}{J:List Nat}{i:Nat}(h:WT ops S K' J (Pt a d v))(hi:ops[i]?=some o:=by exact rfl)(hg:o.guard=none:=by exact rfl)(hd:o.dst=some d:=by exact rfl)(hy:∀ w,S w->(execOp (Ev a) o).run Tryz.prog w=.ok (.value v) w:=by (intro w hw;simp [execOp,go_sem, *];try simp (disch:=omega) only [tqI,tmI,wrI]);rfl):WT ops S K' (i :: J) a:=t_v hi hg hd hy h
theorem dc {f:FuncId}{xs:Array Operand}{ats:Array TypeId}{fn:Func}{vs:Array Value}{R:Ending->World->Prop}(i:Nat)(hf:Tryz.prog.funcs[f]?=some fn)(hc:qg f vs w R)(h:∀ e w',R e w'->∃ v,e=.returned v∧(bf i=true->S w')∧WD ops K S bf n (i :: is) (Pt a d v) w')
  (hr:Region.ready .any ops (mkL ops.size is)=[i]:=by kernel_rfl)(hi:ops[i]?=some o:=by exact rfl)(hg:o.guard=none:=by exact rfl)(hd:o.dst=some d:=by exact rfl)(hop:o.op=Op.call { callee:=Callee.value (Operand.func f),args:=xs,argTypes:=ats }:=by exact rfl)(hn:(fn.name == "runtime.NumGoroutine")=false:=by rfl) (hb:fn.body.isNone=false:=by rfl) (hv:xs.map (Ev a)=vs:=by simp [*]):WD ops K S bf (n+1) is a w:=Ch i d hr hi hg hd f xs ats hop fn hf hn hb vs hv (hc.mono h)
theorem da {s x:Operand}{t e:TypeId}{z:Value}{size bytes:Nat}(i:Nat)(ht:Tryz.prog.underlying t=some (.slice e))(hI:(Tryz.prog.info? e).map (fun i=>(i.zero,i.size,i.bytes))=some (some z,size,bytes))
  {base k:Nat}{v:Value}{xs:List Value} (hown:w.ownsRow base e size v k xs) {T:Nat->Prop}{A:Option Addr}{m c:Nat}{news:List Value} (hsl:Sl w T size A m news) (h63:k+m<=1000000000000) (hbytes:(k+m)*bytes<=140737488355328) (hbase:base<=w) (h1:∀ u ∈ news,u.oneCell'=true)
  (h:∀ v' w',w'.ownsRow base e size v' (k+m) (xs ++ news)->Fr (fun k=>some k=v.ownBlock) w w'->(v'.ownBlock=v.ownBlock∨v'.ownBlock=some w.heap.size)->(bf i=true->S w')∧WD ops K S bf n (i :: is) (Pt a d v') w')
  (hr:Region.ready .any ops (mkL ops.size is)=[i]:=by kernel_rfl)(hi:ops[i]?=some o:=by exact rfl)(hg:o.guard=none:=by exact rfl)(hd:o.dst=some d:=by exact rfl)(ho:o.op=.call { callee:=.builtin .append,args:=#[s,x],argTypes:=#[t,t] }:=by exact rfl)(hzs:z.cells.size=size:=by exact rfl)(hsz:0<size:=by omega)(hs:Ev a s=v:=by simp [*])(hx:Ev a x=.slice A m c:=by (simp [*];try rfl)):WD ops K S bf (n+1) is a w:=by
 obtain ⟨i0,hi0,hz0,hz1,hz2⟩:=info_parts hI;refine l5 i hr hi (fun K' hK=>?_);refine eJ w hg s x t ho base e i0 z size bytes ht hi0 hz0 hz1 hz2 hzs hsz v k xs hs hown T A m c news hx hsl h1 h63 hbytes hbase ?_;intro v' w' q1 q2 q3;rw [hd];exact hK _ _ (h v' w' q1 q2 q3).1 (h v' w' q1 q2 q3).2
theorem la {s x:Operand}{t e:TypeId}{z:Value}{size bytes:Nat}(ht:Tryz.prog.underlying t=some (.slice e))(hI:(Tryz.prog.info? e).map (fun i=>(i.zero,i.size,i.bytes))=some (some z,size,bytes))
  {base k:Nat}{v:Value}{xs:List Value} (hown:w.ownsRow base e size v k xs) {T:Nat->Prop}{A:Option Addr}{m c:Nat}{news:List Value} (hsl:Sl w T size A m news) (h63:k+m<=1000000000000) (hbytes:(k+m)*bytes<=140737488355328) (hbase:base<=w) (h1:∀ u ∈ news,u.oneCell'=true)
  (h:∀ v' w',w'.ownsRow base e size v' (k+m) (xs ++ news)->Fr (fun k=>some k=v.ownBlock) w w'->(v'.ownBlock=v.ownBlock∨v'.ownBlock=some w.heap.size)->WL ops Q rest (Pt a d v') w')
  (hg:o.guard=none:=by exact rfl)(hd:o.dst=some d:=by exact rfl)(ho:o.op=.call { callee:=.builtin .append,args:=#[s,x],argTypes:=#[t,t] }:=by exact rfl)(hzs:z.cells.size=size:=by exact rfl)(hsz:0<size:=by omega)(hs:Ev a s=v:=by simp [*])(hx:Ev a x=.slice A m c:=by (simp [*];try rfl)):WL ops Q (o :: rest) a w :=
 l_a hg hd ho ht hI hzs hsz hown hsl hs hx h1 h63 hbytes hbase h
end
theorem gD {f n:Nat}{fn:Func}{c:Code}{args:Array Value}{w:World}{R:Ending->World->Prop}(hf:Tryz.prog.funcs[f]?=some fn)(hb:fn.body=some c)(hn:fn.ntmps=n)(hs:args.size<=n)
  (h:∀ (a:Act)(Q:Exit->Act->World->Prop),a.tmps.size=n->a.defers=[]->(∀ i v,args[i]?=some v->qq a i v)->(∀ (a':Act)(w':World)(v:Value),a'.defers=[]->(results fn a'.tmps).run Tryz.prog w'=.ok v w'->R (.returned v) w'->Q .ret a' w')->qw c Q a w):qg f args w R:=by
 refine calls_of_wp hf hb (h _ _ ?_ rfl ?_ (fun a' w' v hd hr hR=>bodyPost_ret hr hd hR))
 ·simp [hn];omega
 ·intro i v hv
  obtain ⟨hi,rfl⟩:=Array.getElem?_eq_some_iff.1 hv;simp [Ev,Act.eval,Array.getElem?_append,hi]
theorem evT {a:Act}{d:Nat}{v:Value}(h:qq a d v):a.tmps[d]?.getD undef=v:=by rw [<- h];simp [Ev,Act.eval]
theorem lE3 {ops:Array Oper}{Q:Exit->Act->World->Prop}{a:Act}{w:World}{v v' v2:Value}(a0:Act)(L:List Nat)(d d' d2:Nat)(h:∀ a',Ag L a0 a'->qq a' d v->Ev a' (.tmp d')=v'->Ev a' (.tmp d2)=v2->Q .normal a' w)(hA:Ag L a0 a:=by (repeat refine .put ?_ rfl);exact .rf)(he:qq a d v:=by simp [*];rfl)(he':Ev a (.tmp d')=v':=by simp [*];rfl)(he2:Ev a (.tmp d2)=v2:=by simp [*];rfl):WL ops Q [] a w:=aV (h a hA he he' he2)
def BE (wd:Nat->Int)(lim:Int):Nat->Nat->Nat
 | 0,i=>i
 | f+1,i=>if wd i<lim then i else BE wd lim f (i+1)
def place (wd:Nat->Int)(n:Int)(i:Nat):Nat:=BE wd (18446744073709551616 - 18446744073709551616 % n) 63 i
