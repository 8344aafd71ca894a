/- Contracts of functions. Conditions: none. -/
import Derived.Test.YtkoeecdjijfjnaaGreatLU
set_option maxRecDepth 100000
set_option maxHeartbeats 8000000
namespace Go.Proofs.YtkoeecdjijfjnaaGreat
open Go.RowKit
section
variable {ρ:Operand->Value}{o:Oper}{w:World}
end
structure WL (ops:Array Oper)(Q:Exit->Act->World->Prop)(l:List Oper)(a:Act)(w:World):Prop where
 out:wpList Tryz.prog ops Q l a w
theorem xU {id:Nat}{l:List Oper}{Q:Exit->Act->World->Prop}{a:Act}{w:World}(h:WL l.toArray Q l a w):(Code.region id l.toArray false).wp Tryz.prog Q a w:=wp_region_lit h.out
theorem rW {id:Nat}{l:List Oper}{Q:Exit->Act->World->Prop}{a:Act}{w:World}{c:Code}(h:WL l.toArray Q l a w)(hc:c=.region id l.toArray false:=by exact rfl):Code.wp Tryz.prog c Q a w:=by
 subst hc;exact xU h
theorem cJ {ops:Array Oper}{Q:Exit->Act->World->Prop}{a:Act}{w:World}(h:Q .normal a w):WL ops Q [] a w:=⟨h⟩
section
variable {ops:Array Oper}{Q:Exit->Act->World->Prop}{a:Act}{w w1:World}{rest:List Oper}{o:Oper}
theorem aLc (d:Nat)(v:Value)(hg:o.guard=none)(hd:o.dst=some d)(hrun:(execOp a.eval o).run Tryz.prog w=.ok (.value v) w1)(h:WL ops Q rest (a.put (some d) v) w1):WL ops Q (o :: rest) a w:=by
 refine ⟨wpList_plain hg (fun K hK=>?_)⟩;unfold Oper.wp;rw [hrun]
 show K (a.put o.dst v) w1
 rw [hd];exact hK _ _ h.out
theorem aV9 (d:Nat)(v:Value)(hw:Region.wanted o (yielded ops a.tmps)=true)(hd:o.dst=some d)(hrun:(execOp a.eval o).run Tryz.prog w=.ok (.value v) w1)(h:WL ops Q rest (a.put (some d) v) w1):WL ops Q (o :: rest) a w:=by
 refine ⟨wpList_step (fun K hK=>?_)⟩;rw [if_pos hw];unfold Oper.wp;rw [hrun]
 show K (a.put o.dst v) w1
 rw [hd];exact hK _ _ h.out
theorem aPr (hg:o.guard=none)(hd:o.dst=none)(hrun:(execOp a.eval o).run Tryz.prog w=.ok .skip w1)(h:WL ops Q rest a w1):WL ops Q (o :: rest) a w:=by
 refine ⟨wpList_plain hg (fun K hK=>?_)⟩;unfold Oper.wp;rw [hrun]
 show K (a.put o.dst undef) w1
 rw [hd];exact hK _ _ h.out
theorem aPt (d:Nat)(hg:o.guard=none)(hd:o.dst=some d)(f:FuncId)(xs:Array Operand)(ats:Array TypeId)(hop:o.op=Op.call { callee:=Callee.value (Operand.func f),args:=xs,argTypes:=ats })(fn:Func)(hf:Tryz.prog.funcs[f]?=some fn)(hn:(fn.name == "runtime.NumGoroutine")=false) (hb:fn.body.isNone=false) (vs:Array Value) (hv:xs.map a.eval=vs)
  (h:Calls Tryz.prog f vs w fun e w'=>∃ v,e=.returned v∧WL ops Q rest (a.put (some d) v) w'):WL ops Q (o :: rest) a w:=by
 refine ⟨wpList_step (fun K hK=>?_)⟩;refine vH hg f xs ats hop fn hf hn hb vs hv (h.mono ?_);rintro e w' ⟨v,rfl,h2⟩;exact ⟨v,rfl,by rw [hd];exact hK _ _ h2.out⟩
theorem eD {j d:Nat}{want b:Bool}(hg:o.guard=some (j,want))(hj:(ops[j]?).bind (fun x=>x.dst)=some d)(hd:d<a.tmps.size)(he:a.eval (.tmp d)=.bool b):Region.wanted o (yielded ops a.tmps)=(b == want):=by
 have h1:a.tmps[d]?=some (.bool b):=by
  have h2:a.tmps.getD d undef=.bool b:=he;simp only [Array.getD,hd,dite_true] at h2;rw [Array.getElem?_eq_getElem hd];exact congrArg some h2
 have h3:yielded ops a.tmps j=some b:=by
  unfold yielded;rw [show ((ops[j]?).bind (fun x=>x.dst)).bind (fun x=>a.tmps[x]?)=some (.bool b) by rw [hj];exact h1]
 simp only [Region.wanted,hg,h3]
 cases b <;> cases want <;> rfl
theorem aTa (d gd:Nat){j:Nat}{want b:Bool}(hg:o.guard=some (j,want))(hj:(ops[j]?).bind (fun x=>x.dst)=some gd)(hs:gd<a.tmps.size)(he:a.eval (.tmp gd)=.bool b)(hb:(b == want)=false)(hd:o.dst=some d)(h:WL ops Q rest (a.put (some d) undef) w):WL ops Q (o :: rest) a w:=by
 refine ⟨wpList_skip d8 ?_⟩;rw [hd];exact h.out
theorem aPs (d:Nat)(v:Value)(gd:Nat){j:Nat}{want b:Bool}(hg:o.guard=some (j,want))(hj:(ops[j]?).bind (fun x=>x.dst)=some gd)(hs:gd<a.tmps.size)(he:a.eval (.tmp gd)=.bool b)(hb:(b == want)=true)(hd:o.dst=some d)(hrun:(execOp a.eval o).run Tryz.prog w=.ok (.value v) w1)(h:WL ops Q rest (a.put (some d) v) w1):WL ops Q (o :: rest) a w :=
 aV9 d v d8 hd hrun h
theorem aG7 (s x:Operand)(t:TypeId)(d:Nat)(hgd:o.guard=none)(hd:o.dst=some d)
  (ho:o.op=.call { callee:=.builtin .append,args:=#[s,x],argTypes:=#[t,t] })
  (base:Nat)(e:TypeId)(i:TypeInfo)(z:Value)(size bytes:Nat)(ht:Tryz.prog.underlying t=some (.slice e))(hi:Tryz.prog.info? e=some i)(hz:i.zero=some z)
  (hsize:i.size=size)(hby:i.bytes=bytes)(hzs:z.cells.size=size)(hsz:0<size)
  (v:Value)(n:Nat)(xs:List Value)(hs:a.eval s=v)(hown:w.ownsRow base e size v n xs)
  (S:Nat->Prop)(A:Option Addr)(m c:Nat)(news:List Value)(hx:a.eval x=.slice A m c)(hr:Sl w S size A m news)(h1:∀ u ∈ news,u.oneCell'=true)
  (h63:n+m<=1000000000000)(hbytes:(n+m)*bytes<=140737488355328)(hbase:base<=w.heap.size)
  (h:∀ v' w',w'.ownsRow base e size v' (n+m) (xs ++ news)->Fr (fun k=>some k=v.ownBlock) w w'->(v'.ownBlock=v.ownBlock∨v'.ownBlock=some w.heap.size)->WL ops Q rest (a.put (some d) v') w'):WL ops Q (o :: rest) a w :=
 ⟨aK w hgd s x t ho base e i z size bytes ht hi hz hsize hby hzs hsz v n xs hs hown S A m c news hx hr h1 h63 hbytes hbase (fun v' w' q1 q2 q3=>by rw [hd];exact (h v' w' q1 q2 q3).out)⟩
end
section
variable {ρ:Operand->Value}{o:Oper}{w:World}
end
theorem uX {P:Program}{o:Oper}{a:Act}{w:World}{K:Act->World->Prop}{Q:Exit->Act->World->Prop}(f:FuncId)(xs:Array Operand)(ats:Array TypeId)
  (hop:o.op=Op.call { callee:=Callee.value (Operand.func f),args:=xs,argTypes:=ats })(fn:Func)(hf:P.funcs[f]?=some fn)(hn:(fn.name == "runtime.NumGoroutine")=false) (hb:fn.body.isNone=false) (vs:Array Value) (hv:xs.map a.eval=vs) (h:Calls P f vs w fun e w'=>∃ v,e=.returned v∧K (a.put o.dst v) w') :
  Oper.wp P o a w K Q:=by
 unfold Oper.wp;obtain ⟨dst,op,ty,pos,after,guard⟩:=o;simp only at hop;subst hop;rw [execOp_call_go,hv];subst hv;have hp:Sem.run P program w=.ok P w:=rfl;simp only [callFunc,Array.append_empty,Array.empty_append,Sem.run_bind,hp,Result.andThen_ok,hf,hn,hb,Bool.false_eq_true,if_false,Sem.run_pure,Oper.upon];refine h.mono ?_;rintro e w' ⟨v,rfl,hk⟩;exact hk
section
variable {ops:Array Oper}{Q:Exit->Act->World->Prop}{a:Act}{w w1:World}{rest:List Oper}{o:Oper}
theorem aLd (d gd:Nat){j:Nat}{want b:Bool}(hg:o.guard=some (j,want))(hj:(ops[j]?).bind (fun x=>x.dst)=some gd)(hs:gd<a.tmps.size)(he:a.eval (.tmp gd)=.bool b)(hbw:(b == want)=true)(hd:o.dst=some d)(f:FuncId)(xs:Array Operand)(ats:Array TypeId)(hop:o.op=Op.call { callee:=Callee.value (Operand.func f),args:=xs,argTypes:=ats })(fn:Func)(hf:Tryz.prog.funcs[f]?=some fn)(hn:(fn.name == "runtime.NumGoroutine")=false) (hb:fn.body.isNone=false) (vs:Array Value) (hv:xs.map a.eval=vs)
  (h:Calls Tryz.prog f vs w fun e w'=>∃ v,e=.returned v∧WL ops Q rest (a.put (some d) v) w'):WL ops Q (o :: rest) a w:=by
 have hw:Region.wanted o (yielded ops a.tmps)=true:=gu
 refine ⟨wpList_step (fun K hK=>?_)⟩;rw [if_pos hw];refine uX f xs ats hop fn hf hn hb vs hv (h.mono ?_);rintro e w' ⟨v,rfl,h2⟩;exact ⟨v,rfl,by rw [hd];exact hK _ _ h2.out⟩
end
structure WQ (ops:Array Oper)(C:World->Prop)(K:Act->Prop)(l:List Oper)(a:Act):Prop where
 out:wpQuiet Tryz.prog ops C K l a
section
variable {ops:Array Oper}{C:World->Prop}{K:Act->Prop}{a:Act}{rest:List Oper}{o:Oper}
theorem iO {id:Nat}{Q:Exit->Act->World->Prop}{w:World}{l:List Oper}(C:World->Prop)(hm:Tryz.prog.follows .mixedOrders=true)(hB:Region.lexB .any l.toArray=true)(hC:C w.drew)
  (h:WQ l.toArray C (fun a'=>∀ w',C w'->Q .normal a' w') l a):(Code.region id l.toArray true).wp Tryz.prog Q a w :=
 wp_region_quiet (C:=C) hm hB hC (by simpa using h.out)
theorem aGw (h:K a):WQ ops C K [] a:=⟨h⟩
theorem aRa (d:Nat)(v:Value)(hw:Region.wanted o (yielded ops a.tmps)=true)(hd:o.dst=some d)(hrun:∀ w,C w->o.quietAt Tryz.prog a C w v)(h:WQ ops C K rest (a.put (some d) v)):WQ ops C K (o :: rest) a:=by
 refine ⟨Go.BigFrame.wpQuiet_want hw (fun K hK=>⟨v,hrun,?_⟩)⟩;rw [hd];exact hK _ h.out
theorem vY {v:Value}{w:World}(h:(execOp a.eval o).run Tryz.prog w=.ok (.value v) w):o.quietAt Tryz.prog a C w v:=by
 unfold Oper.quietAt;rw [h];exact ⟨rfl,rfl⟩
theorem aKw (d:Nat)(v:Value)(hg:o.guard=none)(hd:o.dst=some d)(hrun:∀ w,C w->(execOp a.eval o).run Tryz.prog w=.ok (.value v) w)(h:WQ ops C K rest (a.put (some d) v)):WQ ops C K (o :: rest) a :=
 aRa d v dw hd (fun w hw=>vY (hrun w hw)) h
theorem aS4 (d:Nat)(v:Value)(gd:Nat){j:Nat}{want b:Bool}(hg:o.guard=some (j,want))(hj:(ops[j]?).bind (fun x=>x.dst)=some gd)(hs:gd<a.tmps.size)(he:a.eval (.tmp gd)=.bool b)(hb:(b == want)=true)(hd:o.dst=some d)(hrun:∀ w,C w->(execOp a.eval o).run Tryz.prog w=.ok (.value v) w)(h:WQ ops C K rest (a.put (some d) v)):WQ ops C K (o :: rest) a :=
 aRa d v d8 hd (fun w hw=>vY (hrun w hw)) h
theorem aS5 (d gd:Nat){j:Nat}{want b:Bool}(hg:o.guard=some (j,want))(hj:(ops[j]?).bind (fun x=>x.dst)=some gd)(hs:gd<a.tmps.size)(he:a.eval (.tmp gd)=.bool b)(hb:(b == want)=false)(hd:o.dst=some d)(h:WQ ops C K rest (a.put (some d) undef)):WQ ops C K (o :: rest) a:=by
 refine ⟨Go.BigFrame.wpQuiet_skip d8 ?_⟩;rw [hd];exact h.out
theorem aAh {v:Value}{w:World}(f:FuncId)(xs:Array Operand)(ats:Array TypeId)(hop:o.op=Op.call { callee:=Callee.value (Operand.func f),args:=xs,argTypes:=ats })(fn:Func)(hf:Tryz.prog.funcs[f]?=some fn)(hn:(fn.name == "runtime.NumGoroutine")=false) (hb:fn.body.isNone=false) (vs:Array Value) (hv:xs.map a.eval=vs)
  (h:Calls Tryz.prog f vs w fun e w'=>e=.returned v∧C w'):o.quietAt Tryz.prog a C w v:=by
 unfold Oper.quietAt;obtain ⟨dst,op,ty,pos,after,guard⟩:=o;simp only at hop;subst hop;rw [execOp_call_go,hv];subst hv;have hp:Sem.run Tryz.prog program w=.ok Tryz.prog w:=rfl;simp only [callFunc,Array.append_empty,Array.empty_append,Sem.run_bind,hp,Result.andThen_ok,hf,hn,hb,Bool.false_eq_true,if_false,Sem.run_pure,Oper.quietUpon];exact ⟨trivial,h⟩
theorem aO7 (d:Nat)(v:Value)(hg:o.guard=none)(hd:o.dst=some d)(f:FuncId)(xs:Array Operand)(ats:Array TypeId)(hop:o.op=Op.call { callee:=Callee.value (Operand.func f),args:=xs,argTypes:=ats })(fn:Func)(hf:Tryz.prog.funcs[f]?=some fn)(hn:(fn.name == "runtime.NumGoroutine")=false) (hb:fn.body.isNone=false) (vs:Array Value) (hv:xs.map a.eval=vs)
  (hc:∀ w,C w->Calls Tryz.prog f vs w fun e w'=>e=.returned v∧C w')(h:WQ ops C K rest (a.put (some d) v)):WQ ops C K (o :: rest) a :=
 aRa d v dw hd (fun w hw=>aAh f xs ats hop fn hf hn hb vs hv (hc w hw)) h
theorem aKx (d:Nat)(v:Value)(gd:Nat){j:Nat}{want b:Bool}(hg:o.guard=some (j,want))(hj:(ops[j]?).bind (fun x=>x.dst)=some gd)(hs:gd<a.tmps.size)(he:a.eval (.tmp gd)=.bool b)(hbw:(b == want)=true)(hd:o.dst=some d)(f:FuncId)(xs:Array Operand)(ats:Array TypeId)(hop:o.op=Op.call { callee:=Callee.value (Operand.func f),args:=xs,argTypes:=ats })(fn:Func)(hf:Tryz.prog.funcs[f]?=some fn)(hn:(fn.name == "runtime.NumGoroutine")=false) (hb:fn.body.isNone=false) (vs:Array Value) (hv:xs.map a.eval=vs)
  (hc:∀ w,C w->Calls Tryz.prog f vs w fun e w'=>e=.returned v∧C w')(h:WQ ops C K rest (a.put (some d) v)):WQ ops C K (o :: rest) a :=
 aRa d v gu hd (fun w hw=>aAh f xs ats hop fn hf hn hb vs hv (hc w hw)) h
end
def mkL (n:Nat):List Nat->Array Bool
 | []=>Array.replicate n false
 | i :: is=>(mkL n is).setIfInBounds i true
def NQ (K:Act->World->Prop):Exit->Act->World->Prop:=fun e a w=>e=.normal∧K a w
def tkB (ops:Array Oper)(bf:Nat->Bool)(is:List Nat)(i:Nat):Bool:=Region.noSelect ops && (Region.free .any ops (mkL ops.size is) i && ((Region.ready .any ops (mkL ops.size is)).contains i && aJo .any ops bf i))
structure WD (ops:Array Oper)(K:Act->World->Prop)(S:World->Prop)(bf:Nat->Bool)(n:Nat)(is:List Nat)(a:Act)(w:World):Prop where
 out:jB Tryz.prog .any ops (NQ K) S bf n (mkL ops.size is) a w
section
variable {ops:Array Oper}{K:Act->World->Prop}{S:World->Prop}{bf:Nat->Bool}{n:Nat}{is:List Nat}{a:Act}{w w1:World}{o:Oper}
theorem fG {id:Nat}{Q:Exit->Act->World->Prop}(S:World->Prop)(bf:Nat->Bool)(n:Nat)(hm:Tryz.prog.follows .mixedOrders=true)(hn:ops.size=n)(h:WD ops (fun a w=>Q .normal a w) S bf n [] a w.drew):(Code.region id ops true).wp Tryz.prog Q a w:=by
 subst hn;refine wp_mono (xV S bf hm h.out) ?_;rintro e a w ⟨rfl,h⟩;exact h
theorem wZ (hr:Region.ready .any ops (mkL ops.size is)=[])(h:K a w):WD ops K S bf n is a w:=⟨xX hr ⟨rfl,h⟩ n⟩
theorem aHs (i d:Nat)(v:Value)(hi:ops[i]?=some o)(hd:o.dst=some d)(ht:tkB ops bf is i=true)(hy:YieldsIf Tryz.prog ops S o v a)(hS:S w)(h:WD ops K S bf n (i :: is) (a.put (some d) v) w):WD ops K S bf (n+1) is a w:=by
 simp only [tkB,Bool.and_eq_true] at ht;refine ⟨xW hi ht.1 ht.2.1 ht.2.2.1 ht.2.2.2 (fun _ _ _ h=>absurd h.1 Y) hy hS ?_⟩;rw [hd];exact h.out
theorem aEx (i:Nat)(hr:Region.ready .any ops (mkL ops.size is)=[i])(hi:ops[i]?=some o)
  (h:∀ K':Act->World->Prop,(∀ a' w',(bf i=true->S w')->WD ops K S bf n (i :: is) a' w'->K' a' w')->if Region.wanted o (yielded ops a.tmps)=true then Oper.wp Tryz.prog o a w K' (NQ K) else K' (a.put o.dst undef) w):WD ops K S bf (n+1) is a w :=
 ⟨aBn hr hi (fun K' hK=>h K' (fun a' w' h1 h2=>hK a' w' h1 h2.out))⟩
theorem aP0 (i:Nat)(hr:Region.ready .any ops (mkL ops.size is)=[i])(hi:ops[i]?=some o)(hg:o.guard=none)(hd:o.dst=none)
  (hrun:(execOp a.eval o).run Tryz.prog w=.ok .skip w1)(hS:bf i=true->S w1)(h:WD ops K S bf n (i :: is) a w1):WD ops K S bf (n+1) is a w:=by
 refine aEx i hr hi (fun K' hK=>?_);have hw:Region.wanted o (yielded ops a.tmps)=true:=by simp [Region.wanted,hg]
 rw [if_pos hw];unfold Oper.wp;rw [hrun]
 show K' (a.put o.dst undef) w1
 rw [hd];exact hK _ _ hS h
theorem aEw (i d:Nat)(hr:Region.ready .any ops (mkL ops.size is)=[i])(hi:ops[i]?=some o)(hw:Region.wanted o (yielded ops a.tmps)=true)(hd:o.dst=some d)(f:FuncId)(xs:Array Operand)(ats:Array TypeId)(hop:o.op=Op.call { callee:=Callee.value (Operand.func f),args:=xs,argTypes:=ats })(fn:Func)(hf:Tryz.prog.funcs[f]?=some fn)(hn:(fn.name == "runtime.NumGoroutine")=false) (hb:fn.body.isNone=false) (vs:Array Value) (hv:xs.map a.eval=vs)
  (h:Calls Tryz.prog f vs w fun e w'=>∃ v,e=.returned v∧(bf i=true->S w')∧WD ops K S bf n (i :: is) (a.put (some d) v) w'):WD ops K S bf (n+1) is a w:=by
 refine aEx i hr hi (fun K' hK=>?_);rw [if_pos hw];refine uX f xs ats hop fn hf hn hb vs hv (h.mono ?_);rintro e w' ⟨v,rfl,h1,h2⟩;exact ⟨v,rfl,by rw [hd];exact hK _ _ h1 h2⟩
theorem aIu (i d:Nat)(hr:Region.ready .any ops (mkL ops.size is)=[i])(hi:ops[i]?=some o)(hg:o.guard=none)(hd:o.dst=some d)(f:FuncId)(xs:Array Operand)(ats:Array TypeId)(hop:o.op=Op.call { callee:=Callee.value (Operand.func f),args:=xs,argTypes:=ats })(fn:Func)(hf:Tryz.prog.funcs[f]?=some fn)(hn:(fn.name == "runtime.NumGoroutine")=false) (hb:fn.body.isNone=false) (vs:Array Value) (hv:xs.map a.eval=vs)
  (h:Calls Tryz.prog f vs w fun e w'=>∃ v,e=.returned v∧(bf i=true->S w')∧WD ops K S bf n (i :: is) (a.put (some d) v) w'):WD ops K S bf (n+1) is a w :=
 aEw i d hr hi dw hd f xs ats hop fn hf hn hb vs hv h
theorem aLl (i d gd:Nat){j:Nat}{want b:Bool}(hr:Region.ready .any ops (mkL ops.size is)=[i])(hi:ops[i]?=some o)(hg:o.guard=some (j,want))(hj:(ops[j]?).bind (fun x=>x.dst)=some gd)(hs:gd<a.tmps.size)(he:a.eval (.tmp gd)=.bool b)(hbw:(b == want)=true)(hd:o.dst=some d)(f:FuncId)(xs:Array Operand)(ats:Array TypeId)(hop:o.op=Op.call { callee:=Callee.value (Operand.func f),args:=xs,argTypes:=ats })(fn:Func)(hf:Tryz.prog.funcs[f]?=some fn)(hn:(fn.name == "runtime.NumGoroutine")=false) (hb:fn.body.isNone=false) (vs:Array Value) (hv:xs.map a.eval=vs)
  (h:Calls Tryz.prog f vs w fun e w'=>∃ v,e=.returned v∧(bf i=true->S w')∧WD ops K S bf n (i :: is) (a.put (some d) v) w'):WD ops K S bf (n+1) is a w :=
 aEw i d hr hi gu hd f xs ats hop fn hf hn hb vs hv h
end
theorem zV {k:Nat}(h:k<=1000000):IntKind.i64.wrap ((k:Int)+1)=(k:Int)+1:=IntWalk.i64_in _ U
def Ev (a:Act):Operand->Value:=a.eval
def Pt (a:Act)(d:Nat)(v:Value):Act:=a.put (some d) v
@[simp] theorem aRg (a:Act) (v:Value):Ev a (.const v)=v:=rfl
@[simp] theorem aQ4 (a:Act) (d e:Nat) (v:Value):Ev (Pt a d v) (.tmp e)=if d=e then (if d<a.tmps.size then v else undef) else Ev a (.tmp e):=vp a d e v
@[simp] theorem aQg (a:Act) (d:Nat) (v:Value):(Pt a d v).tmps.size=a.tmps.size:=zp a d v
structure Ag (l:List Nat)(a a':Act):Prop where
 sz:a'.tmps.size=a.tmps.size
 df:a'.defers=a.defers
 ev:∀ t ∈ l,Ev a' (.tmp t)=Ev a (.tmp t)
section
variable {l:List Nat}{a a' a'':Act}{d:Nat}{v:Value}
theorem Ag.rf:Ag l a a:=⟨rfl,rfl,fun _ _=>rfl⟩
theorem Ag.put (h:Ag l a a')(hd:l.contains d=false):Ag l a (Pt a' d v) :=
 ⟨by rw [aQg];exact h.sz,h.df,fun t ht=>by
  rw [aQ4,if_neg (fun e=>by subst e;simp [ht] at hd)];exact h.ev t ht⟩
theorem Ag.get (h:Ag l a a')(t:Nat)(e:Ev a (.tmp t)=v)(ht:l.contains t=true:=by rfl):Ev a' (.tmp t)=v:=by
 rw [h.ev t (by simpa using ht)];exact e
theorem Ag.trans (h:Ag l a a')(h':Ag l a' a''):Ag l a a'':=⟨h'.sz.trans h.sz,h'.df.trans h.df,fun t ht=>(h'.ev t ht).trans (h.ev t ht)⟩
theorem Ag.mono {l l':List Nat}{a a':Act}(h:Ag l a a')(hl:l'.all l.contains=true):Ag l' a a':=⟨h.sz,h.df,fun t ht=>h.ev t (by simpa using List.all_eq_true.1 hl t ht)⟩
end
section
variable {ops:Array Oper}{Q:Exit->Act->World->Prop}{a:Act}{w w1:World}{rest:List Oper}{o:Oper}{d:Nat}{v:Value}
theorem l_v (hg:o.guard=none)(hd:o.dst=some d)(hrun:(execOp (Ev a) o).run Tryz.prog w=.ok (.value v) w1)(h:WL ops Q rest (Pt a d v) w1):WL ops Q (o :: rest) a w:=aLc d v hg hd hrun h
theorem lV (h:WL ops Q rest (Pt a d v) w1)(hg:o.guard=none:=by exact rfl)(hd:o.dst=some d:=by exact rfl)(hrun:(execOp (Ev a) o).run Tryz.prog w=.ok (.value v) w1:=by simp [execOp,go_sem, *];exact ⟨rfl,rfl⟩):WL ops Q (o :: rest) a w:=l_v hg hd hrun h
theorem l_s (hg:o.guard=none)(hd:o.dst=none)(hrun:(execOp (Ev a) o).run Tryz.prog w=.ok .skip w1)(h:WL ops Q rest a w1):WL ops Q (o :: rest) a w:=aPr hg hd hrun h
theorem l_a {s x:Operand}{t e:TypeId}{z:Value}{size bytes:Nat}(hg:o.guard=none)(hd:o.dst=some d)(ho:o.op=.call { callee:=.builtin .append,args:=#[s,x],argTypes:=#[t,t] })(ht:Tryz.prog.underlying t=some (.slice e))(hI:(Tryz.prog.info? e).map (fun i=>(i.zero,i.size,i.bytes))=some (some z,size,bytes))(hzs:z.cells.size=size)(hsz:0<size)
  {base n:Nat}{v:Value}{xs:List Value} (hown:w.ownsRow base e size v n xs) {S:Nat->Prop}{A:Option Addr}{m c:Nat}{news:List Value} (hsl:Sl w S size A m news) (hs:Ev a s=v) (hx:Ev a x=.slice A m c) (h1:∀ u ∈ news,u.oneCell'=true) (h63:n+m<=1000000000000) (hbytes:(n+m)*bytes<=140737488355328) (hbase:base<=w.heap.size)
  (h:∀ v' w',w'.ownsRow base e size v' (n+m) (xs ++ news)->Fr (fun k=>some k=v.ownBlock) w w'->(v'.ownBlock=v.ownBlock∨v'.ownBlock=some w.heap.size)->WL ops Q rest (Pt a d v') w'):WL ops Q (o :: rest) a w:=by
 obtain ⟨i0,hi,hz0,hz1,hz2⟩:=info_parts hI;exact aG7 s x t d hg hd ho base e i0 z size bytes ht hi hz0 hz1 hz2 hzs hsz v n xs hs hown S A m c news hx hsl h1 h63 hbytes hbase h
theorem l_c {f:FuncId}{xs:Array Operand}{ats:Array TypeId}{fn:Func}{vs:Array Value}{R:Ending->World->Prop}(hg:o.guard=none)(hd:o.dst=some d)(hop:o.op=Op.call { callee:=Callee.value (Operand.func f),args:=xs,argTypes:=ats })(hf:Tryz.prog.funcs[f]?=some fn)(hn:(fn.name == "runtime.NumGoroutine")=false) (hb:fn.body.isNone=false)
  (hc:Calls Tryz.prog f vs w R)(hv:xs.map (Ev a)=vs)(h:∀ e w',R e w'->∃ v,e=.returned v∧WL ops Q rest (Pt a d v) w'):WL ops Q (o :: rest) a w :=
 aPt d hg hd f xs ats hop fn hf hn hb vs hv (hc.mono h)
end
section
variable {ops:Array Oper}{C:World->Prop}{K:Act->Prop}{a:Act}{rest:List Oper}{o:Oper}{d gd:Nat}{v:Value}{j:Nat}{want b:Bool}
theorem q_v (hg:o.guard=none)(hd:o.dst=some d)(hrun:∀ w,C w->(execOp (Ev a) o).run Tryz.prog w=.ok (.value v) w)(h:WQ ops C K rest (Pt a d v)):WQ ops C K (o :: rest) a:=aKw d v hg hd hrun h
theorem q_y (hg:o.guard=some (j,want))(hj:(ops[j]?).bind (fun x=>x.dst)=some gd)(hd:o.dst=some d)(hs:gd<a.tmps.size)(he:Ev a (.tmp gd)=.bool b)(hb:(b == want)=true)(hrun:∀ w,C w->(execOp (Ev a) o).run Tryz.prog w=.ok (.value v) w)(h:WQ ops C K rest (Pt a d v)):WQ ops C K (o :: rest) a:=aS4 d v gd hg hj hs he hb hd hrun h
theorem q_n (hg:o.guard=some (j,want))(hj:(ops[j]?).bind (fun x=>x.dst)=some gd)(hd:o.dst=some d)(hs:gd<a.tmps.size)(he:Ev a (.tmp gd)=.bool b)(hb:(b == want)=false)(h:WQ ops C K rest (Pt a d undef)):WQ ops C K (o :: rest) a:=aS5 d gd hg hj hs he hb hd h
theorem q_c {f:FuncId}{xs:Array Operand}{ats:Array TypeId}{fn:Func}{vs:Array Value}(hg:o.guard=none)(hd:o.dst=some d)(hop:o.op=Op.call { callee:=Callee.value (Operand.func f),args:=xs,argTypes:=ats })(hf:Tryz.prog.funcs[f]?=some fn)(hn:(fn.name == "runtime.NumGoroutine")=false) (hb:fn.body.isNone=false)
  (hc:∀ w,C w->Calls Tryz.prog f vs w fun e w'=>e=.returned v∧C w')(hv:xs.map (Ev a)=vs)(h:WQ ops C K rest (Pt a d v)):WQ ops C K (o :: rest) a:=aO7 d v hg hd f xs ats hop fn hf hn hb vs hv hc h
theorem aV4 {f:FuncId}{xs:Array Operand}{ats:Array TypeId}{fn:Func}{vs:Array Value}(hg:o.guard=some (j,want))(hj:(ops[j]?).bind (fun x=>x.dst)=some gd)(hd:o.dst=some d)(hs:gd<a.tmps.size)(he:Ev a (.tmp gd)=.bool b)(hbw:(b == want)=true)(hop:o.op=Op.call { callee:=Callee.value (Operand.func f),args:=xs,argTypes:=ats })(hf:Tryz.prog.funcs[f]?=some fn)(hn:(fn.name == "runtime.NumGoroutine")=false) (hb:fn.body.isNone=false)
  (hc:∀ w,C w->Calls Tryz.prog f vs w fun e w'=>e=.returned v∧C w')(hv:xs.map (Ev a)=vs)(h:WQ ops C K rest (Pt a d v)):WQ ops C K (o :: rest) a:=aKx d v gd hg hj hs he hbw hd f xs ats hop fn hf hn hb vs hv hc h
end
section
variable {ops:Array Oper}{K:Act->World->Prop}{S:World->Prop}{bf:Nat->Bool}{n:Nat}{is:List Nat}{a:Act}{w w1:World}{o:Oper}{d gd:Nat}{v:Value}{j:Nat}{want b:Bool}
def WTd (ops:Array Oper)(S:World->Prop)(K':Act->Prop):List Nat->Act->Prop
 | [],a=>K' a
 | i :: J,a=>∃ o d v,ops[i]?=some o∧o.dst=some d∧YieldsIf Tryz.prog ops S o v a∧WTd ops S K' J (a.put (some d) v)
structure WT (ops:Array Oper)(S:World->Prop)(K':Act->Prop)(J:List Nat)(a:Act):Prop where
 out:WTd ops S K' J a
def aDa (ops:Array Oper)(bf:Nat->Bool):List Nat->List Nat->Bool
 | _,[]=>true
 | is,i :: J=>tkB ops bf is i && aDa ops bf (i :: is) J
def aGk:List Nat->List Nat->List Nat
 | is,[]=>is
 | is,i :: J=>aGk (i :: is) J
theorem aUy {n:Nat}{K':Act->Prop}(hS:S w):∀ (J is:List Nat)(a:Act),aDa ops bf is J=true->WTd ops S K' J a->(∀ a',K' a'->WD ops K S bf n (aGk is J) a' w)->WD ops K S bf (n+J.length) is a w
 | [],is,a,_,h,hK=>hK a h
 | i :: J,is,a,ht,h,hK=>by
  obtain ⟨o,d,v,hi,hd,hy,h'⟩:=h;simp only [aDa,Bool.and_eq_true] at ht;have h2:=aUy (n:=n) hS J (i :: is) (a.put (some d) v) ht.2 h' hK;exact aHs i d v hi hd ht.1 hy hS h2
theorem d_t {N:Nat}(n:Nat)(J:List Nat)(hN:N=n+J.length)(ht:aDa ops bf is J=true)(hS:S w)(h:WT ops S (fun a'=>WD ops K S bf n (aGk is J) a' w) J a):WD ops K S bf N is a w:=by
 subst hN;exact aUy hS J is a ht h.out (fun _ h=>h)
section
variable {K':Act->Prop}{J:List Nat}{i:Nat}
theorem t_e (h:K' a):WT ops S K' [] a:=⟨h⟩
theorem t_v (hi:ops[i]?=some o)(hg:o.guard=none)(hd:o.dst=some d)(hy:∀ w,S w->(execOp (Ev a) o).run Tryz.prog w=.ok (.value v) w)(h:WT ops S K' J (Pt a d v)):WT ops S K' (i :: J) a :=
 ⟨⟨o,d,v,hi,hd,.inl ⟨dw,hy⟩,h.out⟩⟩
theorem t_y (hi:ops[i]?=some o)(hg:o.guard=some (j,want))(hj:(ops[j]?).bind (fun x=>x.dst)=some gd)(hd:o.dst=some d)(hs:gd<a.tmps.size)(he:Ev a (.tmp gd)=.bool b)(hb:(b == want)=true)(hy:∀ w,S w->(execOp (Ev a) o).run Tryz.prog w=.ok (.value v) w)(h:WT ops S K' J (Pt a d v)):WT ops S K' (i :: J) a :=
 ⟨⟨o,d,v,hi,hd,.inl ⟨d8,hy⟩,h.out⟩⟩
theorem t_n (hi:ops[i]?=some o)(hg:o.guard=some (j,want))(hj:(ops[j]?).bind (fun x=>x.dst)=some gd)(hd:o.dst=some d)(hs:gd<a.tmps.size)(he:Ev a (.tmp gd)=.bool b)(hb:(b == want)=false)(h:WT ops S K' J (Pt a d undef)):WT ops S K' (i :: J) a :=
 ⟨⟨o,d,undef,hi,hd,.inr ⟨d8,rfl⟩,h.out⟩⟩
end
theorem d_1 (i:Nat)(hr:Region.ready .any ops (mkL ops.size is)=[i])(hi:ops[i]?=some o)(hg:o.guard=none)(hd:o.dst=some d)
  (hrun:(execOp (Ev a) o).run Tryz.prog w=.ok (.value v) w1)(hS:bf i=true->S w1)(h:WD ops K S bf n (i :: is) (Pt a d v) w1):WD ops K S bf (n+1) is a w:=by
 refine aEx i hr hi (fun K' hK=>?_);have hw:Region.wanted o (yielded ops a.tmps)=true:=by simp [Region.wanted,hg]
 rw [if_pos hw];unfold Oper.wp;rw [show (execOp a.eval o).run Tryz.prog w=.ok (.value v) w1 from hrun]
 show K' (a.put o.dst v) w1
 rw [hd];exact hK _ _ hS h
theorem d_s (i:Nat)(hr:Region.ready .any ops (mkL ops.size is)=[i])(hi:ops[i]?=some o)(hg:o.guard=none)(hd:o.dst=none)
  (hrun:(execOp (Ev a) o).run Tryz.prog w=.ok .skip w1)(hS:bf i=true->S w1)(h:WD ops K S bf n (i :: is) a w1):WD ops K S bf (n+1) is a w:=aP0 i hr hi hg hd hrun hS h
end
def aX3 (ops:Array Oper)(C:World->Prop)(Q:Exit->Act->World->Prop)(o:Oper)(v:Value)(a:Act):Prop :=
 ∀ w,C w->∀ K:Act->World->Prop,(∀ w',C w'->K (a.put o.dst v) w')->if Region.wanted o (yielded ops a.tmps)=true then Oper.wp Tryz.prog o a w K Q else K (a.put o.dst undef) w
section
variable {ops:Array Oper}{K:Act->World->Prop}{S C:World->Prop}{bf:Nat->Bool}{n:Nat}{is:List Nat}{a:Act}{w:World}{oi oj:Oper}{Q:Exit->Act->World->Prop}
end
def Iv (b:Bool)(v:Value):Value:=cond b v undef
@[simp] theorem aYi (v:Value):Iv true v=v:=rfl
@[simp] theorem aUa (a:Act) (f:FuncId):Ev a (.func f)=.func (.func f) #[] #[]:=rfl
section
variable {ops:Array Oper}{C:World->Prop}{a:Act}{rest:List Oper}{o:Oper}{d gd j:Nat}{v:Value}{b:Bool}{w:World}{y:Operand}{f:FuncId}{xs:Array Operand}{ats:Array TypeId}{fn:Func}{vs:Array Value}
structure WX (ops:Array Oper)(w:World)(Q:Exit->Act->World->Prop)(l:List Oper)(a:Act):Prop where
 out:∀ w',Ext w w'->WL ops Q l a w'
variable {Q:Exit->Act->World->Prop}
end
section
variable {a b:Int}
theorem wrI (h:-9223372036854775808<=a)(h':a<=9223372036854775807):IntKind.i64.wrap a=a:=IntWalk.i64_in _ ⟨h,h'⟩
theorem tqI (h0:0<=a)(h1:a<=9223372036854775807)(h2:0<b):IntKind.i64.wrap (a.tdiv b)=a / b:=by
 rw [Int.tdiv_eq_ediv_of_nonneg h0];have h3:=Int.ediv_nonneg h0 (Int.le_of_lt h2);have h4:=Int.ediv_le_self b h0;exact wrI U U
theorem tmI (h0:0<=a):a.tmod b=a % b:=Int.tmod_eq_emod_of_nonneg h0
end
section
variable {ops:Array Oper}{Q:Exit->Act->World->Prop}{K:Act->World->Prop}{a:Act}{w w1:World}{rest l:List Oper}{o:Oper}{d id n i:Nat}{v:Value}{c:Code}{S:World->Prop}{bf:Nat->Bool}{is:List Nat}{R:World->Prop}
theorem rD {ops:Array Oper}{c:Code}(S:World->Prop)(bf:Nat->Bool)(n:Nat)(h:WD ops (fun a w=>Q .normal a w) S bf n [] a w.drew)(hc:c=.region id ops true:=by exact rfl)(hm:Tryz.prog.follows .mixedOrders=true:=by kernel_rfl)(hn:ops.size=n:=by kernel_rfl):Code.wp Tryz.prog c Q a w:=by
 subst hc;exact fG S bf n hm hn h
theorem lv (h:WL ops Q rest (Pt a d v) w1)(hg:o.guard=none:=by exact rfl)(hd:o.dst=some d:=by exact rfl)(hrun:(execOp (Ev a) o).run Tryz.prog w=.ok (.value v) w1:=by (simp [execOp,go_sem, *];try simp (disch:=omega) only [tqI,tmI,wrI]);first | exact ⟨rfl,rfl⟩ | rfl):WL ops Q (o :: rest) a w:=l_v hg hd hrun h
theorem ls (h:WL ops Q rest a w1)(hg:o.guard=none:=by exact rfl)(hd:o.dst=none:=by exact rfl)(hrun:(execOp (Ev a) o).run Tryz.prog w=.ok .skip w1:=by simp [execOp,go_sem, *];rfl):WL ops Q (o :: rest) a w:=l_s hg hd hrun h
theorem ly {gd j:Nat}{want b:Bool}(h:WL ops Q rest (Pt a d v) w1)(hg:o.guard=some (j,want):=by exact rfl)(hj:(ops[j]?).bind (fun x=>x.dst)=some gd:=by exact rfl)(hd:o.dst=some d:=by exact rfl)(hs:gd<a.tmps.size:=by simp [*])(he:Ev a (.tmp gd)=.bool b:=by simp [*];rfl)(hb:(b == want)=true:=by exact rfl)(hrun:(execOp (Ev a) o).run Tryz.prog w=.ok (.value v) w1:=by (simp [execOp,go_sem, *];try simp (disch:=omega) only [tqI,tmI,wrI]);first | exact ⟨rfl,rfl⟩ | rfl):WL ops Q (o :: rest) a w:=aPs d v gd hg hj hs he hb hd hrun h
theorem ln {gd j:Nat}{want b:Bool}(h:WL ops Q rest (Pt a d undef) w)(hg:o.guard=some (j,want):=by exact rfl)(hj:(ops[j]?).bind (fun x=>x.dst)=some gd:=by exact rfl)(hd:o.dst=some d:=by exact rfl)(hs:gd<a.tmps.size:=by simp [*])(he:Ev a (.tmp gd)=.bool b:=by simp [*];rfl)(hb:(b == want)=false:=by exact rfl):WL ops Q (o :: rest) a w:=aTa d gd hg hj hs he hb hd h
theorem lE (a0:Act)(L:List Nat)(d:Nat)(h:∀ a',Ag L a0 a'->Ev a' (.tmp d)=v->Q .normal a' w)(hA:Ag L a0 a:=by (repeat refine .put ?_ rfl);exact .rf)(he:Ev a (.tmp d)=v:=by simp [*];rfl):WL ops Q [] a w:=cJ (h a hA he)
theorem lE2 {v':Value}(a0:Act)(L:List Nat)(d d':Nat)(h:∀ a',Ag L a0 a'->Ev a' (.tmp d)=v->Ev a' (.tmp d')=v'->Q .normal a' w)(hA:Ag L a0 a:=by (repeat refine .put ?_ rfl);exact .rf)(he:Ev a (.tmp d)=v:=by simp [*];rfl)(he':Ev a (.tmp d')=v':=by simp [*];rfl):WL ops Q [] a w:=cJ (h a hA he he')
theorem lN (a0:Act)(L:List Nat)(h:∀ a',Ag L a0 a'->Q .normal a' w)(hA:Ag L a0 a:=by (repeat refine .put ?_ rfl);exact .rf):WL ops Q [] a w:=cJ (h a hA)
theorem lc {f:FuncId}{xs:Array Operand}{ats:Array TypeId}{fn:Func}{vs:Array Value}{R:Ending->World->Prop}(hf:Tryz.prog.funcs[f]?=some fn)(hc:Calls Tryz.prog f vs w R)(h:∀ e w',R e w'->∃ v,e=.returned v∧WL ops Q rest (Pt a d v) w')
  (hg:o.guard=none:=by exact rfl)(hd:o.dst=some d:=by exact rfl)(hop:o.op=Op.call { callee:=Callee.value (Operand.func f),args:=xs,argTypes:=ats }:=by exact rfl)(hn:(fn.name == "runtime.NumGoroutine")=false:=by rfl) (hb:fn.body.isNone=false:=by rfl) (hv:xs.map (Ev a)=vs:=by simp [*]):WL ops Q (o :: rest) a w:=l_c hg hd hop hf hn hb hc hv h
theorem lcg {gd j:Nat}{want b:Bool}{f:FuncId}{xs:Array Operand}{ats:Array TypeId}{fn:Func}{vs:Array Value}{R:Ending->World->Prop}(hf:Tryz.prog.funcs[f]?=some fn)(hc:Calls Tryz.prog f vs w R)(h:∀ e w',R e w'->∃ v,e=.returned v∧WL ops Q rest (Pt a d v) w')(hg:o.guard=some (j,want):=by exact rfl)(hj:(ops[j]?).bind (fun x=>x.dst)=some gd:=by exact rfl)(hd:o.dst=some d:=by exact rfl)(hs:gd<a.tmps.size:=by simp [*])(he:Ev a (.tmp gd)=.bool b:=by simp [*];rfl)(hb:(b == want)=true:=by exact rfl)
  (hop:o.op=Op.call { callee:=Callee.value (Operand.func f),args:=xs,argTypes:=ats }:=by exact rfl)(hn:(fn.name == "runtime.NumGoroutine")=false:=by rfl) (hbn:fn.body.isNone=false:=by rfl) (hv:xs.map (Ev a)=vs:=by simp [*]):WL ops Q (o :: rest) a w :=
 aLd d gd hg hj hs he hb hd f xs ats hop fn hf hn hbn vs hv (hc.mono h)
theorem d_E (a0:Act)(L:List Nat)(h:∀ a',Ag L a0 a'->K a' w)(hr:Region.ready .any ops (mkL ops.size is)=[]:=by kernel_rfl)(hA:Ag L a0 a:=by (repeat refine .put ?_ rfl);exact .rf):WD ops K S bf n is a w:=wZ hr (h a hA)
theorem dv (i:Nat)(h:WD ops K S bf n (i :: is) (Pt a d v) w1)(hS:bf i=true->S w1:=by exact fun _=>hS)(hr:Region.ready .any ops (mkL ops.size is)=[i]:=by kernel_rfl)(hi:ops[i]?=some o:=by exact rfl)(hg:o.guard=none:=by exact rfl)(hd:o.dst=some d:=by exact rfl)(hrun:(execOp (Ev a) o).run Tryz.prog w=.ok (.value v) w1:=by (simp [execOp,go_sem, *];try simp (disch:=omega) only [tqI,tmI,wrI]);first | exact ⟨rfl,rfl⟩ | rfl):WD ops K S bf (n+1) is a w:=d_1 i hr hi hg hd hrun hS h
theorem dq (i:Nat)(h:WD ops K S bf n (i :: is) a w1)(hS:bf i=true->S w1:=by exact fun h=>absurd h am)(hr:Region.ready .any ops (mkL ops.size is)=[i]:=by kernel_rfl)(hi:ops[i]?=some o:=by exact rfl)(hg:o.guard=none:=by exact rfl)(hd:o.dst=none:=by exact rfl)(hrun:(execOp (Ev a) o).run Tryz.prog w=.ok .skip w1:=by simp [execOp,go_sem, *];rfl):WD ops K S bf (n+1) is a w:=d_s i hr hi hg hd hrun hS h
theorem dt {N:Nat}(n:Nat)(J:List Nat)(h:WT ops S (fun a'=>WD ops K S bf n (aGk is J) a' w) J a)(hS:S w:=by exact hS)(hN:N=n+J.length:=by exact rfl)(ht:aDa ops bf is J=true:=by kernel_rfl):WD ops K S bf N is a w:=d_t n J hN ht hS h
theorem tv {K':Act->Prop}{J:List Nat}{i:Nat}(h:WT ops S K' J (Pt a d v))(hi:ops[i]?=some o:=by exact rfl)(hg:o.guard=none:=by exact rfl)(hd:o.dst=some d:=by exact rfl)(hy:∀ w,S w->(execOp (Ev a) o).run Tryz.prog w=.ok (.value v) w:=by (intro w hw;simp [execOp,go_sem, *];try simp (disch:=omega) only [tqI,tmI,wrI]);rfl):WT ops S K' (i :: J) a:=t_v hi hg hd hy h
theorem dc {f:FuncId}{xs:Array Operand}{ats:Array TypeId}{fn:Func}{vs:Array Value}{R:Ending->World->Prop}(i:Nat)(hf:Tryz.prog.funcs[f]?=some fn)(hc:Calls Tryz.prog f vs w R)(h:∀ e w',R e w'->∃ v,e=.returned v∧(bf i=true->S w')∧WD ops K S bf n (i :: is) (Pt a d v) w')
  (hr:Region.ready .any ops (mkL ops.size is)=[i]:=by kernel_rfl)(hi:ops[i]?=some o:=by exact rfl)(hg:o.guard=none:=by exact rfl)(hd:o.dst=some d:=by exact rfl)(hop:o.op=Op.call { callee:=Callee.value (Operand.func f),args:=xs,argTypes:=ats }:=by exact rfl)(hn:(fn.name == "runtime.NumGoroutine")=false:=by rfl) (hb:fn.body.isNone=false:=by rfl) (hv:xs.map (Ev a)=vs:=by simp [*]):WD ops K S bf (n+1) is a w:=aIu i d hr hi hg hd f xs ats hop fn hf hn hb vs hv (hc.mono h)
theorem da {s x:Operand}{t e:TypeId}{z:Value}{size bytes:Nat}(i:Nat)(ht:Tryz.prog.underlying t=some (.slice e))(hI:(Tryz.prog.info? e).map (fun i=>(i.zero,i.size,i.bytes))=some (some z,size,bytes))
  {base k:Nat}{v:Value}{xs:List Value} (hown:w.ownsRow base e size v k xs) {T:Nat->Prop}{A:Option Addr}{m c:Nat}{news:List Value} (hsl:Sl w T size A m news) (h63:k+m<=1000000000000) (hbytes:(k+m)*bytes<=140737488355328) (hbase:base<=w.heap.size) (h1:∀ u ∈ news,u.oneCell'=true)
  (h:∀ v' w',w'.ownsRow base e size v' (k+m) (xs ++ news)->Fr (fun k=>some k=v.ownBlock) w w'->(v'.ownBlock=v.ownBlock∨v'.ownBlock=some w.heap.size)->(bf i=true->S w')∧WD ops K S bf n (i :: is) (Pt a d v') w')
  (hr:Region.ready .any ops (mkL ops.size is)=[i]:=by kernel_rfl)(hi:ops[i]?=some o:=by exact rfl)(hg:o.guard=none:=by exact rfl)(hd:o.dst=some d:=by exact rfl)(ho:o.op=.call { callee:=.builtin .append,args:=#[s,x],argTypes:=#[t,t] }:=by exact rfl)(hzs:z.cells.size=size:=by exact rfl)(hsz:0<size:=by omega)(hs:Ev a s=v:=by simp [*])(hx:Ev a x=.slice A m c:=by (simp [*];try rfl)):WD ops K S bf (n+1) is a w:=by
 obtain ⟨i0,hi0,hz0,hz1,hz2⟩:=info_parts hI;refine aEx i hr hi (fun K' hK=>?_);refine eG w hg s x t ho base e i0 z size bytes ht hi0 hz0 hz1 hz2 hzs hsz v k xs hs hown T A m c news hx hsl h1 h63 hbytes hbase ?_;intro v' w' q1 q2 q3;rw [hd];exact hK _ _ (h v' w' q1 q2 q3).1 (h v' w' q1 q2 q3).2
theorem la {s x:Operand}{t e:TypeId}{z:Value}{size bytes:Nat}(ht:Tryz.prog.underlying t=some (.slice e))(hI:(Tryz.prog.info? e).map (fun i=>(i.zero,i.size,i.bytes))=some (some z,size,bytes))
  {base k:Nat}{v:Value}{xs:List Value} (hown:w.ownsRow base e size v k xs) {T:Nat->Prop}{A:Option Addr}{m c:Nat}{news:List Value} (hsl:Sl w T size A m news) (h63:k+m<=1000000000000) (hbytes:(k+m)*bytes<=140737488355328) (hbase:base<=w.heap.size) (h1:∀ u ∈ news,u.oneCell'=true)
  (h:∀ v' w',w'.ownsRow base e size v' (k+m) (xs ++ news)->Fr (fun k=>some k=v.ownBlock) w w'->(v'.ownBlock=v.ownBlock∨v'.ownBlock=some w.heap.size)->WL ops Q rest (Pt a d v') w')
  (hg:o.guard=none:=by exact rfl)(hd:o.dst=some d:=by exact rfl)(ho:o.op=.call { callee:=.builtin .append,args:=#[s,x],argTypes:=#[t,t] }:=by exact rfl)(hzs:z.cells.size=size:=by exact rfl)(hsz:0<size:=by omega)(hs:Ev a s=v:=by simp [*])(hx:Ev a x=.slice A m c:=by (simp [*];try rfl)):WL ops Q (o :: rest) a w :=
 l_a hg hd ho ht hI hzs hsz hown hsl hs hx h1 h63 hbytes hbase h
end
theorem cI {f n:Nat}{fn:Func}{c:Code}{args:Array Value}{w:World}{R:Ending->World->Prop}(hf:Tryz.prog.funcs[f]?=some fn)(hb:fn.body=some c)(hn:fn.ntmps=n)(hs:args.size<=n)
  (h:∀ (a:Act)(Q:Exit->Act->World->Prop),a.tmps.size=n->a.defers=[]->(∀ i v,args[i]?=some v->Ev a (.tmp i)=v)->(∀ (a':Act)(w':World)(v:Value),a'.defers=[]->(results fn a'.tmps).run Tryz.prog w'=.ok v w'->R (.returned v) w'->Q .ret a' w')->Code.wp Tryz.prog c Q a w):Calls Tryz.prog f args w R:=by
 refine calls_of_wp hf hb (h _ _ ?_ rfl ?_ (fun a' w' v hd hr hR=>bodyPost_ret hr hd hR))
 ·simp [hn];omega
 ·intro i v hv
  obtain ⟨hi,rfl⟩:=Array.getElem?_eq_some_iff.1 hv;simp [Ev,Act.eval,Array.getElem?_append,hi]
theorem evT {a:Act}{d:Nat}{v:Value}(h:Ev a (.tmp d)=v):a.tmps[d]?.getD undef=v:=by rw [<- h];simp [Ev,Act.eval]
theorem lE3 {ops:Array Oper}{Q:Exit->Act->World->Prop}{a:Act}{w:World}{v v' v2:Value}(a0:Act)(L:List Nat)(d d' d2:Nat)(h:∀ a',Ag L a0 a'->Ev a' (.tmp d)=v->Ev a' (.tmp d')=v'->Ev a' (.tmp d2)=v2->Q .normal a' w)(hA:Ag L a0 a:=by (repeat refine .put ?_ rfl);exact .rf)(he:Ev a (.tmp d)=v:=by simp [*];rfl)(he':Ev a (.tmp d')=v':=by simp [*];rfl)(he2:Ev a (.tmp d2)=v2:=by simp [*];rfl):WL ops Q [] a w:=cJ (h a hA he he' he2)
def yJ (wd:Nat->Int)(lim:Int):Nat->Nat->Nat
 | 0,i=>i
 | f+1,i=>if wd i<lim then i else yJ wd lim f (i+1)
def place (wd:Nat->Int)(n:Int)(i:Nat):Nat:=yJ wd (18446744073709551616 - 18446744073709551616 % n) 63 i
end Go.Proofs.YtkoeecdjijfjnaaGreat
