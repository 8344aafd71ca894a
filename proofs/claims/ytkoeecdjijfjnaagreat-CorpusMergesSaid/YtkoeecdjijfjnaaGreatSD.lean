/- Contracts of functions, plain laws. Conditions: none. -/
import Derived.Test.YtkoeecdjijfjnaaGreatLU
set_option maxRecDepth 100000
set_option maxHeartbeats 8000000
namespace Go.Proofs.YtkoeecdjijfjnaaGreat
open Go.RowKit
section
variable {ρ:Operand->Value}{o:Oper}{w:World}
end
structure WL (ops:Array Oper)(Q:Exit->Act->World->Prop)(l:List Oper)(a:Act)(w:World):Prop where
 out:wpList Tryz.prog ops Q l a w
theorem oC {id:Nat}{l:List Oper}{Q:Exit->Act->World->Prop}{a:Act}{w:World}(h:WL l.toArray Q l a w):(Code.region id l.toArray false).wp Tryz.prog Q a w:=wp_region_lit h.out
theorem rW {id:Nat}{l:List Oper}{Q:Exit->Act->World->Prop}{a:Act}{w:World}{c:Code}(h:WL l.toArray Q l a w)(hc:c=.region id l.toArray false:=by exact rfl):Code.wp Tryz.prog c Q a w:=by
 subst hc;exact oC h
theorem aJ {ops:Array Oper}{Q:Exit->Act->World->Prop}{a:Act}{w:World}(h:Q .normal a w):WL ops Q [] a w:=⟨h⟩
section
variable {ops:Array Oper}{Q:Exit->Act->World->Prop}{a:Act}{w w1:World}{rest:List Oper}{o:Oper}
theorem aOz (d:Nat)(v:Value)(hg:o.guard=none)(hd:o.dst=some d)(hrun:(execOp a.eval o).run Tryz.prog w=.ok (.value v) w1)(h:WL ops Q rest (a.put (some d) v) w1):WL ops Q (o :: rest) a w:=by
 refine ⟨wpList_plain hg (fun K hK=>?_)⟩;unfold Oper.wp;rw [hrun]
 show K (a.put o.dst v) w1
 rw [hd];exact hK _ _ h.out
theorem aY3 (d:Nat)(v:Value)(hw:Region.wanted o (yielded ops a.tmps)=true)(hd:o.dst=some d)(hrun:(execOp a.eval o).run Tryz.prog w=.ok (.value v) w1)(h:WL ops Q rest (a.put (some d) v) w1):WL ops Q (o :: rest) a w:=by
 refine ⟨wpList_step (fun K hK=>?_)⟩;rw [if_pos hw];unfold Oper.wp;rw [hrun]
 show K (a.put o.dst v) w1
 rw [hd];exact hK _ _ h.out
theorem aTa (hg:o.guard=none)(hd:o.dst=none)(hrun:(execOp a.eval o).run Tryz.prog w=.ok .skip w1)(h:WL ops Q rest a w1):WL ops Q (o :: rest) a w:=by
 refine ⟨wpList_plain hg (fun K hK=>?_)⟩;unfold Oper.wp;rw [hrun]
 show K (a.put o.dst undef) w1
 rw [hd];exact hK _ _ h.out
theorem aTc (d:Nat)(hg:o.guard=none)(hd:o.dst=some d)(f:FuncId)(xs:Array Operand)(ats:Array TypeId)(hop:o.op=Op.call { callee:=Callee.value (Operand.func f),args:=xs,argTypes:=ats })(fn:Func)(hf:Tryz.prog.funcs[f]?=some fn)(hn:(fn.name == "runtime.NumGoroutine")=false) (hb:fn.body.isNone=false) (vs:Array Value) (hv:xs.map a.eval=vs)
  (h:Calls Tryz.prog f vs w fun e w'=>∃ v,e=.returned v∧WL ops Q rest (a.put (some d) v) w'):WL ops Q (o :: rest) a w:=by
 refine ⟨wpList_step (fun K hK=>?_)⟩;refine uR hg f xs ats hop fn hf hn hb vs hv (h.mono ?_);rintro e w' ⟨v,rfl,h2⟩;exact ⟨v,rfl,by rw [hd];exact hK _ _ h2.out⟩
theorem dJ {j d:Nat}{want b:Bool}(hg:o.guard=some (j,want))(hj:(ops[j]?).bind (fun x=>x.dst)=some d)(hd:d<a.tmps.size)(he:a.eval (.tmp d)=.bool b):Region.wanted o (yielded ops a.tmps)=(b == want):=by
 have h1:a.tmps[d]?=some (.bool b):=by
  have h2:a.tmps.getD d undef=.bool b:=he;simp only [Array.getD,hd,dite_true] at h2;rw [Array.getElem?_eq_getElem hd];exact congrArg some h2
 have h3:yielded ops a.tmps j=some b:=by
  unfold yielded;rw [show ((ops[j]?).bind (fun x=>x.dst)).bind (fun x=>a.tmps[x]?)=some (.bool b) by rw [hj];exact h1]
 simp only [Region.wanted,hg,h3]
 cases b <;> cases want <;> rfl
theorem aTb (d gd:Nat){j:Nat}{want b:Bool}(hg:o.guard=some (j,want))(hj:(ops[j]?).bind (fun x=>x.dst)=some gd)(hs:gd<a.tmps.size)(he:a.eval (.tmp gd)=.bool b)(hb:(b == want)=false)(hd:o.dst=some d)(h:WL ops Q rest (a.put (some d) undef) w):WL ops Q (o :: rest) a w:=by
 refine ⟨wpList_skip dy ?_⟩;rw [hd];exact h.out
theorem aO0 (d:Nat)(v:Value)(gd:Nat){j:Nat}{want b:Bool}(hg:o.guard=some (j,want))(hj:(ops[j]?).bind (fun x=>x.dst)=some gd)(hs:gd<a.tmps.size)(he:a.eval (.tmp gd)=.bool b)(hb:(b == want)=true)(hd:o.dst=some d)(hrun:(execOp a.eval o).run Tryz.prog w=.ok (.value v) w1)(h:WL ops Q rest (a.put (some d) v) w1):WL ops Q (o :: rest) a w :=
 aY3 d v dy hd hrun h
theorem aIh (s x:Operand)(t:TypeId)(d:Nat)(hgd:o.guard=none)(hd:o.dst=some d)
  (ho:o.op=.call { callee:=.builtin .append,args:=#[s,x],argTypes:=#[t,t] })
  (base:Nat)(e:TypeId)(i:TypeInfo)(z:Value)(size bytes:Nat)(ht:Tryz.prog.underlying t=some (.slice e))(hi:Tryz.prog.info? e=some i)(hz:i.zero=some z)
  (hsize:i.size=size)(hby:i.bytes=bytes)(hzs:z.cells.size=size)(hsz:0<size)
  (v:Value)(n:Nat)(xs:List Value)(hs:a.eval s=v)(hown:w.ownsRow base e size v n xs)
  (S:Nat->Prop)(A:Option Addr)(m c:Nat)(news:List Value)(hx:a.eval x=.slice A m c)(hr:Sl w S size A m news)(h1:∀ u ∈ news,u.oneCell'=true)
  (h63:n+m<=1000000000000)(hbytes:(n+m)*bytes<=140737488355328)(hbase:base<=w.heap.size)
  (h:∀ v' w',w'.ownsRow base e size v' (n+m) (xs ++ news)->Fr (fun k=>some k=v.ownBlock) w w'->(v'.ownBlock=v.ownBlock∨v'.ownBlock=some w.heap.size)->WL ops Q rest (a.put (some d) v') w'):WL ops Q (o :: rest) a w :=
 ⟨aI w hgd s x t ho base e i z size bytes ht hi hz hsize hby hzs hsz v n xs hs hown S A m c news hx hr h1 h63 hbytes hbase (fun v' w' q1 q2 q3=>by rw [hd];exact (h v' w' q1 q2 q3).out)⟩
end
section
variable {ρ:Operand->Value}{o:Oper}{w:World}
end
theorem uI {P:Program}{o:Oper}{a:Act}{w:World}{K:Act->World->Prop}{Q:Exit->Act->World->Prop}(f:FuncId)(xs:Array Operand)(ats:Array TypeId)
  (hop:o.op=Op.call { callee:=Callee.value (Operand.func f),args:=xs,argTypes:=ats })(fn:Func)(hf:P.funcs[f]?=some fn)(hn:(fn.name == "runtime.NumGoroutine")=false) (hb:fn.body.isNone=false) (vs:Array Value) (hv:xs.map a.eval=vs) (h:Calls P f vs w fun e w'=>∃ v,e=.returned v∧K (a.put o.dst v) w') :
  Oper.wp P o a w K Q:=by
 unfold Oper.wp;obtain ⟨dst,op,ty,pos,after,guard⟩:=o;simp only at hop;subst hop;rw [execOp_call_go,hv];subst hv;have hp:Sem.run P program w=.ok P w:=rfl;simp only [callFunc,Array.append_empty,Array.empty_append,Sem.run_bind,hp,Result.andThen_ok,hf,hn,hb,Bool.false_eq_true,if_false,Sem.run_pure,Oper.upon];refine h.mono ?_;rintro e w' ⟨v,rfl,hk⟩;exact hk
section
variable {ops:Array Oper}{Q:Exit->Act->World->Prop}{a:Act}{w w1:World}{rest:List Oper}{o:Oper}
theorem aEq (d gd:Nat){j:Nat}{want b:Bool}(hg:o.guard=some (j,want))(hj:(ops[j]?).bind (fun x=>x.dst)=some gd)(hs:gd<a.tmps.size)(he:a.eval (.tmp gd)=.bool b)(hbw:(b == want)=true)(hd:o.dst=some d)(f:FuncId)(xs:Array Operand)(ats:Array TypeId)(hop:o.op=Op.call { callee:=Callee.value (Operand.func f),args:=xs,argTypes:=ats })(fn:Func)(hf:Tryz.prog.funcs[f]?=some fn)(hn:(fn.name == "runtime.NumGoroutine")=false) (hb:fn.body.isNone=false) (vs:Array Value) (hv:xs.map a.eval=vs)
  (h:Calls Tryz.prog f vs w fun e w'=>∃ v,e=.returned v∧WL ops Q rest (a.put (some d) v) w'):WL ops Q (o :: rest) a w:=by
 have hw:Region.wanted o (yielded ops a.tmps)=true:=ij
 refine ⟨wpList_step (fun K hK=>?_)⟩;rw [if_pos hw];refine uI f xs ats hop fn hf hn hb vs hv (h.mono ?_);rintro e w' ⟨v,rfl,h2⟩;exact ⟨v,rfl,by rw [hd];exact hK _ _ h2.out⟩
end
structure WQ (ops:Array Oper)(C:World->Prop)(K:Act->Prop)(l:List Oper)(a:Act):Prop where
 out:wpQuiet Tryz.prog ops C K l a
section
variable {ops:Array Oper}{C:World->Prop}{K:Act->Prop}{a:Act}{rest:List Oper}{o:Oper}
theorem cM {id:Nat}{Q:Exit->Act->World->Prop}{w:World}{l:List Oper}(C:World->Prop)(hm:Tryz.prog.follows .mixedOrders=true)(hB:Region.lexB .any l.toArray=true)(hC:C w.drew)
  (h:WQ l.toArray C (fun a'=>∀ w',C w'->Q .normal a' w') l a):(Code.region id l.toArray true).wp Tryz.prog Q a w :=
 wp_region_quiet (C:=C) hm hB hC (by simpa using h.out)
theorem nD (h:K a):WQ ops C K [] a:=⟨h⟩
theorem aSx (d:Nat)(v:Value)(hw:Region.wanted o (yielded ops a.tmps)=true)(hd:o.dst=some d)(hrun:∀ w,C w->o.quietAt Tryz.prog a C w v)(h:WQ ops C K rest (a.put (some d) v)):WQ ops C K (o :: rest) a:=by
 refine ⟨Go.BigFrame.wpQuiet_want hw (fun K hK=>⟨v,hrun,?_⟩)⟩;rw [hd];exact hK _ h.out
theorem vL {v:Value}{w:World}(h:(execOp a.eval o).run Tryz.prog w=.ok (.value v) w):o.quietAt Tryz.prog a C w v:=by
 unfold Oper.quietAt;rw [h];exact ⟨rfl,rfl⟩
theorem aOn (d:Nat)(v:Value)(hg:o.guard=none)(hd:o.dst=some d)(hrun:∀ w,C w->(execOp a.eval o).run Tryz.prog w=.ok (.value v) w)(h:WQ ops C K rest (a.put (some d) v)):WQ ops C K (o :: rest) a :=
 aSx d v ct hd (fun w hw=>vL (hrun w hw)) h
theorem aWo (d:Nat)(v:Value)(gd:Nat){j:Nat}{want b:Bool}(hg:o.guard=some (j,want))(hj:(ops[j]?).bind (fun x=>x.dst)=some gd)(hs:gd<a.tmps.size)(he:a.eval (.tmp gd)=.bool b)(hb:(b == want)=true)(hd:o.dst=some d)(hrun:∀ w,C w->(execOp a.eval o).run Tryz.prog w=.ok (.value v) w)(h:WQ ops C K rest (a.put (some d) v)):WQ ops C K (o :: rest) a :=
 aSx d v dy hd (fun w hw=>vL (hrun w hw)) h
theorem aWp (d gd:Nat){j:Nat}{want b:Bool}(hg:o.guard=some (j,want))(hj:(ops[j]?).bind (fun x=>x.dst)=some gd)(hs:gd<a.tmps.size)(he:a.eval (.tmp gd)=.bool b)(hb:(b == want)=false)(hd:o.dst=some d)(h:WQ ops C K rest (a.put (some d) undef)):WQ ops C K (o :: rest) a:=by
 refine ⟨Go.BigFrame.wpQuiet_skip dy ?_⟩;rw [hd];exact h.out
theorem zO {v:Value}{w:World}(f:FuncId)(xs:Array Operand)(ats:Array TypeId)(hop:o.op=Op.call { callee:=Callee.value (Operand.func f),args:=xs,argTypes:=ats })(fn:Func)(hf:Tryz.prog.funcs[f]?=some fn)(hn:(fn.name == "runtime.NumGoroutine")=false) (hb:fn.body.isNone=false) (vs:Array Value) (hv:xs.map a.eval=vs)
  (h:Calls Tryz.prog f vs w fun e w'=>e=.returned v∧C w'):o.quietAt Tryz.prog a C w v:=by
 unfold Oper.quietAt;obtain ⟨dst,op,ty,pos,after,guard⟩:=o;simp only at hop;subst hop;rw [execOp_call_go,hv];subst hv;have hp:Sem.run Tryz.prog program w=.ok Tryz.prog w:=rfl;simp only [callFunc,Array.append_empty,Array.empty_append,Sem.run_bind,hp,Result.andThen_ok,hf,hn,hb,Bool.false_eq_true,if_false,Sem.run_pure,Oper.quietUpon];exact ⟨trivial,h⟩
theorem aSw (d:Nat)(v:Value)(hg:o.guard=none)(hd:o.dst=some d)(f:FuncId)(xs:Array Operand)(ats:Array TypeId)(hop:o.op=Op.call { callee:=Callee.value (Operand.func f),args:=xs,argTypes:=ats })(fn:Func)(hf:Tryz.prog.funcs[f]?=some fn)(hn:(fn.name == "runtime.NumGoroutine")=false) (hb:fn.body.isNone=false) (vs:Array Value) (hv:xs.map a.eval=vs)
  (hc:∀ w,C w->Calls Tryz.prog f vs w fun e w'=>e=.returned v∧C w')(h:WQ ops C K rest (a.put (some d) v)):WQ ops C K (o :: rest) a :=
 aSx d v ct hd (fun w hw=>zO f xs ats hop fn hf hn hb vs hv (hc w hw)) h
theorem aOo (d:Nat)(v:Value)(gd:Nat){j:Nat}{want b:Bool}(hg:o.guard=some (j,want))(hj:(ops[j]?).bind (fun x=>x.dst)=some gd)(hs:gd<a.tmps.size)(he:a.eval (.tmp gd)=.bool b)(hbw:(b == want)=true)(hd:o.dst=some d)(f:FuncId)(xs:Array Operand)(ats:Array TypeId)(hop:o.op=Op.call { callee:=Callee.value (Operand.func f),args:=xs,argTypes:=ats })(fn:Func)(hf:Tryz.prog.funcs[f]?=some fn)(hn:(fn.name == "runtime.NumGoroutine")=false) (hb:fn.body.isNone=false) (vs:Array Value) (hv:xs.map a.eval=vs)
  (hc:∀ w,C w->Calls Tryz.prog f vs w fun e w'=>e=.returned v∧C w')(h:WQ ops C K rest (a.put (some d) v)):WQ ops C K (o :: rest) a :=
 aSx d v ij hd (fun w hw=>zO f xs ats hop fn hf hn hb vs hv (hc w hw)) h
end
def mkL (n:Nat):List Nat->Array Bool
 | []=>Array.replicate n false
 | i :: is=>(mkL n is).setIfInBounds i true
def NQ (K:Act->World->Prop):Exit->Act->World->Prop:=fun e a w=>e=.normal∧K a w
def tkB (ops:Array Oper)(bf:Nat->Bool)(is:List Nat)(i:Nat):Bool:=Region.noSelect ops && (Region.free .any ops (mkL ops.size is) i && ((Region.ready .any ops (mkL ops.size is)).contains i && aLu .any ops bf i))
structure WD (ops:Array Oper)(K:Act->World->Prop)(S:World->Prop)(bf:Nat->Bool)(n:Nat)(is:List Nat)(a:Act)(w:World):Prop where
 out:gR Tryz.prog .any ops (NQ K) S bf n (mkL ops.size is) a w
section
variable {ops:Array Oper}{K:Act->World->Prop}{S:World->Prop}{bf:Nat->Bool}{n:Nat}{is:List Nat}{a:Act}{w w1:World}{o:Oper}
theorem dV {id:Nat}{Q:Exit->Act->World->Prop}(S:World->Prop)(bf:Nat->Bool)(n:Nat)(hm:Tryz.prog.follows .mixedOrders=true)(hn:ops.size=n)(h:WD ops (fun a w=>Q .normal a w) S bf n [] a w.drew):(Code.region id ops true).wp Tryz.prog Q a w:=by
 subst hn;refine wp_mono (xG S bf hm h.out) ?_;rintro e a w ⟨rfl,h⟩;exact h
theorem wO (hr:Region.ready .any ops (mkL ops.size is)=[])(h:K a w):WD ops K S bf n is a w:=⟨xI hr ⟨rfl,h⟩ n⟩
theorem aI3 (i d:Nat)(v:Value)(hi:ops[i]?=some o)(hd:o.dst=some d)(ht:tkB ops bf is i=true)(hy:YieldsIf Tryz.prog ops S o v a)(hS:S w)(h:WD ops K S bf n (i :: is) (a.put (some d) v) w):WD ops K S bf (n+1) is a w:=by
 simp only [tkB,Bool.and_eq_true] at ht;refine ⟨xH hi ht.1 ht.2.1 ht.2.2.1 ht.2.2.2 (fun _ _ _ h=>absurd h.1 U) hy hS ?_⟩;rw [hd];exact h.out
theorem aI4 (i:Nat)(hr:Region.ready .any ops (mkL ops.size is)=[i])(hi:ops[i]?=some o)
  (h:∀ K':Act->World->Prop,(∀ a' w',(bf i=true->S w')->WD ops K S bf n (i :: is) a' w'->K' a' w')->if Region.wanted o (yielded ops a.tmps)=true then Oper.wp Tryz.prog o a w K' (NQ K) else K' (a.put o.dst undef) w):WD ops K S bf (n+1) is a w :=
 ⟨aA3 hr hi (fun K' hK=>h K' (fun a' w' h1 h2=>hK a' w' h1 h2.out))⟩
theorem aTk (i:Nat)(hr:Region.ready .any ops (mkL ops.size is)=[i])(hi:ops[i]?=some o)(hg:o.guard=none)(hd:o.dst=none)
  (hrun:(execOp a.eval o).run Tryz.prog w=.ok .skip w1)(hS:bf i=true->S w1)(h:WD ops K S bf n (i :: is) a w1):WD ops K S bf (n+1) is a w:=by
 refine aI4 i hr hi (fun K' hK=>?_);have hw:Region.wanted o (yielded ops a.tmps)=true:=by simp [Region.wanted,hg]
 rw [if_pos hw];unfold Oper.wp;rw [hrun]
 show K' (a.put o.dst undef) w1
 rw [hd];exact hK _ _ hS h
theorem aE6 (i d:Nat)(hr:Region.ready .any ops (mkL ops.size is)=[i])(hi:ops[i]?=some o)(hw:Region.wanted o (yielded ops a.tmps)=true)(hd:o.dst=some d)(f:FuncId)(xs:Array Operand)(ats:Array TypeId)(hop:o.op=Op.call { callee:=Callee.value (Operand.func f),args:=xs,argTypes:=ats })(fn:Func)(hf:Tryz.prog.funcs[f]?=some fn)(hn:(fn.name == "runtime.NumGoroutine")=false) (hb:fn.body.isNone=false) (vs:Array Value) (hv:xs.map a.eval=vs)
  (h:Calls Tryz.prog f vs w fun e w'=>∃ v,e=.returned v∧(bf i=true->S w')∧WD ops K S bf n (i :: is) (a.put (some d) v) w'):WD ops K S bf (n+1) is a w:=by
 refine aI4 i hr hi (fun K' hK=>?_);rw [if_pos hw];refine uI f xs ats hop fn hf hn hb vs hv (h.mono ?_);rintro e w' ⟨v,rfl,h1,h2⟩;exact ⟨v,rfl,by rw [hd];exact hK _ _ h1 h2⟩
theorem aKy (i d:Nat)(hr:Region.ready .any ops (mkL ops.size is)=[i])(hi:ops[i]?=some o)(hg:o.guard=none)(hd:o.dst=some d)(f:FuncId)(xs:Array Operand)(ats:Array TypeId)(hop:o.op=Op.call { callee:=Callee.value (Operand.func f),args:=xs,argTypes:=ats })(fn:Func)(hf:Tryz.prog.funcs[f]?=some fn)(hn:(fn.name == "runtime.NumGoroutine")=false) (hb:fn.body.isNone=false) (vs:Array Value) (hv:xs.map a.eval=vs)
  (h:Calls Tryz.prog f vs w fun e w'=>∃ v,e=.returned v∧(bf i=true->S w')∧WD ops K S bf n (i :: is) (a.put (some d) v) w'):WD ops K S bf (n+1) is a w :=
 aE6 i d hr hi ct hd f xs ats hop fn hf hn hb vs hv h
theorem aO6 (i d gd:Nat){j:Nat}{want b:Bool}(hr:Region.ready .any ops (mkL ops.size is)=[i])(hi:ops[i]?=some o)(hg:o.guard=some (j,want))(hj:(ops[j]?).bind (fun x=>x.dst)=some gd)(hs:gd<a.tmps.size)(he:a.eval (.tmp gd)=.bool b)(hbw:(b == want)=true)(hd:o.dst=some d)(f:FuncId)(xs:Array Operand)(ats:Array TypeId)(hop:o.op=Op.call { callee:=Callee.value (Operand.func f),args:=xs,argTypes:=ats })(fn:Func)(hf:Tryz.prog.funcs[f]?=some fn)(hn:(fn.name == "runtime.NumGoroutine")=false) (hb:fn.body.isNone=false) (vs:Array Value) (hv:xs.map a.eval=vs)
  (h:Calls Tryz.prog f vs w fun e w'=>∃ v,e=.returned v∧(bf i=true->S w')∧WD ops K S bf n (i :: is) (a.put (some d) v) w'):WD ops K S bf (n+1) is a w :=
 aE6 i d hr hi ij hd f xs ats hop fn hf hn hb vs hv h
end
theorem uH {k:Nat}(h:k<=1000000):IntKind.i64.wrap ((k:Int)+1)=(k:Int)+1:=IntWalk.i64_in _ D
def Ev (a:Act):Operand->Value:=a.eval
def Pt (a:Act)(d:Nat)(v:Value):Act:=a.put (some d) v
@[simp] theorem aUt (a:Act) (v:Value):Ev a (.const v)=v:=rfl
@[simp] theorem aUm (a:Act) (d e:Nat) (v:Value):Ev (Pt a d v) (.tmp e)=if d=e then (if d<a.tmps.size then v else undef) else Ev a (.tmp e):=vp a d e v
@[simp] theorem aT2 (a:Act) (d:Nat) (v:Value):(Pt a d v).tmps.size=a.tmps.size:=zp a d v
structure Ag (l:List Nat)(a a':Act):Prop where
 sz:a'.tmps.size=a.tmps.size
 df:a'.defers=a.defers
 ev:∀ t ∈ l,Ev a' (.tmp t)=Ev a (.tmp t)
section
variable {l:List Nat}{a a' a'':Act}{d:Nat}{v:Value}
theorem Ag.rf:Ag l a a:=⟨rfl,rfl,fun _ _=>rfl⟩
theorem Ag.put (h:Ag l a a')(hd:l.contains d=false):Ag l a (Pt a' d v) :=
 ⟨by rw [aT2];exact h.sz,h.df,fun t ht=>by
  rw [aUm,if_neg (fun e=>by subst e;simp [ht] at hd)];exact h.ev t ht⟩
theorem Ag.get (h:Ag l a a')(t:Nat)(e:Ev a (.tmp t)=v)(ht:l.contains t=true:=by rfl):Ev a' (.tmp t)=v:=by
 rw [h.ev t (by simpa using ht)];exact e
theorem Ag.trans (h:Ag l a a')(h':Ag l a' a''):Ag l a a'':=⟨h'.sz.trans h.sz,h'.df.trans h.df,fun t ht=>(h'.ev t ht).trans (h.ev t ht)⟩
theorem Ag.mono {l l':List Nat}{a a':Act}(h:Ag l a a')(hl:l'.all l.contains=true):Ag l' a a':=⟨h.sz,h.df,fun t ht=>h.ev t (by simpa using List.all_eq_true.1 hl t ht)⟩
end
section
variable {ops:Array Oper}{Q:Exit->Act->World->Prop}{a:Act}{w w1:World}{rest:List Oper}{o:Oper}{d:Nat}{v:Value}
theorem l_v (hg:o.guard=none)(hd:o.dst=some d)(hrun:(execOp (Ev a) o).run Tryz.prog w=.ok (.value v) w1)(h:WL ops Q rest (Pt a d v) w1):WL ops Q (o :: rest) a w:=aOz d v hg hd hrun h
theorem lV (h:WL ops Q rest (Pt a d v) w1)(hg:o.guard=none:=by exact rfl)(hd:o.dst=some d:=by exact rfl)(hrun:(execOp (Ev a) o).run Tryz.prog w=.ok (.value v) w1:=by simp [execOp,go_sem, *];exact ⟨rfl,rfl⟩):WL ops Q (o :: rest) a w:=l_v hg hd hrun h
theorem l_s (hg:o.guard=none)(hd:o.dst=none)(hrun:(execOp (Ev a) o).run Tryz.prog w=.ok .skip w1)(h:WL ops Q rest a w1):WL ops Q (o :: rest) a w:=aTa hg hd hrun h
theorem l_a {s x:Operand}{t e:TypeId}{z:Value}{size bytes:Nat}(hg:o.guard=none)(hd:o.dst=some d)(ho:o.op=.call { callee:=.builtin .append,args:=#[s,x],argTypes:=#[t,t] })(ht:Tryz.prog.underlying t=some (.slice e))(hI:(Tryz.prog.info? e).map (fun i=>(i.zero,i.size,i.bytes))=some (some z,size,bytes))(hzs:z.cells.size=size)(hsz:0<size)
  {base n:Nat}{v:Value}{xs:List Value} (hown:w.ownsRow base e size v n xs) {S:Nat->Prop}{A:Option Addr}{m c:Nat}{news:List Value} (hsl:Sl w S size A m news) (hs:Ev a s=v) (hx:Ev a x=.slice A m c) (h1:∀ u ∈ news,u.oneCell'=true) (h63:n+m<=1000000000000) (hbytes:(n+m)*bytes<=140737488355328) (hbase:base<=w.heap.size)
  (h:∀ v' w',w'.ownsRow base e size v' (n+m) (xs ++ news)->Fr (fun k=>some k=v.ownBlock) w w'->(v'.ownBlock=v.ownBlock∨v'.ownBlock=some w.heap.size)->WL ops Q rest (Pt a d v') w'):WL ops Q (o :: rest) a w:=by
 obtain ⟨i0,hi,hz0,hz1,hz2⟩:=info_parts hI;exact aIh s x t d hg hd ho base e i0 z size bytes ht hi hz0 hz1 hz2 hzs hsz v n xs hs hown S A m c news hx hsl h1 h63 hbytes hbase h
theorem l_c {f:FuncId}{xs:Array Operand}{ats:Array TypeId}{fn:Func}{vs:Array Value}{R:Ending->World->Prop}(hg:o.guard=none)(hd:o.dst=some d)(hop:o.op=Op.call { callee:=Callee.value (Operand.func f),args:=xs,argTypes:=ats })(hf:Tryz.prog.funcs[f]?=some fn)(hn:(fn.name == "runtime.NumGoroutine")=false) (hb:fn.body.isNone=false)
  (hc:Calls Tryz.prog f vs w R)(hv:xs.map (Ev a)=vs)(h:∀ e w',R e w'->∃ v,e=.returned v∧WL ops Q rest (Pt a d v) w'):WL ops Q (o :: rest) a w :=
 aTc d hg hd f xs ats hop fn hf hn hb vs hv (hc.mono h)
end
section
variable {ops:Array Oper}{C:World->Prop}{K:Act->Prop}{a:Act}{rest:List Oper}{o:Oper}{d gd:Nat}{v:Value}{j:Nat}{want b:Bool}
theorem q_v (hg:o.guard=none)(hd:o.dst=some d)(hrun:∀ w,C w->(execOp (Ev a) o).run Tryz.prog w=.ok (.value v) w)(h:WQ ops C K rest (Pt a d v)):WQ ops C K (o :: rest) a:=aOn d v hg hd hrun h
theorem q_y (hg:o.guard=some (j,want))(hj:(ops[j]?).bind (fun x=>x.dst)=some gd)(hd:o.dst=some d)(hs:gd<a.tmps.size)(he:Ev a (.tmp gd)=.bool b)(hb:(b == want)=true)(hrun:∀ w,C w->(execOp (Ev a) o).run Tryz.prog w=.ok (.value v) w)(h:WQ ops C K rest (Pt a d v)):WQ ops C K (o :: rest) a:=aWo d v gd hg hj hs he hb hd hrun h
theorem q_n (hg:o.guard=some (j,want))(hj:(ops[j]?).bind (fun x=>x.dst)=some gd)(hd:o.dst=some d)(hs:gd<a.tmps.size)(he:Ev a (.tmp gd)=.bool b)(hb:(b == want)=false)(h:WQ ops C K rest (Pt a d undef)):WQ ops C K (o :: rest) a:=aWp d gd hg hj hs he hb hd h
theorem q_c {f:FuncId}{xs:Array Operand}{ats:Array TypeId}{fn:Func}{vs:Array Value}(hg:o.guard=none)(hd:o.dst=some d)(hop:o.op=Op.call { callee:=Callee.value (Operand.func f),args:=xs,argTypes:=ats })(hf:Tryz.prog.funcs[f]?=some fn)(hn:(fn.name == "runtime.NumGoroutine")=false) (hb:fn.body.isNone=false)
  (hc:∀ w,C w->Calls Tryz.prog f vs w fun e w'=>e=.returned v∧C w')(hv:xs.map (Ev a)=vs)(h:WQ ops C K rest (Pt a d v)):WQ ops C K (o :: rest) a:=aSw d v hg hd f xs ats hop fn hf hn hb vs hv hc h
theorem aYy {f:FuncId}{xs:Array Operand}{ats:Array TypeId}{fn:Func}{vs:Array Value}(hg:o.guard=some (j,want))(hj:(ops[j]?).bind (fun x=>x.dst)=some gd)(hd:o.dst=some d)(hs:gd<a.tmps.size)(he:Ev a (.tmp gd)=.bool b)(hbw:(b == want)=true)(hop:o.op=Op.call { callee:=Callee.value (Operand.func f),args:=xs,argTypes:=ats })(hf:Tryz.prog.funcs[f]?=some fn)(hn:(fn.name == "runtime.NumGoroutine")=false) (hb:fn.body.isNone=false)
  (hc:∀ w,C w->Calls Tryz.prog f vs w fun e w'=>e=.returned v∧C w')(hv:xs.map (Ev a)=vs)(h:WQ ops C K rest (Pt a d v)):WQ ops C K (o :: rest) a:=aOo d v gd hg hj hs he hbw hd f xs ats hop fn hf hn hb vs hv hc h
end
section
variable {ops:Array Oper}{K:Act->World->Prop}{S:World->Prop}{bf:Nat->Bool}{n:Nat}{is:List Nat}{a:Act}{w w1:World}{o:Oper}{d gd:Nat}{v:Value}{j:Nat}{want b:Bool}
def WTd (ops:Array Oper)(S:World->Prop)(K':Act->Prop):List Nat->Act->Prop
 | [],a=>K' a
 | i :: J,a=>∃ o d v,ops[i]?=some o∧o.dst=some d∧YieldsIf Tryz.prog ops S o v a∧WTd ops S K' J (a.put (some d) v)
structure WT (ops:Array Oper)(S:World->Prop)(K':Act->Prop)(J:List Nat)(a:Act):Prop where
 out:WTd ops S K' J a
def aCr (ops:Array Oper)(bf:Nat->Bool):List Nat->List Nat->Bool
 | _,[]=>true
 | is,i :: J=>tkB ops bf is i && aCr ops bf (i :: is) J
def aGr:List Nat->List Nat->List Nat
 | is,[]=>is
 | is,i :: J=>aGr (i :: is) J
theorem aX4 {n:Nat}{K':Act->Prop}(hS:S w):∀ (J is:List Nat)(a:Act),aCr ops bf is J=true->WTd ops S K' J a->(∀ a',K' a'->WD ops K S bf n (aGr is J) a' w)->WD ops K S bf (n+J.length) is a w
 | [],is,a,_,h,hK=>hK a h
 | i :: J,is,a,ht,h,hK=>by
  obtain ⟨o,d,v,hi,hd,hy,h'⟩:=h;simp only [aCr,Bool.and_eq_true] at ht;have h2:=aX4 (n:=n) hS J (i :: is) (a.put (some d) v) ht.2 h' hK;exact aI3 i d v hi hd ht.1 hy hS h2
theorem d_t {N:Nat}(n:Nat)(J:List Nat)(hN:N=n+J.length)(ht:aCr ops bf is J=true)(hS:S w)(h:WT ops S (fun a'=>WD ops K S bf n (aGr is J) a' w) J a):WD ops K S bf N is a w:=by
 subst hN;exact aX4 hS J is a ht h.out (fun _ h=>h)
section
variable {K':Act->Prop}{J:List Nat}{i:Nat}
theorem t_e (h:K' a):WT ops S K' [] a:=⟨h⟩
theorem t_v (hi:ops[i]?=some o)(hg:o.guard=none)(hd:o.dst=some d)(hy:∀ w,S w->(execOp (Ev a) o).run Tryz.prog w=.ok (.value v) w)(h:WT ops S K' J (Pt a d v)):WT ops S K' (i :: J) a :=
 ⟨⟨o,d,v,hi,hd,.inl ⟨ct,hy⟩,h.out⟩⟩
theorem t_y (hi:ops[i]?=some o)(hg:o.guard=some (j,want))(hj:(ops[j]?).bind (fun x=>x.dst)=some gd)(hd:o.dst=some d)(hs:gd<a.tmps.size)(he:Ev a (.tmp gd)=.bool b)(hb:(b == want)=true)(hy:∀ w,S w->(execOp (Ev a) o).run Tryz.prog w=.ok (.value v) w)(h:WT ops S K' J (Pt a d v)):WT ops S K' (i :: J) a :=
 ⟨⟨o,d,v,hi,hd,.inl ⟨dy,hy⟩,h.out⟩⟩
theorem t_n (hi:ops[i]?=some o)(hg:o.guard=some (j,want))(hj:(ops[j]?).bind (fun x=>x.dst)=some gd)(hd:o.dst=some d)(hs:gd<a.tmps.size)(he:Ev a (.tmp gd)=.bool b)(hb:(b == want)=false)(h:WT ops S K' J (Pt a d undef)):WT ops S K' (i :: J) a :=
 ⟨⟨o,d,undef,hi,hd,.inr ⟨dy,rfl⟩,h.out⟩⟩
end
theorem d_1 (i:Nat)(hr:Region.ready .any ops (mkL ops.size is)=[i])(hi:ops[i]?=some o)(hg:o.guard=none)(hd:o.dst=some d)
  (hrun:(execOp (Ev a) o).run Tryz.prog w=.ok (.value v) w1)(hS:bf i=true->S w1)(h:WD ops K S bf n (i :: is) (Pt a d v) w1):WD ops K S bf (n+1) is a w:=by
 refine aI4 i hr hi (fun K' hK=>?_);have hw:Region.wanted o (yielded ops a.tmps)=true:=by simp [Region.wanted,hg]
 rw [if_pos hw];unfold Oper.wp;rw [show (execOp a.eval o).run Tryz.prog w=.ok (.value v) w1 from hrun]
 show K' (a.put o.dst v) w1
 rw [hd];exact hK _ _ hS h
theorem d_s (i:Nat)(hr:Region.ready .any ops (mkL ops.size is)=[i])(hi:ops[i]?=some o)(hg:o.guard=none)(hd:o.dst=none)
  (hrun:(execOp (Ev a) o).run Tryz.prog w=.ok .skip w1)(hS:bf i=true->S w1)(h:WD ops K S bf n (i :: is) a w1):WD ops K S bf (n+1) is a w:=aTk i hr hi hg hd hrun hS h
end
def aZf (ops:Array Oper)(C:World->Prop)(Q:Exit->Act->World->Prop)(o:Oper)(v:Value)(a:Act):Prop :=
 ∀ w,C w->∀ K:Act->World->Prop,(∀ w',C w'->K (a.put o.dst v) w')->if Region.wanted o (yielded ops a.tmps)=true then Oper.wp Tryz.prog o a w K Q else K (a.put o.dst undef) w
section
variable {ops:Array Oper}{K:Act->World->Prop}{S C:World->Prop}{bf:Nat->Bool}{n:Nat}{is:List Nat}{a:Act}{w:World}{oi oj:Oper}{Q:Exit->Act->World->Prop}
end
end Go.Proofs.YtkoeecdjijfjnaaGreat
