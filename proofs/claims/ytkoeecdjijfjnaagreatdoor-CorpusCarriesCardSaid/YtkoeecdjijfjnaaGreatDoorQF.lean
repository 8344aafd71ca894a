/- Contracts and laws. Conditions: none. -/
import Derived.Shelf.LaysM
import Derived.Shelf.LaysC
import Derived.Shelf.Strconv.Itoa3
import Derived.Shelf.Strconv.ErrVarAll
import Derived.Lib.ItoaNum
import Derived.Lib.AtoiAll
import Derived.Lib.AppendIntMem
import Derived.Test.YtkoeecdjijfjnaaGreatDoorH6
set_option linter.all false
set_option maxRecDepth 100000
set_option maxHeartbeats 8000000
namespace Go.Proofs.YtkoeecdjijfjnaaGreatDoor
open Go.Shelf
def Tryz.laysM171_ren:Go.Shelf.Ren:=⟨fun | 171=>144 | 243=>148 | 246=>151 | 283=>157 | 284=>158 | 285=>159 | 286=>160 | 129=>165 | 317=>164 | 318=>166 | 319=>167 | 320=>168 | 337=>171 | 338=>172 | n=>n,fun | 3=>3 | 9=>9 | 2=>2 | 4=>4 | 171=>211 | 0=>0 | 53=>167 | 37=>205 | 5=>5 | 173=>214 | 212=>222 | 51=>223 | 20=>20 | 213=>224 | 46=>176 | 232=>232 | 233=>233 | n=>n,fun | 17=>2 | 18=>3 | 19=>4 | n=>n⟩
theorem Tryz.laysM171:Go.Proofs.LaysM.n171 Tryz.prog Tryz.laysM171_ren:={
 mixed:=by kernel_rfl
 f129:=Tryz.func165.trans (congrArg some av)
 f171:=Tryz.func144.trans (congrArg some av)
 f243:=Tryz.func148.trans (congrArg some av)
 f246:=Tryz.func151.trans (congrArg some av)
 f283:=Tryz.func157.trans (congrArg some av)
 f284:=Tryz.func158.trans (congrArg some av)
 f285:=Tryz.func159.trans (congrArg some av)
 f286:=Tryz.func160.trans (congrArg some av)
 f317:=Tryz.func164.trans (congrArg some av)
 f318:=Tryz.func166.trans (congrArg some av)
 f319:=Tryz.func167.trans (congrArg some av)
 f320:=Tryz.func168.trans (congrArg some av)
 f337:=Tryz.func171.trans (congrArg some av)
 f338:=Tryz.func172.trans (congrArg some av)
 t0:=Tryz.underlying0
 a0:=Tryz.isAgg0
 z0:=Tryz.sizeOf0
 v0:=Tryz.zeroValue0
 t2:=Tryz.underlying2
 a2:=Tryz.isAgg2
 z2:=Tryz.sizeOf2
 v2:=Tryz.zeroValue2
 t3:=Tryz.underlying3
 a3:=Tryz.isAgg3
 z3:=Tryz.sizeOf3
 v3:=Tryz.zeroValue3
 t4:=Tryz.underlying4
 a4:=Tryz.isAgg4
 z4:=Tryz.sizeOf4
 v4:=Tryz.zeroValue4
 t5:=Tryz.underlying5
 a5:=Tryz.isAgg5
 z5:=Tryz.sizeOf5
 v5:=Tryz.zeroValue5
 t9:=Tryz.underlying9
 a9:=Tryz.isAgg9
 z9:=Tryz.sizeOf9
 v9:=Tryz.zeroValue9
 t20:=Tryz.underlying20
 a20:=Tryz.isAgg20
 z20:=Tryz.sizeOf20
 v20:=Tryz.zeroValue20
 t37:=Tryz.underlying205
 a37:=Tryz.isAgg205
 z37:=Tryz.sizeOf205
 v37:=Tryz.zeroValue205
 t46:=Tryz.underlying176
 a46:=Tryz.isAgg176
 z46:=Tryz.sizeOf176
 v46:=Tryz.zeroValue176
 t51:=Tryz.underlying223
 a51:=Tryz.isAgg223
 z51:=Tryz.sizeOf223
 v51:=Tryz.zeroValue223
 t53:=Tryz.underlying167
 a53:=Tryz.isAgg167
 z53:=Tryz.sizeOf167
 v53:=Tryz.zeroValue167
 t171:=Tryz.underlying211
 a171:=Tryz.isAgg211
 z171:=Tryz.sizeOf211
 v171:=Tryz.zeroValue211
 t173:=Tryz.underlying214
 a173:=Tryz.isAgg214
 z173:=Tryz.sizeOf214
 v173:=Tryz.zeroValue214
 t212:=Tryz.underlying222
 a212:=Tryz.isAgg222
 z212:=Tryz.sizeOf222
 v212:=Tryz.zeroValue222
 t213:=Tryz.underlying224
 a213:=Tryz.isAgg224
 z213:=Tryz.sizeOf224
 t232:=Tryz.underlying232
 a232:=Tryz.isAgg232
 z232:=Tryz.sizeOf232
 v232:=Tryz.zeroValue232
 t233:=Tryz.underlying233
 a233:=Tryz.isAgg233
 z233:=Tryz.sizeOf233
 v233:=Tryz.zeroValue233
 g17:=by kernel_rfl
 g18:=by kernel_rfl
 g19:=by kernel_rfl
 i0:=by kernel_rfl
 i2:=by kernel_rfl
 i3:=by kernel_rfl
 i4:=by kernel_rfl
 i5:=by kernel_rfl
 i9:=by kernel_rfl
 i20:=by kernel_rfl
 i37:=by kernel_rfl
 i46:=by kernel_rfl
 i51:=by kernel_rfl
 i53:=by kernel_rfl
 i171:=by kernel_rfl
 i173:=by kernel_rfl
 i212:=by kernel_rfl
 i232:=by kernel_rfl
 i233:=by kernel_rfl
 m17:=by kernel_rfl
 m18:=by kernel_rfl
 m19:=by kernel_rfl }
open Go.RowKit Go.Sort Go.Lib in
theorem Tryz.strconv_Itoa (n:Int)(h0:-9223372036854775808<=n)(h1:n<=9223372036854775807)(w:World)(htab:Lib.TabIs Tryz.prog w "internal/strconv.uint64pow10" .u64 Lib.pow10Tab) :
  Calls Tryz.prog 144 #[↑n] w fun e w'=>e=.returned (.string ⟨(Lib.itoa n).toArray⟩)∧∃ k os,w'=grow (w.drewN k) os:=Any.strconv_Itoa Tryz.laysM171 n h0 h1 w htab
def Tryz.laysC172_ren:Go.Shelf.Ren:=⟨fun | 172=>145 | 244=>149 | 245=>150 | 247=>152 | 279=>153 | 280=>154 | 281=>155 | 282=>156 | 287=>161 | 316=>162 | 171=>144 | 205=>163 | 321=>169 | 322=>170 | 243=>148 | 246=>151 | 283=>157 | 284=>158 | 285=>159 | 286=>160 | 129=>165 | 317=>164 | 318=>166 | 319=>167 | 320=>168 | 337=>171 | 338=>172 | n=>n,fun | 9=>9 | 3=>3 | 75=>197 | 76=>198 | 4=>4 | 5=>5 | 167=>204 | 37=>205 | 0=>0 | 85=>206 | 2=>2 | 168=>208 | 53=>167 | 175=>216 | 46=>176 | 210=>220 | 127=>227 | 145=>230 | 143=>228 | 21=>21 | 171=>211 | 173=>214 | 212=>222 | 51=>223 | 20=>20 | 213=>224 | 232=>232 | 233=>233 | 80=>234 | n=>n,fun | 15=>0 | 16=>1 | 17=>2 | 18=>3 | 19=>4 | n=>n⟩
theorem Tryz.laysC172:Go.Proofs.LaysC.n172 Tryz.prog Tryz.laysC172_ren:={
 mixed:=by kernel_rfl
 f129:=Tryz.func165.trans (congrArg some av)
 f171:=Tryz.func144.trans (congrArg some av)
 f172:=Tryz.func145.trans (congrArg some av)
 f205:=Tryz.func163.trans (congrArg some av)
 f243:=Tryz.func148.trans (congrArg some av)
 f244:=Tryz.func149.trans (congrArg some av)
 f245:=Tryz.func150.trans (congrArg some av)
 f246:=Tryz.func151.trans (congrArg some av)
 f247:=Tryz.func152.trans (congrArg some av)
 f279:=Tryz.func153.trans (congrArg some av)
 f280:=Tryz.func154.trans (congrArg some av)
 f281:=Tryz.func155.trans (congrArg some av)
 f282:=Tryz.func156.trans (congrArg some av)
 f283:=Tryz.func157.trans (congrArg some av)
 f284:=Tryz.func158.trans (congrArg some av)
 f285:=Tryz.func159.trans (congrArg some av)
 f286:=Tryz.func160.trans (congrArg some av)
 f287:=Tryz.func161.trans (congrArg some av)
 f316:=Tryz.func162.trans (congrArg some av)
 f317:=Tryz.func164.trans (congrArg some av)
 f318:=Tryz.func166.trans (congrArg some av)
 f319:=Tryz.func167.trans (congrArg some av)
 f320:=Tryz.func168.trans (congrArg some av)
 f321:=Tryz.func169.trans (congrArg some av)
 f322:=Tryz.func170.trans (congrArg some av)
 f337:=Tryz.func171.trans (congrArg some av)
 f338:=Tryz.func172.trans (congrArg some av)
 t0:=Tryz.underlying0
 a0:=Tryz.isAgg0
 z0:=Tryz.sizeOf0
 v0:=Tryz.zeroValue0
 t2:=Tryz.underlying2
 a2:=Tryz.isAgg2
 z2:=Tryz.sizeOf2
 v2:=Tryz.zeroValue2
 t3:=Tryz.underlying3
 a3:=Tryz.isAgg3
 z3:=Tryz.sizeOf3
 v3:=Tryz.zeroValue3
 t4:=Tryz.underlying4
 a4:=Tryz.isAgg4
 z4:=Tryz.sizeOf4
 v4:=Tryz.zeroValue4
 t5:=Tryz.underlying5
 a5:=Tryz.isAgg5
 z5:=Tryz.sizeOf5
 v5:=Tryz.zeroValue5
 t9:=Tryz.underlying9
 a9:=Tryz.isAgg9
 z9:=Tryz.sizeOf9
 v9:=Tryz.zeroValue9
 t20:=Tryz.underlying20
 a20:=Tryz.isAgg20
 z20:=Tryz.sizeOf20
 v20:=Tryz.zeroValue20
 t21:=Tryz.underlying21
 a21:=Tryz.isAgg21
 z21:=Tryz.sizeOf21
 v21:=Tryz.zeroValue21
 t37:=Tryz.underlying205
 a37:=Tryz.isAgg205
 z37:=Tryz.sizeOf205
 v37:=Tryz.zeroValue205
 t46:=Tryz.underlying176
 a46:=Tryz.isAgg176
 z46:=Tryz.sizeOf176
 v46:=Tryz.zeroValue176
 t51:=Tryz.underlying223
 a51:=Tryz.isAgg223
 z51:=Tryz.sizeOf223
 v51:=Tryz.zeroValue223
 t53:=Tryz.underlying167
 a53:=Tryz.isAgg167
 z53:=Tryz.sizeOf167
 v53:=Tryz.zeroValue167
 t75:=Tryz.underlying197
 a75:=Tryz.isAgg197
 z75:=Tryz.sizeOf197
 v75:=Tryz.zeroValue197
 t76:=Tryz.underlying198
 a76:=Tryz.isAgg198
 z76:=Tryz.sizeOf198
 v76:=Tryz.zeroValue198
 t85:=Tryz.underlying206
 a85:=Tryz.isAgg206
 z85:=Tryz.sizeOf206
 v85:=Tryz.zeroValue206
 t127:=Tryz.underlying227
 a127:=Tryz.isAgg227
 z127:=Tryz.sizeOf227
 v127:=Tryz.zeroValue227
 t143:=Tryz.underlying228
 a143:=Tryz.isAgg228
 z143:=Tryz.sizeOf228
 v143:=Tryz.zeroValue228
 t145:=Tryz.underlying230
 a145:=Tryz.isAgg230
 z145:=Tryz.sizeOf230
 v145:=Tryz.zeroValue230
 t167:=Tryz.underlying204
 a167:=Tryz.isAgg204
 z167:=Tryz.sizeOf204
 v167:=Tryz.zeroValue204
 t168:=Tryz.underlying208
 a168:=Tryz.isAgg208
 z168:=Tryz.sizeOf208
 v168:=Tryz.zeroValue208
 t171:=Tryz.underlying211
 a171:=Tryz.isAgg211
 z171:=Tryz.sizeOf211
 v171:=Tryz.zeroValue211
 t173:=Tryz.underlying214
 a173:=Tryz.isAgg214
 z173:=Tryz.sizeOf214
 v173:=Tryz.zeroValue214
 t175:=Tryz.underlying216
 a175:=Tryz.isAgg216
 z175:=Tryz.sizeOf216
 v175:=Tryz.zeroValue216
 t210:=Tryz.underlying220
 a210:=Tryz.isAgg220
 z210:=Tryz.sizeOf220
 v210:=Tryz.zeroValue220
 t212:=Tryz.underlying222
 a212:=Tryz.isAgg222
 z212:=Tryz.sizeOf222
 v212:=Tryz.zeroValue222
 t213:=Tryz.underlying224
 a213:=Tryz.isAgg224
 z213:=Tryz.sizeOf224
 t232:=Tryz.underlying232
 a232:=Tryz.isAgg232
 z232:=Tryz.sizeOf232
 v232:=Tryz.zeroValue232
 t233:=Tryz.underlying233
 a233:=Tryz.isAgg233
 z233:=Tryz.sizeOf233
 v233:=Tryz.zeroValue233
 g15:=by kernel_rfl
 g16:=by kernel_rfl
 g17:=by kernel_rfl
 g18:=by kernel_rfl
 g19:=by kernel_rfl
 t80:=Tryz.underlying234
 a80:=Tryz.isAgg234
 z80:=Tryz.sizeOf234
 v80:=Tryz.zeroValue234
 i0:=by kernel_rfl
 i2:=by kernel_rfl
 i3:=by kernel_rfl
 i4:=by kernel_rfl
 i5:=by kernel_rfl
 i9:=by kernel_rfl
 i20:=by kernel_rfl
 i21:=by kernel_rfl
 i37:=by kernel_rfl
 i46:=by kernel_rfl
 i51:=by kernel_rfl
 i53:=by kernel_rfl
 i75:=by kernel_rfl
 i76:=by kernel_rfl
 i80:=by kernel_rfl
 i85:=by kernel_rfl
 i127:=by kernel_rfl
 i143:=by kernel_rfl
 i145:=by kernel_rfl
 i167:=by kernel_rfl
 i168:=by kernel_rfl
 i171:=by kernel_rfl
 i173:=by kernel_rfl
 i175:=by kernel_rfl
 i210:=by kernel_rfl
 i212:=by kernel_rfl
 i232:=by kernel_rfl
 i233:=by kernel_rfl
 m15:=by kernel_rfl
 m16:=by kernel_rfl
 m17:=by kernel_rfl
 m18:=by kernel_rfl
 m19:=by kernel_rfl
 c0:=by kernel_rfl
 c2:=by kernel_rfl
 c3:=by kernel_rfl
 c4:=by kernel_rfl
 c5:=by kernel_rfl
 c9:=by kernel_rfl
 c20:=by kernel_rfl
 c21:=by kernel_rfl
 c37:=by kernel_rfl
 c46:=by kernel_rfl
 c51:=by kernel_rfl
 c53:=by kernel_rfl
 c75:=by kernel_rfl
 c76:=by kernel_rfl
 c80:=by kernel_rfl
 c85:=by kernel_rfl
 c127:=by kernel_rfl
 c143:=by kernel_rfl
 c145:=by kernel_rfl
 c167:=by kernel_rfl
 c168:=by kernel_rfl
 c171:=by kernel_rfl
 c173:=by kernel_rfl
 c175:=by kernel_rfl
 c210:=by kernel_rfl
 c212:=by kernel_rfl
 c213:=by kernel_rfl
 c232:=by kernel_rfl
 c233:=by kernel_rfl }
open Go.RowKit in
theorem Tryz.strconv_Atoi_ok (s:ByteArray)(hmax:s.size<=9223372036854775806)(v:Int)(h:Lib.atoiAll s.data.toList=.ok v)(w:World) :
  Calls Tryz.prog 145 #[s] w fun e w'=>e=.returned (.tuple #[↑v,.nilIface])∧(w'=w∨∃ t,w'=Lib.bytesWorld w 5 t):=Any.strconv_Atoi_ok Tryz.laysC172 s hmax v h w
open Go.RowKit in
theorem Tryz.strconv_Atoi_syntax_var (s:ByteArray)(hlim:s.size<=281474976710656)(h:Lib.atoiAll s.data.toList=Lib.atoiAll [])(tp:TypeId)(p:Value)(w:World)(hvar:w.var? Tryz.prog "strconv.ErrSyntax"=some #[.iface tp p]) :
  Calls Tryz.prog 145 #[s] w fun e w'=>∃ N,e=.returned (.tuple #[qz,.iface 208 (qp N)])∧w<=N∧w'.heap[N]?=some (.cells #[.string ⟨#[65,116,111,105]⟩,s,.iface tp p] 220 (0,0))∧Below w w w':=Any.strconv_Atoi_syntax_var Tryz.laysC172 s hlim h tp p w hvar
open Go.RowKit in
theorem Tryz.strconv_Atoi_range_var (s:ByteArray)(hlim:s.size<=281474976710656)(h:Lib.atoiAll s.data.toList=.range)(tp:TypeId)(p:Value)(w:World)(hvar:w.var? Tryz.prog "strconv.ErrRange"=some #[.iface tp p]) :
  Calls Tryz.prog 145 #[s] w fun e w'=>∃ N,e=.returned (.tuple #[.int .i64 (Lib.atoiSat s.data.toList),.iface 208 (qp N)])∧w<=N∧w'.heap[N]?=some (.cells #[.string ⟨#[65,116,111,105]⟩,s,.iface tp p] 220 (0,0))∧Below w w w':=Any.strconv_Atoi_range_var Tryz.laysC172 s hlim h tp p w hvar
end Go.Proofs.YtkoeecdjijfjnaaGreatDoor
namespace Go.Proofs.YtkoeecdjijfjnaaGreatDoor
open Go.RowKit
def ftC (raw:List Int)(x:GN)(s:List Int):Int:=if s.length<raw then min (max (raw.getD s 0) 0) (aP x - 1) else 0
def ftP (r:Int->List Int->GV × List Int)(name:ByteArray):List Int->List GV->List Int->GV × List Int
 | s,acc,[]=>(cB name acc,s)
 | s,acc,z :: zs=>ftP r name (r z s).2 (acc ++ [(r z s).1]) zs
def ftS (raw:List Int)(r:Int->List Int->GV × List Int)(t:List GN)(i:Int)(x:GN)(s:List Int):GV × List Int :=
 if (aI t).getD i.toNat 0=0 then ((oM t).getD i.toNat default,s)
 else if x.kind=1 then (.mk 0 (x.lo+ftC raw x s) ByteArray.empty [],s ++ [ftC raw x s])
 else if x.kind=2 then r (x.kids.getD (ftC raw x s).toNat 0) (s ++ [ftC raw x s])
 else if x.kind=4 then r (x.kids.getD ((bK x.values (r (x.kids.getD 0 0) s).1).1+1) 0) (r (x.kids.getD 0 0) s).2
 else ftP r x.name s [] x.kids
def ftR (t:List GN)(raw:List Int):Nat->Int->List Int->GV × List Int
 | 0,_,s=>(default,s)
 | f+1,i,s=>ftS raw (ftR t raw f) t i (t.getD i.toNat default) s
theorem xt {l1 l2:List Int}{i:Nat}(h:i<l1):(l1 ++ l2).getD i 0=l1.getD i 0:=by
 rw [List.getD_eq_getElem?_getD,List.getD_eq_getElem?_getD,List.getElem?_append_left h]
theorem vT {l1 l2:List Int}(i:Nat):(l1 ++ l2).getD (l1.length+i) 0=l2.getD i 0:=by
 rw [List.getD_eq_getElem?_getD,List.getD_eq_getElem?_getD,List.getElem?_append_right I,Nat.add_sub_cancel_left]
theorem qO {l:List Int}{i:Nat}(h:l<=i):l.getD i 0=0:=by
 rw [List.getD_eq_getElem?_getD,List.getElem?_eq_none h];rfl
def PAt (path:List Int)(k:Nat)(q:List Int):Prop:=k+q<=path∧∀ j,j<q.length->path.getD (k+j) 0=q.getD j 0
theorem PAt.left {path:List Int}{k:Nat}{a b:List Int}(h:PAt path k (a ++ b)):PAt path k a:=by
 obtain ⟨h1,h2⟩:=h;rw [aa] at h1;refine ⟨I,fun j hj=>?_⟩;rw [h2 j jo,xt hj]
theorem PAt.right {path:List Int}{k:Nat}{a b:List Int}(h:PAt path k (a ++ b)):PAt path (k+a) b:=by
 obtain ⟨h1,h2⟩:=h;rw [aa] at h1;refine ⟨I,fun j hj=>?_⟩;have:=h2 (a.length+j) jo;rw [vT] at this;rw [<- this,Nat.add_assoc]
theorem PAt.self (s q:List Int):PAt (s ++ q) s q:=by
 refine ⟨U,fun j hj=>?_⟩;exact vT j
theorem tH {raw s:List Int}{x:GN}(h:1<=aP x):0<=ftC raw x s∧ftC raw x s<aP x:=by
 unfold ftC;split <;> omega
theorem kS {path:List Int}{x:GN}{k:Nat}{c:Int}{good:Bool}(h:PAt path k [c])(h0:0<=c)(h1:c<aP x):bD path x k good=(c,(k:Int)+1,good):=by
 obtain ⟨a1,a2⟩:=h;have a3:=a2 0 U;simp only [List.length_singleton] at a1;simp only [Nat.add_zero,List.getD_cons_zero] at a3;unfold bD;rw [Int.toNat_natCast,a3,if_neg I]
theorem zt {t:List GN}{raw:List Int}{f:Nat}{name:ByteArray}(ih:∀ (i:Int)(s:List Int),∃ q,(ftR t raw f i s).2=s ++ q∧∀ (path:List Int)(good:Bool),PAt path s q->dF t path f i s good=⟨(ftR t raw f i s).1,((s.length+q:Nat):Int),good⟩) :
  ∀ (zs:List Int) (s:List Int) (acc:List GV),∃ q,(ftP (ftR t raw f) name s acc zs).2=s ++ q∧∀ (path:List Int) (good:Bool),PAt path s q->bR (dF t path f) name s good acc zs=⟨(ftP (ftR t raw f) name s acc zs).1,((s.length+q:Nat):Int),good⟩
 | [],s,acc=>⟨[],by simp [ftP],fun path good _=>by simp [ftP,bR]⟩
 | z :: zs,s,acc=>by
  obtain ⟨q0,h0,h1⟩:=ih z s;obtain ⟨q1,h2,h3⟩:=zt ih zs (s ++ q0) (acc ++ [(ftR t raw f z s).1]);refine ⟨q0 ++ q1,?_,fun path good hp=>?_⟩
  ·simp only [ftP,h0]
   rw [h2,ah]
  ·have e1:=h1 path good hp.left
   have hr:=hp.right;have e2:=h3 path good (by rw [aa];exact hr);simp only [ftP,bR,h0,e1];rw [aa] at e2;rw [e2,aa,Nat.add_assoc]
theorem rk {t:List GN}(hg:aO t t)(raw:List Int):∀ (f:Nat)(i:Int)(s:List Int),∃ q,(ftR t raw f i s).2=s ++ q∧∀ (path:List Int)(good:Bool),PAt path s q->dF t path f i s good=⟨(ftR t raw f i s).1,((s.length+q:Nat):Int),good⟩
 | 0,i,s=>⟨[],by simp [ftR],fun path good _=>by simp [ftR,dF]⟩
 | f+1,i,s=>by
  have ih:=rk hg raw f;simp only [ftR,dF];unfold ftS eG;by_cases hl:(aI t).getD i.toNat 0=0
  ·simp only [if_pos hl]
   exact ⟨[],U,fun path good _=>by simp⟩
  simp only [if_neg hl]
  have hi:i.toNat<t:=by
   refine Nat.lt_of_not_le fun h=>hl ?_
   have hll:(aI t).length=t:=jw;exact qO I
  have hn:=(hg.at_ hi).node;have hopt:=dA hn;generalize t.getD i.toNat default=x at *;by_cases k1:x.kind=1
  ·simp only [if_pos k1]
   have hr:=aZ hn.numbers;rw [if_pos k1] at hopt;obtain ⟨c0,c1⟩:=tH (raw:=raw) (s:=s) (x:=x) I;generalize ftC raw x s=c at *;exact ⟨[c],rfl,fun path good hp=>by rw [kS hp c0 c1];simp⟩
  simp only [if_neg k1];by_cases k2:x.kind=2
  ·simp only [if_pos k2]
   have hr:=hn.choice k2;rw [if_neg k1] at hopt;obtain ⟨c0,c1⟩:=tH (raw:=raw) (s:=s) (x:=x) I;generalize ftC raw x s=c at *;obtain ⟨q,h0,h1⟩:=ih (x.kids.getD c.toNat 0) (s ++ [c]);refine ⟨c :: q,by rw [h0,ah];rfl,fun path good hp=>?_⟩;have hp:PAt path s ([c] ++ q):=hp;rw [kS hp.left c0 c1];have e:=h1 path good (by rw [aa];exact hp.right);rw [aa] at e;simp only [ai,List.length_nil] at e ⊢;rw [show (s:Int)+1=((s.length+(0+1):Nat):Int) by omega,e]
   congr 2
   omega
  simp only [if_neg k2];by_cases k4:x.kind=4
  ·simp only [if_pos k4]
   obtain ⟨q0,h0,h1⟩:=ih (x.kids.getD 0 0) s;rw [h0];obtain ⟨q1,h2,h3⟩:=ih (x.kids.getD ((bK x.values (ftR t raw f (x.kids.getD 0 0) s).1).1+1) 0) (s ++ q0);refine ⟨q0 ++ q1,by rw [h2,ah],fun path good hp=>?_⟩;rw [h1 path good hp.left];have e:=h3 path good (by rw [aa];exact hp.right);rw [aa] at e;rw [e,aa,Nat.add_assoc]
  simp only [if_neg k4];exact zt ih x.kids s []
theorem Ce {t:List GN}(hg:aO t t)(raw:List Int){f i:Nat}(hf:i<f)(hi:i<t)(s:List Int)(hs:((ftR t raw f i s).2).length<=1000000000)(hm:((aE t).getD i default).many=false):(ftR t raw f i s).1 ∈ ((aE t).getD i default).vals:=by
 obtain ⟨q,h0,h1⟩:=rk hg raw f i s;have h2:=h1 (s ++ q) true (PAt.self s q);have h3:=qS hg (s ++ q) (by rw [<- h0];exact hs) f i s true hf hi I jo;rw [h2] at h3;exact h3.mem hm
end Go.Proofs.YtkoeecdjijfjnaaGreatDoor
namespace Go.Proofs.YtkoeecdjijfjnaaGreatDoor
open Go.RowKit
theorem iH {path:List Int}{x:GN}{k:Nat}{g:Bool}(h:(bD path x k g).2.2=true):g=true∧∃ c,bD path x k g=(c,(k:Int)+1,g)∧PAt path k [c]∧0<=c∧c<aP x:=by
 unfold bD at h ⊢;rw [Int.toNat_natCast] at h ⊢;split at h
 ·cases h
 ·next hc =>
  refine ⟨h,path.getD k 0,by rw [if_neg hc],⟨bh,fun j hj=>?_⟩,I,I⟩;simp only [List.length_singleton] at hj;obtain rfl:j=0:=by omega
  rfl
theorem PAt.append {p a b:List Int}{k:Nat}(h:PAt p k a)(h2:PAt p (k+a) b):PAt p k (a ++ b):=by
 obtain ⟨h1,h3⟩:=h;obtain ⟨h4,h5⟩:=h2;refine ⟨jo,fun j hj=>?_⟩;rw [aa] at hj;by_cases hl:j<a.length
 ·rw [h3 j hl,xt hl]
 ·obtain ⟨i,rfl⟩:∃ i,j=a+i:=⟨j - a,I⟩
  rw [vT,<- h5 i I,Nat.add_assoc]
theorem PAt.nil {p:List Int}{k:Nat}(h:k<=p):PAt p k []:=⟨ie,fun j hj=>by simp at hj⟩
theorem vU {t:List GN}{path:List Int}:∀ (f:Nat)(i:Int)(k:Nat)(g:Bool),k<=path->∃ k2:Nat,(dF t path f i k g).at_=k2∧k2<=path.length
 | 0,i,k,g,hk=>⟨k,rfl,hk⟩
 | f+1,i,k,g,hk=>by
  have ih:=vU (t:=t) (path:=path) f
  have hc:∀ x:GN,∃ k2:Nat,(bD path x k g).2.1=k2∧k2<=path.length:=fun x=>by
   unfold bD;split
   ·exact ⟨k,rfl,hk⟩
   ·next h=>exact ⟨k+1,U,I⟩
  simp only [dF];unfold eG;generalize t.getD i.toNat default=x;obtain ⟨kc,e,hkc⟩:=hc x;split
  ·exact ⟨k,rfl,hk⟩
  split
  ·exact ⟨kc,e,hkc⟩
  split
  ·rw [e];exact ih _ kc _ hkc
  split
  ·obtain ⟨k1,e1,hk1⟩:=ih (x.kids.getD 0 0) k g hk
   rw [e1];exact ih _ k1 _ hk1
  ·have parts:∀ (zs:List Int) (k:Nat) (g:Bool) (acc:List GV),k<=path->∃ k2:Nat,(bR (dF t path f) x.name k g acc zs).at_=k2∧k2<=path.length:=by
    intro zs
    induction zs with
    | nil=>exact fun k g acc hk=>⟨k,rfl,hk⟩
    | cons z zs ihz =>
     intro k g acc hk;obtain ⟨k1,e1,hk1⟩:=ih z k g hk;simp only [bR,e1];exact ihz k1 _ _ hk1
   exact parts x.kids k g [] hk
theorem yV {t:List GN}{path:List Int}:∀ (f:Nat)(i:Int)(k:Nat)(g:Bool),k<=path->(dF t path f i k g).good=true->g=true∧∃ q,(dF t path f i k g).at_=((k+q.length:Nat):Int)∧PAt path k q ∧
  ∀ (p2:List Int) (k2:Nat) (g2:Bool),PAt p2 k2 q->dF t p2 f i k2 g2=⟨(dF t path f i k g).val,((k2+q:Nat):Int),g2⟩
 | 0,i,k,g,hk,h=>⟨h,[],by simp [dF],PAt.nil hk,fun p2 k2 g2 _=>by simp [dF]⟩
 | f+1,i,k,g,hk,h=>by
  have ih0:=yV (t:=t) (path:=path) f;have hb:=vU (t:=t) (path:=path) f;simp only [dF] at h ⊢;unfold eG at h ⊢;generalize t.getD i.toNat default=x at *;by_cases hl:(aI t).getD i.toNat 0=0
  ·simp only [if_pos hl] at h ⊢
   exact ⟨h,[],U,PAt.nil hk,fun p2 k2 g2 _=>by simp⟩
  simp only [if_neg hl] at h ⊢;by_cases k1:x.kind=1
  ·simp only [if_pos k1] at h ⊢
   obtain ⟨hg,c,e,hp,c0,c1⟩:=iH h;rw [e];exact ⟨hg,[c],U,hp,fun p2 k2 g2 hp2=>by rw [kS hp2 c0 c1];simp⟩
  simp only [if_neg k1] at h ⊢;by_cases k2:x.kind=2
  ·simp only [if_pos k2] at h ⊢
   obtain ⟨kc,ek⟩:∃ kc:Nat,(bD path x k g).2.1=kc∧kc<=path.length:=by
    unfold bD;split
    ·exact ⟨k,rfl,hk⟩
    ·next h=>exact ⟨k+1,U,I⟩
   rw [ek.1] at h;obtain ⟨h2,-⟩:=ih0 _ kc _ ek.2 h;obtain ⟨hg,c,e,hp,c0,c1⟩:=iH h2;rw [e] at h ek ⊢;have ekc:kc=k+1:=by have:=ek.1;simp only at this;omega
   subst ekc;obtain ⟨_,q,a1,a2,a3⟩:=ih0 _ (k+1) _ ek.2 h;have a4:(dF t path f (x.kids.getD c.toNat 0) ((k:Int)+1) g)=dF t path f (x.kids.getD c.toNat 0) ((k+1:Nat):Int) g:=by congr 1
   simp only [a4];refine ⟨hg,c :: q,by rw [a1];congr 1;simp;omega,hp.append (b:=q) a2,fun p2 k2' g2 hp2=>?_⟩;have hp2:PAt p2 k2' ([c] ++ q):=hp2;rw [kS hp2.left c0 c1];have:=a3 p2 (k2'+1) g2 hp2.right;have a5:((k2':Int)+1)=((k2'+1:Nat):Int):=by omega
   simp only [a5,this]
   congr 2
   simp;omega
  simp only [if_neg k2] at h ⊢;by_cases k4:x.kind=4
  ·simp only [if_pos k4] at h ⊢
   obtain ⟨k1',e1,hk1⟩:=hb (x.kids.getD 0 0) k g hk;rw [e1] at h ⊢;obtain ⟨h2,q1,a1,a2,a3⟩:=ih0 _ k1' _ hk1 h;obtain ⟨hg,q0,b1,b2,b3⟩:=ih0 _ k g hk h2;rw [e1] at b1;have hkk:k1'=k+q0:=by omega
   subst hkk;refine ⟨hg,q0 ++ q1,by rw [a1,aa,Nat.add_assoc],b2.append a2,fun p2 k2' g2 hp=>?_⟩;rw [b3 p2 k2' g2 hp.left];have:=a3 p2 (k2'+q0) g2 hp.right;rw [this,aa,Nat.add_assoc]
  simp only [if_neg k4] at h ⊢
  have ih:∀ (i:Int) (k:Nat) (g:Bool),k<=path->(dF t path f i k g).good=true->g=true∧∃ q,(dF t path f i k g).at_=((k+q.length:Nat):Int)∧PAt path k q ∧
    ∀ (p2:List Int) (k2:Nat) (g2:Bool),PAt p2 k2 q->dF t p2 f i k2 g2=⟨(dF t path f i k g).val,((k2+q:Nat):Int),g2⟩:=ih0
  have parts:∀ (zs:List Int) (k:Nat) (g:Bool) (acc:List GV),k<=path->(bR (dF t path f) x.name k g acc zs).good=true->g=true∧∃ q,(bR (dF t path f) x.name k g acc zs).at_=((k+q.length:Nat):Int)∧PAt path k q ∧
    ∀ (p2:List Int) (k2:Nat) (g2:Bool),PAt p2 k2 q->bR (dF t p2 f) x.name k2 g2 acc zs=⟨(bR (dF t path f) x.name k g acc zs).val,((k2+q:Nat):Int),g2⟩:=by
   intro zs
   induction zs with
   | nil=>exact fun k g acc hk h=>⟨h,[],by simp [bR],PAt.nil hk,fun p2 k2 g2 _=>by simp [bR]⟩
   | cons z zs ihz =>
    intro k g acc hk h;simp only [bR] at h ⊢;obtain ⟨k1,e1,hk1⟩:=hb z k g hk;rw [e1] at h ⊢;obtain ⟨g1,q1,a1,a2,a3⟩:=ihz k1 _ _ hk1 h;obtain ⟨g0,q0,b1,b2,b3⟩:=ih z k g hk g1;rw [e1] at b1;have hkk:k1=k+q0:=by omega
    subst hkk;refine ⟨g0,q0 ++ q1,by rw [a1,aa,Nat.add_assoc],b2.append a2,fun p2 k2 g2 hp=>?_⟩;rw [b3 p2 k2 g2 hp.left];have:=a3 p2 (k2+q0) g2 hp.right;rw [this,aa,Nat.add_assoc]
  exact parts x.kids k g [] hk h
theorem yQ {i:Nat}{x:GN}(hn:cR i x)(h:0<x.kids.length)(q:Nat):0<=x.kids.getD q 0∧x.kids.getD q 0<(i:Int):=by
 by_cases hq:q<x.kids
 ·exact hn.kids _ (aC hq)
 ·rw [qO I]
  have:=hn.kids _ (aC (d:=0) h);omega
theorem vV {t:List GN}(hg:aO t t)(path:List Int):∀ (f f2 i:Nat)(k:Int)(g:Bool),i<f->i<f2->i<t->dF t path f i k g=dF t path f2 i k g
 | 0,f2,i,k,g,h,_,_=>by omega
 | f+1,0,i,k,g,_,h,_=>by omega
 | f+1,f2+1,i,k,g,h1,h2,hi=>by
  have hn:=(hg.at_ hi).node
  have ih:∀ (z k:Int) (g:Bool),0<=z->z<(i:Int)->dF t path f z k g=dF t path f2 z k g:=fun z k g a b=>by
   have:=vV hg path f f2 z.toNat k g I I I
   rwa [Int.toNat_of_nonneg a] at this
  simp only [dF,Int.toNat_natCast];unfold eG;generalize t.getD i default=x at *;split
  ·rfl
  split
  ·rfl
  split
  ·next k2 =>
   have hk:=yQ hn (hn.choice k2).1;exact ih _ _ _ (hk _).1 (hk _).2
  split
  ·next k4 =>
   have hk:=yQ hn (by have:=hn.bind k4;omega);rw [ih _ k g (hk 0).1 (hk 0).2];exact ih _ _ _ (hk _).1 (hk _).2
  ·have parts:∀ (zs:List Int) (k:Int) (g:Bool) (acc:List GV),(∀ z ∈ zs,0<=z∧z<(i:Int))->bR (dF t path f) x.name k g acc zs=bR (dF t path f2) x.name k g acc zs:=by
    intro zs
    induction zs with
    | nil=>exact fun k g acc _=>rfl
    | cons z zs ihz =>
     intro k g acc hz;have:=hz z U;simp only [bR];rw [ih z k g this.1 this.2];exact ihz _ _ _ (fun y hy=>hz y dh)
   exact parts x.kids k g [] (fun z hz=>hn.kids z hz)
theorem mK (t:List GN):(aI t).length=t:=jw
theorem Me {t:List GN}(hg:aO t t)(raw:List Int)(f:Nat)(i:Int)(s:List Int):s.length<=((ftR t raw f i s).2):=by
 obtain ⟨q,h,_⟩:=rk hg raw f i s;rw [h,aa];omega
theorem qI {before:List Int}:∀ {zs:List Int},(∀ z ∈ zs,0<=before.getD z.toNat 0)->0<=gJ before zs
 | [],_=>by simp [gJ]
 | z :: zs,h=>by
  have h1:=h z U;have h2:=qI (zs:=zs) (fun y hy=>h y dh);simp only [gJ];omega
def FL (t:List GN)(r:Int->List Int->GV × List Int)(z:Int):Prop:=∀ s:List Int,(s.length:Int)+(aI t).getD z.toNat 0<=1000000->(((r z s).2):Int)<=s+(aI t).getD z.toNat 0∧((aI t).getD z.toNat 0 ≠ 0->s.length<((r z s).2))
theorem CJ {t:List GN}{raw:List Int}{f:Nat}{name:ByteArray}(hgr:∀ (z:Int)(s:List Int),s.length<=((ftR t raw f z s).2)):∀ (zs:List Int)(s:List Int)(acc:List GV),(∀ z ∈ zs,0<=(aI t).getD z.toNat 0)->(∀ z ∈ zs,FL t (ftR t raw f) z)->(s:Int)+gJ (aI t) zs<=1000000 ->
  (((ftP (ftR t raw f) name s acc zs).2):Int)<=s+gJ (aI t) zs∧s.length<=((ftP (ftR t raw f) name s acc zs).2)∧((∃ z ∈ zs,(aI t).getD z.toNat 0 ≠ 0)->s.length<((ftP (ftR t raw f) name s acc zs).2))
 | [],s,acc,_,_,_=>by simp [ftP,gJ]
 | z :: zs,s,acc,h0,h,hs=>by
  simp only [gJ] at hs ⊢;have hn:=qI (zs:=zs) (fun y hy=>h0 y dh);have hz:=h z U s I;have hzg:=hgr z s;obtain ⟨a1,a2,a3⟩:=CJ (name:=name) hgr zs (ftR t raw f z s).2 (acc ++ [(ftR t raw f z s).1]) (fun y hy=>h0 y dh) (fun y hy=>h y dh) I;simp only [ftP];refine ⟨I,I,fun ⟨y,hy,hne⟩=>?_⟩;rcases ao.1 hy with rfl | hy
  ·have:=hz.2 hne
   omega
  ·have:=a3 ⟨y,hy,hne⟩
   omega
theorem se {t:List GN}(hg:aO t t)(raw:List Int):∀ i:Nat,i<t.length->∀ f:Nat,i<f->FL t (ftR t raw f) i:=by
 intro i
 induction i using Nat.strongRecOn with
 | ind i ih =>
  intro hi f hf s hs;obtain ⟨f,rfl⟩:∃ f',f=f'+1:=⟨f - 1,I⟩;rw [Int.toNat_natCast] at hs ⊢;have hc:=hg.at_ hi;have hL:=bJ hg i hi;have hn:=hc.node;have hgr:=Me hg raw f;have hlg:=oY hi;have hmany:=hc.many;have hvals:=hc.vals;have hfx:=fun (j:Nat) (hj:j<t)=>xw hg ([]:List Int) j hj
  have hbd:=fun (j:Nat) (hj:j<t)=>(bJ hg j hj).bd
  have L1:=hL.range;have L2:=hL.choice;have L3:=hL.seq;have L4:=hL.bind;simp only [ftR,Int.toNat_natCast];unfold ftS;rw [Int.toNat_natCast];have hkids:∀ z ∈ (t.getD i default).kids,(aI (t.take i)).getD z.toNat 0=(aI t).getD z.toNat 0:=fun z hz=>vM hi (hn.kids z hz)
  generalize hx:t.getD i default=x at *;by_cases hl:(aI t).getD i 0=0
  ·rw [if_pos hl]
   exact ⟨by simp only;omega,fun h=>absurd hl h⟩
  rw [if_neg hl]
  have ihz:∀ z:Int,0<=z->z<(i:Int)->FL t (ftR t raw f) z:=fun z a b=>by
   have:=ih z.toNat I I f I
   rwa [Int.toNat_of_nonneg a] at this
  have hkb:∀ z ∈ x.kids,0<=(aI t).getD z.toNat 0:=fun z hz=>(hbd z.toNat fo).1
  by_cases k1:x.kind=1
  ·rw [if_pos k1]
   have:=L1 k1;refine ⟨?_,fun _=>?_⟩ <;> simp only [aa,List.length_singleton] <;> omega
  rw [if_neg k1];by_cases k2:x.kind=2
  ·rw [if_pos k2]
   have hr:=hn.choice k2;have hopt:=dA hn;rw [if_neg k1] at hopt;obtain ⟨c0,c1⟩:=tH (raw:=raw) (s:=s) (x:=x) I;generalize ftC raw x s=c at *;have hm:x.kids.getD c.toNat 0 ∈ x.kids:=aC I;have hz:=hn.kids _ hm;have h2:=(L2 k2).2 _ hm;have h3:=ihz (x.kids.getD c.toNat 0) hz.1 hz.2 (s ++ [c]) gu;have h4:=hgr (x.kids.getD c.toNat 0) (s ++ [c]);simp only [aa,List.length_singleton] at h3 h4;refine ⟨I,fun _=>by omega⟩
  rw [if_neg k2];by_cases k4:x.kind=4
  ·rw [if_pos k4]
   have hb:=hn.bind k4;have hm0:x.kids.getD 0 0 ∈ x.kids:=aC I;have hz0:=hn.kids _ hm0;have l4:=L4 k4;have h3:=ihz (x.kids.getD 0 0) hz0.1 hz0.2 s I;have hg0:=hgr (x.kids.getD 0 0) s;have hmem:=Ce hg raw (f:=f) (i:=(x.kids.getD 0 0).toNat) I I s (by rw [Int.toNat_of_nonneg hz0.1];omega) (hmany k4);rw [Int.toNat_of_nonneg hz0.1,hvals k4] at hmem;have hfi:=eN hn.inc hmem;have hq:(bK x.values (ftR t raw f (x.kids.getD 0 0) s).1).1+1<x.kids:=by omega
   have hm1:x.kids.getD ((bK x.values (ftR t raw f (x.kids.getD 0 0) s).1).1+1) 0 ∈ x.kids:=aC hq;have hz1:=hn.kids _ hm1;have hb1:=hkb _ hm1;have l1:=l4.2 _ I hq;have h4:=ihz _ hz1.1 hz1.2 (ftR t raw f (x.kids.getD 0 0) s).2 I;have hg1:=hgr (x.kids.getD ((bK x.values (ftR t raw f (x.kids.getD 0 0) s).1).1+1) 0) (ftR t raw f (x.kids.getD 0 0) s).2;refine ⟨I,fun _=>?_⟩;by_cases l0:(aI t).getD (x.kids.getD 0 0).toNat 0=0
   ·have f0:=(hfx (x.kids.getD 0 0).toNat I l0).2
    have hv:=hvals k4;rw [f0] at hv;have hvl:x.values.length=1:=by rw [<- hv];rfl
    have hk1:(bK x.values (ftR t raw f (x.kids.getD 0 0) s).1).1=0:=I;rw [hk1,Nat.zero_add] at hm1 h4 hg1 hb1 ⊢
    have l2:(aI t).getD (x.kids.getD 1 0).toNat 0 ≠ 0:=fun l2=>by
     apply hl;rw [hlg];unfold gZ;have k0:¬ x.kind=0:=by omega
     have k3:¬ x.kind=3:=I;rw [if_neg k0,if_neg k1,if_neg k3,if_neg k2,hkids _ hm0,l0]
     have hall:∀ z ∈ x.kids,(aI (t.take i)).getD z.toNat 0<=0:=fun z hz=>by
      rw [hkids z hz];obtain ⟨j,hj,rfl⟩:=List.getElem_of_mem hz;have e:x.kids[j]=x.kids.getD j 0:=by simp [hj]
      rw [e];rcases (by omega:j=0∨j=1) with rfl | rfl
      ·omega
      ·omega
     have g1:=mI (before:=aI (t.take i)) (ch:=false) (N:=0) x.kids 0 0 (Int.le_refl _) hall;have g2:=(eM (before:=aI (t.take i)) (ch:=false) x.kids 0 0).1;have g3:bA (aI (t.take i)) false 0 0 x.kids=0:=by omega
     rw [g3,IntWalk.wrap64_in _ I];rfl
    have:=h4.2 l2;omega
   ·have:=h3.2 l0
    omega
  rw [if_neg k4];by_cases k3:x.kind=3
  ·have l3:=L3 k3
   obtain ⟨a1,a2,a3⟩:=CJ (name:=x.name) hgr x.kids s [] hkb (fun z hz=>ihz z (hn.kids z hz).1 (hn.kids z hz).2) I;refine ⟨I,fun _=>a3 ?_⟩;refine Classical.byContradiction fun hno=>hl ?_
   rw [l3];have hz:∀ z ∈ x.kids,(aI t).getD z.toNat 0=0:=fun z hz=>Classical.byContradiction fun h=>hno ⟨z,hz,h⟩
   have:∀ {zs:List Int},(∀ z ∈ zs,(aI t).getD z.toNat 0=0)->gJ (aI t) zs=0:=by
    intro zs
    induction zs with
    | nil=>intro _;rfl
    | cons y ys ihy=>intro h;simp only [gJ,h y U,ihy (fun u hu=>h u (by simp [hu])),Int.add_zero]
   exact this hz
  ·have:=hn.kind
   have:=hL.leaf;rw [hx] at this;exact absurd (this I) hl
end Go.Proofs.YtkoeecdjijfjnaaGreatDoor
namespace Go.Proofs.YtkoeecdjijfjnaaGreatDoor
open Go.RowKit
def oA (s:ByteArray):List ByteArray->Int->Int
 | [],_=>-1
 | y :: ys,i=>if s=y then i else oA s ys (i+1)
def kC (n:Int):ByteArray:=⟨(Lib.itoa n).toArray⟩
def mL (x:GN)(k:Int):ByteArray:=x.labels.getD k.toNat ByteArray.empty
def sL (x y:GN)(k:Int):Int × Bool :=
 if x.kind=1 then (oA (kC (x.lo+k)) y.labels 0,decide (0<=oA (kC (x.lo+k)) y.labels 0))
 else if y.kind=1 then
  (if x.labels.length=0 then (0,false)
   else match Lib.atoiAll (mL x k).data.toList with
   | .ok v=>if kC v ≠ mL x k∨v<y.lo∨y.hi<v then (0,false) else (v - y.lo,true)
   | _=>(0,false))
 else if x.labels.length=0∨y.labels.length=0 then (k,decide (k<y.kids))
 else if k<y.labels∧mL y k=mL x k then (k,true)
 else (oA (mL x k) y.labels 0,decide (0<=oA (mL x k) y.labels 0))
def gY (x:GN):Int:=if x.kind=1 then x.hi - x.lo+1 else if x.kind=2 then x.kids.length else 0
def iJ (x y:GN)(k:Int):Int × Bool :=
 if k<0∨gY x<=k∨gY y=0 then (0,false)
 else if x.kind=1∧y.kind=1 then (min (max (x.lo+k) y.lo) y.hi - y.lo,decide (min (max (x.lo+k) y.lo) y.hi=x.lo+k))
 else if (sL x y k).2=true then ((sL x y k).1,true) else (min k (gY y - 1),false)
theorem Cu (s:ByteArray):∀ (l:List ByteArray)(i:Int),oA s l i=-1∨(i<=oA s l i∧oA s l i<i+l)
 | [],i=>.inl rfl
 | y :: ys,i=>by
  unfold oA;split
  ·exact .inr ⟨Int.le_refl _,by simp only [ai];omega⟩
  ·rcases Cu s ys (i+1) with h | h
   ·exact .inl h
   ·exact .inr ⟨I,by simp only [ai];omega⟩
theorem vL {j:Nat}{x y:GN}(hy:cR j y)(hk:y.kind=1∨y.kind=2)(k:Int):0<=(iJ x y k).1∧(iJ x y k).1<gY y:=by
 have n1:=aZ hy.numbers;have c1:=hy.choice
 have o1:1<=gY y:=by
  unfold gY;rcases hk with h | h
  ·rw [if_pos h];omega
  ·rw [if_neg I,if_pos h];have:=(c1 h).1;omega
 unfold iJ;split
 ·exact ⟨Int.le_refl _,by show (0:Int)<_;omega⟩
 ·next h =>
  split
  ·next h2 =>
   have e:gY y=y.hi - y.lo+1:=by unfold gY;rw [if_pos h2.2]
   show 0<=min (max (x.lo+k) y.lo) y.hi - y.lo∧min (max (x.lo+k) y.lo) y.hi - y.lo<_;omega
  ·next h2 =>
   split
   ·next h3 =>
    show 0<=(sL x y k).1∧(sL x y k).1<_
    have key:∀ s,0<=oA s y.labels 0->y.kind=2->oA s y.labels 0<gY y:=fun s h0 h4=>by
     have e:gY y=y.kids:=by unfold gY;rw [if_neg I,if_pos h4]
     have:=(c1 h4).2.2.2;rcases Cu s y.labels 0 with h5 | h5 <;> omega
    unfold sL at h3 ⊢;split at h3
    ·next h4 =>
     rw [if_pos h4];have h5:0<=oA (kC (x.lo+k)) y.labels 0:=of_decide_eq_true h3;exact ⟨h5,key _ h5 (by rcases hk with h | h;exact absurd ⟨h4,h⟩ h2;exact h)⟩
    ·next h4 =>
     rw [if_neg h4];split at h3
     ·next h5 =>
      rw [if_pos h5];have e:gY y=y.hi - y.lo+1:=by unfold gY;rw [if_pos h5]
      split at h3
      ·cases h3
      ·next h6 =>
       rw [if_neg h6];split at h3
       ·next v hv =>
        split at h3
        ·cases h3
        ·next h7 =>
         rw [if_neg h7];have h8:¬ v<y.lo:=fun h=>h7 (.inr (.inl h))
         have h9:¬ y.hi<v:=fun h=>h7 (.inr (.inr h))
         show 0<=v - y.lo∧v - y.lo<_;omega
       ·cases h3
     ·next h5 =>
      rw [if_neg h5];have h6:y.kind=2:=by omega
      have e:gY y=y.kids:=by unfold gY;rw [if_neg h5,if_pos h6]
      have cl:=(c1 h6).2.2.2;split at h3
      ·next h7 =>
       rw [if_pos h7];have:k<y.kids:=of_decide_eq_true h3;show 0<=k∧k<_;omega
      ·next h7 =>
       rw [if_neg h7];split at h3
       ·next h8 =>
        rw [if_pos h8];show 0<=k∧k<_;omega
       ·next h8 =>
        rw [if_neg h8];have h9:0<=oA (mL x k) y.labels 0:=of_decide_eq_true h3;exact ⟨h9,key _ h9 h6⟩
   ·show 0<=min k (gY y - 1)∧min k (gY y - 1)<_
    omega
def oB (b:List GN)(y:Int)(raw:List Int):List Int:=(ftR b raw b y []).2
def wY (rec:Int->Int->List Int->List Int × Nat)(va:Int->List Int->Nat)(fit:Int->List Int):List Int->List Int->List Int->List Int × Nat
 | _,[],_=>([],0)
 | [],kid :: ks,ch=>(fit kid ++ (wY rec va fit [] ks ch).1,(wY rec va fit [] ks ch).2)
 | o :: os,kid :: ks,ch=>((rec o kid (ch.take (va o ch))).1 ++ (wY rec va fit os ks (ch.drop (va o ch))).1,(rec o kid (ch.take (va o ch))).2+(wY rec va fit os ks (ch.drop (va o ch))).2)
def gG (a:List GN)(x:Int)(ch:List Int):GF:=dF a ch a x 0 true
def kj (a b:List GN)(rec:Int->Int->List Int->List Int × Nat)(y:Int)(o n:GN)(ch:List Int):List Int × Nat :=
 if (aI b).getD y.toNat 0=0 then ([],0)
 else if (o.kind=1∨o.kind=2)∧(n.kind=1∨n.kind=2) then
  (if n.kind ≠ 2 then ([(iJ o n (ch.getD 0 0)).1],if (iJ o n (ch.getD 0 0)).2 then 0 else 1)
   else if o.kind ≠ 2 then ((iJ o n (ch.getD 0 0)).1 :: oB b (n.kids.getD (iJ o n (ch.getD 0 0)).1.toNat 0) [],if (iJ o n (ch.getD 0 0)).2 then 0 else 1)
   else ((iJ o n (ch.getD 0 0)).1 :: (rec (o.kids.getD (ch.getD 0 0).toNat 0) (n.kids.getD (iJ o n (ch.getD 0 0)).1.toNat 0) ch.tail).1,
     (if (iJ o n (ch.getD 0 0)).2 then 0 else 1)+(rec (o.kids.getD (ch.getD 0 0).toNat 0) (n.kids.getD (iJ o n (ch.getD 0 0)).1.toNat 0) ch.tail).2))
 else if o.kind=3∧n.kind=3 then wY rec (fun z c=>(gG a z c).at_.toNat) (fun z=>oB b z []) o.kids n.kids ch
 else if o.kind=4∧n.kind=4 then
  ((rec (o.kids.getD 0 0) (n.kids.getD 0 0) (ch.take (gG a (o.kids.getD 0 0) ch).at_.toNat)).1 ++
   (rec (o.kids.getD ((bK o.values (gG a (o.kids.getD 0 0) ch).val).1+1) 0) (n.kids.getD ((bK n.values (gG b (n.kids.getD 0 0) (rec (o.kids.getD 0 0) (n.kids.getD 0 0) (ch.take (gG a (o.kids.getD 0 0) ch).at_.toNat)).1).val).1+1) 0) (ch.drop (gG a (o.kids.getD 0 0) ch).at_.toNat)).1,
  (rec (o.kids.getD 0 0) (n.kids.getD 0 0) (ch.take (gG a (o.kids.getD 0 0) ch).at_.toNat)).2 +
   (rec (o.kids.getD ((bK o.values (gG a (o.kids.getD 0 0) ch).val).1+1) 0) (n.kids.getD ((bK n.values (gG b (n.kids.getD 0 0) (rec (o.kids.getD 0 0) (n.kids.getD 0 0) (ch.take (gG a (o.kids.getD 0 0) ch).at_.toNat)).1).val).1+1) 0) (ch.drop (gG a (o.kids.getD 0 0) ch).at_.toNat)).2)
 else (oB b y ch,1)
def jG (a b:List GN):Nat->Int->Int->List Int->List Int × Nat
 | 0,_,_,_=>([],0)
 | f+1,x,y,ch=>kj a b (jG a b f) y (a.getD x.toNat default) (b.getD y.toNat default) ch
def Whl (a:List GN)(x:Int)(ch:List Int):Prop:=(gG a x ch).good=true∧(gG a x ch).at_=(ch:Int)
def nu (a:List GN):List Int->List Int->Prop
 | [],_=>True
 | z :: zs,ch=>(∃ n:Nat,(gG a z ch).at_=n∧n<=ch.length∧Whl a z (ch.take n)∧nu a zs (ch.drop n))
theorem PAt.drop {p q:List Int}{k:Nat}(h:PAt p k q):PAt (p.drop k) 0 q:=by
 obtain ⟨h1,h2⟩:=h;refine ⟨iw,fun j hj=>?_⟩;rw [<- h2 j hj,List.getD_eq_getElem?_getD,List.getD_eq_getElem?_getD,List.getElem?_drop,Nat.zero_add]
theorem PAt.take {p q:List Int}(h:PAt p 0 q):p.take q.length=q:=by
 obtain ⟨h1,h2⟩:=h;apply List.ext_getElem?;intro j;by_cases hj:j<q
 ·have:=h2 j hj
  rw [Nat.zero_add,List.getD_eq_getElem?_getD,List.getD_eq_getElem?_getD,List.getElem?_eq_getElem hj,List.getElem?_eq_getElem I] at this;rw [List.getElem?_take,if_pos hj,List.getElem?_eq_getElem hj,List.getElem?_eq_getElem I]
  simpa using this
 ·rw [List.getElem?_eq_none bh,List.getElem?_eq_none I]
theorem PAt.refl (q:List Int):PAt q 0 q:=⟨I,fun j _=>by rw [Nat.zero_add]⟩
theorem xI {a:List GN}(hg:aO a a){path:List Int}{f:Nat}{z:Int}{k:Nat}{g:Bool}(hz0:0<=z)(hz:z.toNat<a)(hf:z.toNat<f)(hk:k<=path)(h:(dF a path f z k g).good=true) :
  g=true∧∃ n:Nat,(dF a path f z k g).at_=((k+n:Nat):Int)∧k+n<=path∧gG a z (path.drop k)=⟨(dF a path f z k g).val,n,true⟩∧Whl a z ((path.drop k).take n):=by
 obtain ⟨hg1,q,h1,h2,h3⟩:=yV f z k g hk h
 have hfu:∀ p:List Int,dF a p f z ((0:Nat):Int) true=gG a z p:=fun p=>by
  have:=vV hg p f a z.toNat 0 true hf hz hz
  rwa [Int.toNat_of_nonneg hz0] at this
 have e1:=h3 (path.drop k) 0 true h2.drop;have e2:=h3 q 0 true (PAt.refl q);rw [hfu] at e1 e2;rw [Nat.zero_add] at e1 e2;refine ⟨hg1,q.length,h1,h2.1,e1,?_⟩;rw [h2.drop.take];unfold Whl;rw [e2];exact ⟨rfl,rfl⟩
theorem AV {a:List GN}(hg:aO a a){path:List Int}{f:Nat}{name:ByteArray}{i:Nat}(hi:i<a)(hf:i<=f):∀ (zs:List Int)(k:Nat)(g:Bool)(acc:List GV),(∀ z ∈ zs,0<=z∧z<(i:Int))->k<=path->(bR (dF a path f) name k g acc zs).good=true->nu a zs (path.drop k)∧g=true
 | [],k,g,acc,_,hk,h=>⟨trivial,h⟩
 | z :: zs,k,g,acc,hz,hk,h=>by
  have hz1:=hz z U;simp only [bR] at h;obtain ⟨k1,e1,hk1⟩:=vU f z k g hk;rw [e1] at h;obtain ⟨h2,h3⟩:=AV hg hi hf zs k1 _ _ (fun y hy=>hz y dh) hk1 h;obtain ⟨hg1,n,a1,a2,a3,a4⟩:=xI hg hz1.1 I I hk h3;rw [e1] at a1;have hkk:k1=k+n:=by omega
  subst hkk;refine ⟨⟨n,by rw [a3],iw,a4,?_⟩,hg1⟩;rw [List.drop_drop];exact h2
end Go.Proofs.YtkoeecdjijfjnaaGreatDoor
namespace Go.Proofs.YtkoeecdjijfjnaaGreatDoor
open Go.RowKit
theorem kD (a:List GN)(x:Int)(ch:List Int)(h:0<a.length):gG a x ch=eG (dF a ch (a.length - 1)) a ch x (a.getD x.toNat default) 0 true:=by
 unfold gG;obtain ⟨f,e⟩:∃ f,a.length=f+1:=⟨a.length - 1,I⟩;rw [e,Nat.add_sub_cancel];rfl
theorem mN {a:List GN}{x:Int}(ch:List Int)(h:0<a.length)(hl:(aI a).getD x.toNat 0=0):gG a x ch=⟨(oM a).getD x.toNat default,0,true⟩:=by
 rw [kD a x ch h];unfold eG;rw [if_pos hl]
theorem zo {a:List GN}{x:Int}{ch:List Int}(h:0<a.length)(hl:(aI a).getD x.toNat 0=0)(hw:Whl a x ch):ch=[]:=by
 unfold Whl at hw;rw [mN ch h hl] at hw;have:(0:Int)=ch:=hw.2;exact List.eq_nil_of_length_eq_zero I
theorem pd {a:List GN}{z:Int}(h:0<a.length)(hl:(aI a).getD z.toNat 0=0):Whl a z []:=by
 unfold Whl;rw [mN [] h hl];exact ⟨rfl,rfl⟩
section
variable {a:List GN}{i:Nat}{ch:List Int}
theorem sR (hi:i<a)(hg:aO a a)(hk:(a.getD i default).kind=2)(hw:Whl a i ch):∃ c rest,ch=c :: rest∧0<=c∧c.toNat<(a.getD i default).kids.length∧Whl a ((a.getD i default).kids.getD c.toNat 0) rest:=by
 have hL:=((bJ hg i hi).choice hk).1;have hn:=(hg.at_ hi).node;have hopt:=dA hn;rw [if_neg I] at hopt;unfold Whl at hw;rw [kD a i ch I] at hw;unfold eG at hw;rw [Int.toNat_natCast,if_neg I,if_neg I,if_pos hk] at hw;generalize a.getD i default=x at *;obtain ⟨h1,h2⟩:=hw;have hkid:∀ q:Nat,0<=x.kids.getD q 0∧x.kids.getD q 0<(i:Int):=yQ hn (by have:=(hn.choice hk).1;omega)
 have hg1:(bD ch x 0 true).2.2=true:=by
  cases hb:(bD ch x 0 true).2.2 with
  | true=>rfl
  | false =>
   rw [hb] at h1
   have hcn:∃ kc:Nat,(bD ch x 0 true).2.1=kc∧kc<=ch.length:=by
    unfold bD;split
    ·exact ⟨0,rfl,I⟩
    ·next h=>exact ⟨1,rfl,I⟩
   obtain ⟨kc,ek,hkc⟩:=hcn;rw [ek] at h1;exact absurd (xI hg (hkid _).1 (by have:=hkid (bD ch x 0 true).1.toNat;omega) (by have:=hkid (bD ch x 0 true).1.toNat;omega) hkc h1).1 U
 obtain ⟨_,c,e,hp,c0,c1⟩:=iH (k:=0) hg1;rw [show ((0:Nat):Int)=0 from rfl] at e;rw [e] at h1 h2;simp only at h1 h2;have hlen:=hp.1;simp only [List.length_singleton] at hlen;have hc0:=hp.2 0 U
 obtain ⟨c',r,rfl⟩:∃ c' r,ch=c' :: r:=by
  cases ch with
  | nil=>simp at hlen
  | cons c r=>exact ⟨c,r,rfl⟩
 simp only [Nat.add_zero,List.getD_cons_zero] at hc0;subst hc0;rw [show (0:Int)+1=((1:Nat):Int) from rfl] at h1 h2;obtain ⟨_,n,a1,a2,a3,a4⟩:=xI hg (hkid _).1 (by have:=hkid c'.toNat;omega) (by have:=hkid c'.toNat;omega) hlen h1;rw [a1] at h2;refine ⟨c',r,rfl,c0,I,?_⟩;have hn2:n=r:=by simp only [ai] at h2;omega
 rw [hn2] at a4
 simpa using a4
theorem Ft (hi:i<a)(hg:aO a a)(hk:(a.getD i default).kind=3)(hw:Whl a i ch):nu a (a.getD i default).kids ch:=by
 have hL:=(bJ hg i hi).seq hk;have hn:=(hg.at_ hi).node;by_cases hl:(aI a).getD i 0=0
 ·have hc:=zo (x:=i) I (by rw [Int.toNat_natCast];exact hl) hw
  subst hc;have hz:=qH (fun z hz=>((bJ hg z.toNat fo).bd).1) (hL.symm.trans hl);revert hz;generalize (a.getD i default).kids=zs;intro hz
  induction zs with
  | nil=>trivial
  | cons z zs ih =>
   have h0:=hz z U;refine ⟨0,by rw [mN [] I h0];rfl,ab _,pd I h0,ih (fun y hy=>hz y dh)⟩
 ·unfold Whl at hw
  rw [kD a i ch I] at hw;unfold eG at hw;rw [Int.toNat_natCast,if_neg hl,if_neg I,if_neg I,if_neg I] at hw;have:=(AV hg hi (f:=a.length - 1) I (a.getD i default).kids 0 true [] hn.kids (af _) hw.1).1
  simpa using this
theorem Gc (hg:aO a a){z:Int}(h0:0<=z)(hz:z<(i:Int))(hi:i<a)(k:Int)(g:Bool):dF a ch (a.length - 1) z k g=dF a ch a z k g:=by
 have:=vV hg ch (a.length - 1) a z.toNat k g I I I
 rwa [Int.toNat_of_nonneg h0] at this
theorem E5 (hi:i<a)(hg:aO a a)(hk:(a.getD i default).kind=4)(hcl:ch.length<=1000000000)(hw:Whl a i ch):∃ n:Nat,(gG a ((a.getD i default).kids.getD 0 0) ch).at_=n∧n<=ch.length∧Whl a ((a.getD i default).kids.getD 0 0) (ch.take n) ∧
  (bK (a.getD i default).values (gG a ((a.getD i default).kids.getD 0 0) ch).val).1+1<(a.getD i default).kids.length∧Whl a ((a.getD i default).kids.getD ((bK (a.getD i default).values (gG a ((a.getD i default).kids.getD 0 0) ch).val).1+1) 0) (ch.drop n):=by
 have hc:=hg.at_ hi;have hn:=hc.node;have hL:=(bJ hg i hi).bind hk;have hb:=hn.bind hk;have hm:=hc.many hk;have hv:=hc.vals hk;have hkid:∀ q:Nat,0<=(a.getD i default).kids.getD q 0∧(a.getD i default).kids.getD q 0<(i:Int):=yQ hn I;have hbd:=fun (q:Nat)=>(bJ hg ((a.getD i default).kids.getD q 0).toNat (by have:=hkid q;omega)).bd
 have hmem:∀ p:List Int,p.length<=1000000000->(bK (a.getD i default).values (gG a ((a.getD i default).kids.getD 0 0) p).val).1+1<(a.getD i default).kids.length:=fun p hp=>by
  have h0:=hkid 0;have:=(qS hg p hp a ((a.getD i default).kids.getD 0 0).toNat 0 true I I (Int.le_refl _) I).mem hm;rw [Int.toNat_of_nonneg h0.1,hv] at this;have h2:=(eN hn.inc this).2.1;unfold gG;omega
 have hidx:=hmem ch hcl;have hl2:=hL.2 _ I hidx;by_cases hl:(aI a).getD i 0=0
 ·have hc:=zo (x:=i) I (by rw [Int.toNat_natCast];exact hl) hw
  subst hc;have b0:=hbd 0;have b1:=hbd ((bK (a.getD i default).values (gG a ((a.getD i default).kids.getD 0 0) []).val).1+1);exact ⟨0,by rw [mN [] I I];rfl,ab _,pd I I,hidx,pd I I⟩
 ·unfold Whl at hw
  rw [kD a i ch I] at hw;unfold eG at hw;rw [Int.toNat_natCast,if_neg hl,if_neg I,if_neg I,if_pos hk] at hw;rw [Gc hg (hkid 0).1 (hkid 0).2 hi] at hw;obtain ⟨h1,h2⟩:=hw;obtain ⟨k1,e1,hk1⟩:=vU (t:=a) (path:=ch) a ((a.getD i default).kids.getD 0 0) 0 true (af _);rw [show ((0:Nat):Int)=0 from rfl] at e1;rw [e1] at h1 h2;have hq:=hkid ((bK (a.getD i default).values (dF a ch a ((a.getD i default).kids.getD 0 0) 0 true).val).1+1);obtain ⟨g1,n1,a1,a2,a3,a4⟩:=xI hg hq.1 I I hk1 h1;obtain ⟨_,n0,b1,b2,b3,b4⟩:=xI (k:=0) hg (hkid 0).1 jj jj (af _) g1;rw [show ((0:Nat):Int)=0 from rfl,e1] at b1;have hk0:k1=n0:=by omega
  subst hk0;rw [a1] at h2;refine ⟨k1,e1,hk1,by simpa using b4,hidx,?_⟩;have:n1=(ch.drop k1):=by rw [am];omega
  rw [this,List.take_length] at a4;exact a4
end
theorem kO {b:List GN}(hg:aO b b){y:Int}(h0:0<=y)(hy:y.toNat<b)(raw:List Int):((oB b y raw):Int)<=(aI b).getD y.toNat 0∧((aI b).getD y.toNat 0 ≠ 0->oB b y raw ≠ []):=by
 have hb:=(bJ hg y.toNat hy).bd;have:=se hg raw y.toNat hy b hy [] (by rw [Int.toNat_natCast];simp only [List.length_nil];omega);rw [Int.toNat_natCast,Int.toNat_of_nonneg h0] at this;refine ⟨by have:=this.1;simpa [oB] using this,fun h e=>?_⟩;have h2:=this.2 h;unfold oB at e;rw [e] at h2;simp at h2
theorem wN {b:List GN}{rec:Int->Int->List Int->List Int × Nat}{va:Int->List Int->Nat}{fit:Int->List Int}:∀ (ks os ch:List Int),(∀ z ∈ ks,∀ x c,((rec x z c).1.length:Int)<=(aI b).getD z.toNat 0)->(∀ z ∈ ks,((fit z):Int)<=(aI b).getD z.toNat 0) ->
  ((wY rec va fit os ks ch).1.length:Int)<=gJ (aI b) ks
 | [],os,ch,_,_=>by cases os <;> simp [wY,gJ]
 | z :: ks,[],ch,h1,h2=>by
  have:=wN (va:=va) ks [] ch (fun y hy=>h1 y dh) (fun y hy=>h2 y dh);have h3:=h2 z U;simp only [wY,gJ,aa];omega
 | z :: ks,o :: os,ch,h1,h2=>by
  have:=wN (va:=va) ks os (ch.drop (va o ch)) (fun y hy=>h1 y dh) (fun y hy=>h2 y dh);have h3:=h1 z U o (ch.take (va o ch));simp only [wY,gJ,aa];omega
theorem rL {a b:List GN}(hg:aO b b):∀ (f:Nat)(x y:Int)(ch:List Int),0<=y->y.toNat<b->((jG a b f x y ch).1.length:Int)<=(aI b).getD y.toNat 0
 | 0,x,y,ch,h0,hy=>by simpa [jG] using (bJ hg y.toNat hy).bd.1
 | f+1,x,y,ch,h0,hy=>by
  have ih:=rL (a:=a) hg f;have hL:=bJ hg y.toNat hy;have hc:=hg.at_ hy;have hn:=hc.node;have hlb:=hL.bd;have hlr:=hL.range;have hlc:=hL.choice;have hls:=hL.seq;have hlB:=hL.bind;have hmany:=hc.many;have hvals:=hc.vals;have hfit:=fun (z:Int) (a0:0<=z) (a1:z.toNat<b) (raw:List Int)=>(kO hg a0 a1 raw).1
  simp only [jG];unfold kj;generalize a.getD x.toNat default=o;have hff:=hfit y h0 hy ch;generalize hx:b.getD y.toNat default=n at *;split
  ·simpa using hlb.1
  split
  ·next hl h1 =>
   have hob:=vL (x:=o) hn h1.2 (ch.getD 0 0);generalize iJ o n (ch.getD 0 0)=k at *;obtain ⟨k,s⟩:=k;split
   ·next h2 =>
    have:=hlr I;simp only [List.length_singleton];omega
   ·next h2 =>
    have h2:n.kind=2:=I
    have hkn:k.toNat<n.kids:=by
     have:=hob.2;unfold gY at this;rw [if_neg I,if_pos h2] at this;have:=hob.1;simp only at *;omega
    have hm:n.kids.getD k.toNat 0 ∈ n.kids:=aC hkn;have hz:=hn.kids _ hm;have h3:=(hlc h2).2 _ hm;split
    ·have:=hfit (n.kids.getD k.toNat 0) hz.1 I []
     simp only [ai];omega
    ·have:=ih (o.kids.getD (ch.getD 0 0).toNat 0) (n.kids.getD k.toNat 0) ch.tail hz.1 I
     simp only [ai];omega
  split
  ·next h3 =>
   rw [hls h3.2];exact wN _ _ _ (fun z hz x c=>ih x z c (hn.kids z hz).1 fo) (fun z hz=>hfit z (hn.kids z hz).1 fo [])
  split
  ·next h4 =>
   have hb:=hn.bind h4.2;have hkid:∀ q:Nat,0<=n.kids.getD q 0∧n.kids.getD q 0<((y.toNat:Nat):Int):=yQ hn I;have h5:=ih (o.kids.getD 0 0) (n.kids.getD 0 0) (ch.take (gG a (o.kids.getD 0 0) ch).at_.toNat) (hkid 0).1 jj;have hb0:=(bJ hg (n.kids.getD 0 0).toNat jj).bd;generalize (jG a b f (o.kids.getD 0 0) (n.kids.getD 0 0) (ch.take (gG a (o.kids.getD 0 0) ch).at_.toNat))=r0 at *;have hk0:=hkid 0;have hmem:=(qS hg r0.1 I b (n.kids.getD 0 0).toNat 0 true I I (Int.le_refl _) I).mem (hmany h4.2);rw [Int.toNat_of_nonneg hk0.1,hvals h4.2] at hmem;have hfi:=(eN hn.inc hmem).2.1;have e:gG b (n.kids.getD 0 0) r0.1=dF b r0.1 b (n.kids.getD 0 0) 0 true:=rfl;rw [e];have hidx:(bK n.values (dF b r0.1 b (n.kids.getD 0 0) 0 true).val).1+1<n.kids:=by omega
   have h6:=(hlB h4.2).2 _ I hidx;have h7:=hkid ((bK n.values (dF b r0.1 b (n.kids.getD 0 0) 0 true).val).1+1);have h8:=ih (o.kids.getD ((bK o.values (gG a (o.kids.getD 0 0) ch).val).1+1) 0) _ (ch.drop (gG a (o.kids.getD 0 0) ch).at_.toNat) h7.1 I;rw [aa];omega
  ·exact hff
end Go.Proofs.YtkoeecdjijfjnaaGreatDoor
namespace Go.Proofs.YtkoeecdjijfjnaaGreatDoor
open Go.RowKit
theorem GB {t:List GN}{vn:Value}{gw gs gl gf i:Nat}{P:Nat->Prop}{w:World}(h:dY t vn gw gs gl gf P w)(hi:i<t) :
  Calls Tryz.prog 91 #[qp gw,↑i] w fun e w'=>e=.returned (.int .i64 ((aI t).getD i 0))∧w=w':=by
 have c1:=h.box.cell' (u:=.slice (qp gl) t t) 1 rfl;have wl:=h.lens.cell' i (iE (l:=aI t) (by rw [mK];exact hi));have q0:(0:Int)<=(i:Int):=by omega
 have q1:(i:Int)<(t:Int):=I;generalize (aI t).getD i 0=z at *;clear h;go_enter Tryz.func91,Tryz.ntmps91;go_wp2_with fail;go_ret;exact ⟨rfl,rfl⟩
theorem vq {t:List GN}{bn on cn gw gs gl gf i:Nat}{P:Nat->Prop}{w:World}(h:dY t (.slice (qt bn on) t cn) gw gs gl gf P w)(hi:i<t) :
  Calls Tryz.prog 92 #[qp gw,↑i] w fun e w'=>e=.returned (qt bn (on+i*12))∧w=w':=by
 have c0:=h.box.cell' (u:=qp gs) 0 rfl;have c1:=h.sets;have q0:(0:Int)<=(i:Int):=by omega
 have q1:(i:Int)<(t:Int):=I;clear h;go_enter Tryz.func92,Tryz.ntmps92;go_wp2_with fail;go_ret;exact ⟨rfl,rfl⟩
def fO (x:GN):Bool:=x.kind == 1 || x.kind == 2
theorem rJ {x:GN}{a:NA}{b o:Nat}{w:World}(hn:aR w b o x a) :
  Calls Tryz.prog 93 #[qt b o] w fun e w'=>e=.returned (fO x)∧w=w':=by
 have HB:=aYf (show fO x=(x.kind == 1 || x.kind == 2) from rfl);have c0:=hn.c0;clear hn;cases k1:(x.kind == 1) with
 | true =>
  have HK:=aYf k1;go_enter Tryz.func93,Tryz.ntmps93;go_wp2_with fail;go_ret;refine ⟨?_,rfl⟩;rw [HB.out,HK.out];rfl
 | false =>
  have HK:=aYf k1;go_enter Tryz.func93,Tryz.ntmps93;go_wp2_with fail;go_ret;refine ⟨?_,rfl⟩;rw [HB.out,HK.out];rfl
theorem lK {x:GN}{a:NA}{b o j:Nat}{w:World}(hn:aR w b o x a)(hok:cR j x) :
  qg 134 #[qt b o] w (mr (.int .i64 (gY x)) w):=by
 have hnum:=aZ hok.numbers;have HO:=aYf (show gY x=if x.kind=1 then x.hi - x.lo+1 else if x.kind=2 then (x.kids:Int) else 0 from rfl);have hw1:IntKind.i64.wrap (x.hi - x.lo)=x.hi - x.lo:=IntWalk.i64_in _ I;have hw2:IntKind.i64.wrap (x.hi - x.lo+1)=x.hi - x.lo+1:=IntWalk.i64_in _ I;have c0:=hn.c0;have c2:=hn.c2;have c3:=hn.c3;have c7:=hn.c7;clear hn hnum hok;by_cases hk:x.kind=1
 ·have t1:(x.kind == 1)=true:=aYh hk
  have HK:=aYf hk;clear hk;go_enter Tryz.func134,Tryz.ntmps134;go_wp2_with fail;go_quiet (fail);go_wp2_with fail;go_ret;refine ⟨aK ?_,_,rfl⟩;rw [HO.out,if_pos HK.out]
 ·have t1:(x.kind == 1)=false:=aYg hk
  have HK:=aYf hk;clear hk;by_cases hk2:x.kind=2
  ·have t2:(x.kind == 2)=true:=aYh hk2
   have HK2:=aYf hk2;clear hk2;go_enter Tryz.func134,Tryz.ntmps134;go_wp2_with fail;go_ret;exact ⟨aK (by rw [HO.out,if_neg HK.out,if_pos HK2.out]),0,rfl⟩
  ·have t2:(x.kind == 2)=false:=aYg hk2
   have HK2:=aYf hk2;clear hk2;go_enter Tryz.func134,Tryz.ntmps134;go_wp2_with fail;go_ret;exact ⟨aK (by rw [HO.out,if_neg HK.out,if_neg HK2.out]),0,rfl⟩
theorem oV {w:World}{P:Nat->Prop}{A:Option Addr}{n c:Nat}{l:List ByteArray}(h:nS w P (.slice A n c) l){i:Nat}(hi:i<l):∃ b off,A=some ↑(qt b off)∧qc w b (off+i) (.string (l.getD i ByteArray.empty)):=by
 obtain ⟨b,off,c',cs,e,hb,-,-,hr,hc⟩:=Lst.at_ lj.len h ByteArray.empty hi;injection e with e _ _;have:=hc 0 (.string (l.getD i ByteArray.empty)) (by rw [hr.2];rfl);exact ⟨b,off,e,iy⟩
theorem teq {a b:ByteArray}(h:a=b):(a.toList == b.toList)=true:=by rw [h];exact beq_self_eq_true _
theorem tne {a b:ByteArray}(h:¬ a=b):(a.toList == b.toList)=false:=by
 refine aYg fun e=>h ?_
 rw [ByteArray.toList_eq,ByteArray.toList_eq] at e;obtain ⟨⟨x⟩⟩:=a;obtain ⟨⟨y⟩⟩:=b;have e2:x=y:=e;rw [e2]
def Mh (s:ByteArray)(l:List ByteArray)(W:World)(i:Value)(wr:World):Prop:=∃ k:Nat,k<=l.length∧i=↑k∧W=wr∧oA s l 0=oA s (l.drop k) k
theorem Fa {s:ByteArray}{l:List ByteArray}{k:Nat}(hk:k<l):oA s (l.drop k) k=if s=l.getD k ByteArray.empty then (k:Int) else oA s (l.drop (k+1)) ((k:Int)+1):=by
 rw [List.drop_eq_getElem_cons hk];have e:l.getD k ByteArray.empty=l[k]:=by rw [List.getD_eq_getElem?_getD,List.getElem?_eq_getElem hk];rfl
 rw [e];rfl
theorem yS {s:ByteArray}{l:List ByteArray}{v:Value}{P:Nat->Prop}{w:World}(h:nS w P v l)(hs:l.length<=1000000000) :
  Calls Tryz.prog 143 #[v,s] w fun e w'=>e=.returned (.int .i64 (oA s l 0))∧w=w':=by
 obtain ⟨A,c,rfl,h1,h2⟩:=h.form;have H:=aYf h;clear h;go_enter Tryz.func143,Tryz.ntmps143;go_wp2_with fail;go_loopw [8] (fun i wr=>Mh s l w i wr) (fun i _=>l.length - (intOf i).toNat)
 case atStart=>exact ⟨0,af _,rfl,rfl,rfl⟩
 case round =>
  obtain ⟨k,hk,rfl,rfl,hix⟩:=hrel;have HX:=aYf hix;clear hix;by_cases hlt:k<l
  ·obtain ⟨b,off,rfl,g⟩:=oV H.out hlt
   have HS:=aYf (Fa (s:=s) hlt);generalize l.getD k ByteArray.empty=y at *;by_cases hy:s=y
   ·have t1:=teq hy
    have HY:=aYf hy;clear hy;go_wp2_with fail;go_ret;refine ⟨aK ?_,rfl⟩;rw [HX.out,HS.out,if_pos HY.out]
   ·have t1:=tne hy
    have HY:=aYf hy;clear hy;go_wp2_with fail;refine ⟨⟨k+1,I,rfl,rfl,?_⟩,by show l.length - ((k:Int)+1).toNat<l - (k:Int).toNat;omega⟩;rw [HX.out,HS.out,if_neg HY.out]
    congr 1
  ·have hkl:k=l:=by omega
   go_wp2_with fail;go_ret;refine ⟨aK ?_,rfl⟩;rw [HX.out,hkl,List.drop_length];rfl
end Go.Proofs.YtkoeecdjijfjnaaGreatDoor
namespace Go.Proofs.YtkoeecdjijfjnaaGreatDoor
open Go.RowKit
structure sP (w:World):Prop where
 tab:w.var? Tryz.prog "internal/strconv.uint64pow10"=some (Lib.pow10Tab.map fun z=>Value.int .u64 z).toArray
 sx:∃ tp p,w.var? Tryz.prog "strconv.ErrSyntax"=some #[.iface tp p]
 rg:∃ tp p,w.var? Tryz.prog "strconv.ErrRange"=some #[.iface tp p]
theorem p9 {P:Program}{w w':World}{n:String}{cs:Array Value}(h:w.var? P n=some cs)(hx:Ext w w'):w'.var? P n=some cs:=by
 unfold World.var? at h ⊢;cases hg:P.globalNamed n with
 | none=>rw [hg] at h;cases h
 | some g =>
  rw [hg] at h;simp only [aj] at h ⊢
  have hlt:g<w:=by
   refine Nat.lt_of_not_le fun hl=>?_
   rw [Array.getElem?_eq_none hl] at h;cases h
  rw [hx.block g hlt];exact h
theorem sP.ext {w w':World}(h:sP w)(hx:Ext w w'):sP w':=⟨p9 h.tab hx,let ⟨a,b,c⟩:=h.sx;⟨a,b,p9 c hx⟩,let ⟨a,b,c⟩:=h.rg;⟨a,b,p9 c hx⟩⟩
theorem ur {n:Int}{w:World}(h:sP w)(hn:I64 n):qg 144 #[↑n] w (dE (.string (kC n)) w):=by
 unfold I64 at hn;refine (Tryz.strconv_Itoa n I I w h.tab).mono ?_;rintro e w' ⟨rfl,k,os,rfl⟩;exact ⟨rfl,Lib.below_grow _ _ (ab _) k os⟩
theorem GY {s:ByteArray}{v:Int}{w:World}(hs:s.size<=281474976710656)(h:Lib.atoiAll s.data.toList=.ok v):qg 145 #[s] w (dE (.tuple #[↑v,.nilIface]) w):=by
 refine (Tryz.strconv_Atoi_ok s I v h w).mono ?_;rintro e w' ⟨rfl,h2⟩;refine ⟨rfl,?_⟩;rcases h2 with rfl | ⟨t,rfl⟩
 ·exact aq _
 ·exact Lib.bytesWorld_below w 5 t
theorem Hu {s:ByteArray}{w:World}(ht:sP w)(hs:s.size<=281474976710656)(h:∀ v,Lib.atoiAll s.data.toList ≠ .ok v):Calls Tryz.prog 145 #[s] w fun e w'=>∃ x N,e=.returned (.tuple #[.int .i64 x,.iface 208 (qp N)])∧Ext w w':=by
 cases hc:Lib.atoiAll s.data.toList
 ·exact absurd hc (h _)
 ·obtain ⟨tp,p,hv⟩:=ht.sx
  refine (Tryz.strconv_Atoi_syntax_var s hs hc tp p w hv).mono ?_;rintro e w' ⟨N,rfl,-,-,hb⟩;exact ⟨0,N,rfl,hb⟩
 ·obtain ⟨tp,p,hv⟩:=ht.rg
  refine (Tryz.strconv_Atoi_range_var s hs hc tp p w hv).mono ?_;rintro e w' ⟨N,rfl,-,-,hb⟩;exact ⟨_,N,rfl,hb⟩
end Go.Proofs.YtkoeecdjijfjnaaGreatDoor
