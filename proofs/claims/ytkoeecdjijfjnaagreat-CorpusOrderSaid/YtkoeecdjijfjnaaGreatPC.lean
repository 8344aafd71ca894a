/- The regions of CorpusOrder, against a frame that is a variable. Conditions: none. (printed by gen/lo.py) -/
import Derived.Test.YtkoeecdjijfjnaaGreatAY
import Derived.Test.YtkoeecdjijfjnaaGreatLY
import Derived.Test.YtkoeecdjijfjnaaGreatL4
namespace Go.Proofs.YtkoeecdjijfjnaaGreat
open Go.RowKit
theorem y_subn {ρ:Operand→Value}{o:Oper}{w:World}{i k:Nat}(hk:i=k+1)(x y:Operand)(ho:o.op=.binOp .sub 3 x y 3)(hx:ρ x=.int .i64 (i:Int))(hy:ρ y=.int .i64 1)(hi:(i:Int)≤1000000:=by omega):(execOp ρ o).run Tryz.prog w=.ok (.value (.int .i64 (k:Int))) w:=by
 have h:=y_sub (w:=w) x y ho hx hy (by unfold I64;omega)
 have e:(i:Int) - 1=(k:Int):=by omega
 rw [e] at h
 exact h
noncomputable def r4_7:Code:=((Tryz.f4.body.bind (regIn 7)).getD .skip)
noncomputable def r4_15:Code:=((Tryz.f4.body.bind (regIn 15)).getD .skip)
noncomputable def r4_19:Code:=((Tryz.f4.body.bind (regIn 19)).getD .skip)
noncomputable def r4_24:Code:=((Tryz.f4.body.bind (regIn 24)).getD .skip)
noncomputable def r4_0:Code:=((Tryz.f4.body.bind (regIn 0)).getD .skip)
theorem reg4_0 {Q:Exit→Act→World→Prop}{a:Act}{w:World}    (_:a.tmps.size=150)
  (h:Q .normal (a.put (some 10) ((.bool false))) w):Code.wp Tryz.prog r4_0 Q a w:=by
 conv=>arg 2;whnf
 refine wp_region_W ?_
 refine l_value 10 ((.bool false)) rfl rfl (y_assign (.const (.bool false)) rfl rfl) ?_
 refine l_nil ?_
 exact h
noncomputable def r4_1:Code:=((Tryz.f4.body.bind (regIn 1)).getD .skip)
theorem reg4_1 {Q:Exit→Act→World→Prop}{a:Act}{w:World}{Al:Option Addr}{ll cl:Nat}(e0:a.eval (.tmp 0)=.slice Al ll cl)(hcall:Calls Tryz.prog 8 #[.slice Al ll cl] w (RetTree w))(hsz:a.tmps.size=150)
  (h:∀ A c t w',Nds w' (fun b=>w.heap.size≤b∧b<w'.heap.size) (.slice A t.length c) t→GenOK t→t.length≤14→Ext w w'→Q .normal (((a.put (some 23) (.slice Al ll cl)).put (some 24) (.agg #[.slice A t.length c])).put (some 11) (.pointer (some ⟨w'.heap.size,0,none⟩))) ((w'.alloc (.cells #[.slice none 0 0] 25)).setCell ⟨w'.heap.size,0,none⟩ (.slice A t.length c))):Code.wp Tryz.prog r4_1 Q a w:=by
 conv=>arg 2;whnf
 refine wp_region_W ?_
 refine l_value 23 (.slice Al ll cl) rfl rfl (y_move (.tmp 0) rfl (by simp [e0])) ?_
 refine l_call 24 rfl rfl 8 #[(.tmp 23)] #[22] rfl _ Tryz.func8 (by rfl) (by rfl) #[.slice Al ll cl] (by simp [vp,hsz]) ?_
 refine (hcall).mono ?_
 rintro e w' ⟨A,c,t,rfl,h1,h2,h3,h4⟩
 refine ⟨_,rfl,?_⟩
 refine l_value 11 (.pointer (some ⟨w'.heap.size,0,none⟩)) rfl rfl (r_alloc25 rfl) ?_
 refine l_skip rfl rfl (r_store25 (A:=A) (n:=t.length) (c:=c) (.tmp 11) (.tmp 24) rfl (by simp [vp,zp,hsz]) (by simp [vp,zp,hsz]) ((Blk.new w' 25 #[.slice none 0 0]).cell' 0 rfl) ((Blk.new w' 25 #[.slice none 0 0]).frozen 0)) ?_
 refine l_nil ?_
 exact h A c t w' h1 h2 h3 h4
noncomputable def r4_2:Code:=((Tryz.f4.body.bind (regIn 2)).getD .skip)
theorem reg4_2 {Q:Exit→Act→World→Prop}{a:Act}{w:World}{bu:Int}(e2:a.eval (.tmp 2)=.int .i64 bu){p:Int}(hcall:Calls Tryz.prog 9 #[.int .i64 bu,.int .i64 60] w fun e w'=>e=.returned (.int .i64 p)∧w=w')(hsz:a.tmps.size=150)
  (h:Q .normal (((a.put (some 25) (.int .i64 bu)).put (some 26) (.int .i64 p)).put (some 12) (.int .i64 p)) w):Code.wp Tryz.prog r4_2 Q a w:=by
 conv=>arg 2;whnf
 refine wp_region_W ?_
 refine l_value 25 (.int .i64 bu) rfl rfl (y_move (.tmp 2) rfl (by simp [e2])) ?_
 refine l_call 26 rfl rfl 9 #[(.tmp 25),(.const (.int .i64 60))] #[3,3] rfl _ Tryz.func9 (by rfl) (by rfl) #[.int .i64 bu,(.int .i64 60)] (by simp [vp,hsz,vc]) ?_
 refine (hcall).mono ?_
 rintro e w' ⟨rfl,rfl⟩
 refine ⟨_,rfl,?_⟩
 refine l_value 12 (.int .i64 p) rfl rfl (y_assign (.tmp 26) rfl (by simp [vp,zp,hsz])) ?_
 refine l_nil ?_
 exact h
noncomputable def r4_3:Code:=((Tryz.f4.body.bind (regIn 3)).getD .skip)
theorem reg4_3 {Q:Exit→Act→World→Prop}{a:Act}{w:World}{Ak:Option Addr}{lk ck:Nat}{gt:Nat}(e1:a.eval (.tmp 1)=.slice Ak lk ck)(e11:a.eval (.tmp 11)=.pointer (some ⟨gt,0,none⟩)){At:Option Addr}{nt ct:Nat}(hb:Blk w gt 25 #[.slice At nt ct])(hcall:Calls Tryz.prog 11 #[.agg #[.slice At nt ct],.slice Ak lk ck,.int .i64 16] w (RetSome 16 w))(hsz:a.tmps.size=150)
  (h:∀ A c gs w',Gvs w' (fun b=>b<w'.heap.size) (.slice A gs.length c) gs→gs.length≤16→Ext w w'→Q .normal ((((a.put (some 27) (.agg #[.slice At nt ct])).put (some 28) (.slice Ak lk ck)).put (some 29) (.slice A gs.length c)).put (some 13) (.slice A gs.length c)) w'):Code.wp Tryz.prog r4_3 Q a w:=by
 conv=>arg 2;whnf
 refine wp_region_W ?_
 refine l_value 27 (.agg #[.slice At nt ct]) rfl rfl (y_load25 (.tmp 11) rfl (by simp [e11]) (hb.cell' 0 rfl)) ?_
 refine l_value 28 (.slice Ak lk ck) rfl rfl (y_move (.tmp 1) rfl (by simp [vp,e1])) ?_
 refine l_call 29 rfl rfl 11 #[(.tmp 27),(.tmp 28),(.const (.int .i64 16))] #[25,22,3] rfl _ Tryz.func11 (by rfl) (by rfl) #[.agg #[.slice At nt ct],.slice Ak lk ck,(.int .i64 16)] (by simp [vp,zp,hsz,vc]) ?_
 refine (hcall).mono ?_
 rintro e w' ⟨A,c,gs,rfl,h1,h2,h3⟩
 refine ⟨_,rfl,?_⟩
 refine l_value 13 (.slice A gs.length c) rfl rfl (y_assign (.tmp 29) rfl (by simp [vp,zp,hsz])) ?_
 refine l_nil ?_
 exact h A c gs w' h1 h2 h3
noncomputable def r4_4:Code:=((Tryz.f4.body.bind (regIn 4)).getD .skip)
theorem reg4_4 {Q:Exit→Act→World→Prop}{a:Act}{w:World}{gt:Nat}{b:Int}(e11:a.eval (.tmp 11)=.pointer (some ⟨gt,0,none⟩))(e12:a.eval (.tmp 12)=.int .i64 b){At:Option Addr}{nt ct:Nat}(hb:Blk w gt 25 #[.slice At nt ct]){t:List GN}(hcall:Calls Tryz.prog 10 #[.agg #[.slice At nt ct],.int .i64 b] w (RetNewC t b w))(hsz:a.tmps.size=150)
  (h:∀ g P vn w',Mine t vn b [] g P (.slice none 0 0) w.heap.size w'→Ext w w'→Q .normal ((((((((a.put (some 31) (.agg #[.slice At nt ct])).put (some 32) (.int .i64 b)).put (some 33) (.tuple #[.pointer (some ⟨g.c,0,none⟩),.int .i64 0])).put (some 30) (.tuple #[.pointer (some ⟨g.c,0,none⟩),.int .i64 0])).put (some 34) (.pointer (some ⟨g.c,0,none⟩))).put (some 35) (.int .i64 0)).put (some 14) (.pointer (some ⟨g.c,0,none⟩))).put (some 15) (.int .i64 0)) w'):Code.wp Tryz.prog r4_4 Q a w:=by
 conv=>arg 2;whnf
 refine wp_region_W ?_
 refine l_value 31 (.agg #[.slice At nt ct]) rfl rfl (y_load25 (.tmp 11) rfl (by simp [e11]) (hb.cell' 0 rfl)) ?_
 refine l_value 32 (.int .i64 b) rfl rfl (y_move (.tmp 12) rfl (by simp [vp,e12])) ?_
 refine l_call 33 rfl rfl 10 #[(.tmp 31),(.tmp 32)] #[25,3] rfl _ Tryz.func10 (by rfl) (by rfl) #[.agg #[.slice At nt ct],.int .i64 b] (by simp [vp,zp,hsz]) ?_
 refine (hcall).mono ?_
 rintro e w' ⟨g,P,vn,rfl,hm,hx⟩
 refine ⟨_,rfl,?_⟩
 refine l_value 30 (.tuple #[.pointer (some ⟨g.c,0,none⟩),.int .i64 0]) rfl rfl (y_move (.tmp 33) rfl (by simp [vp,zp,hsz])) ?_
 refine l_value 34 (.pointer (some ⟨g.c,0,none⟩)) rfl rfl (y_ext0 (u:=.pointer (some ⟨g.c,0,none⟩)) (v:=.int .i64 0) (.tmp 30) rfl (by simp [vp,zp,hsz])) ?_
 refine l_value 35 (.int .i64 0) rfl rfl (y_ext1 (u:=.pointer (some ⟨g.c,0,none⟩)) (v:=.int .i64 0) (.tmp 30) rfl (by simp [vp,zp,hsz])) ?_
 refine l_value 14 (.pointer (some ⟨g.c,0,none⟩)) rfl rfl (y_assign (.tmp 34) rfl (by simp [vp,zp,hsz])) ?_
 refine l_value 15 (.int .i64 0) rfl rfl (y_assign (.tmp 35) rfl (by simp [vp,zp,hsz])) ?_
 refine l_nil ?_
 exact h g P vn w' hm hx
noncomputable def r4_5:Code:=((Tryz.f4.body.bind (regIn 5)).getD .skip)
theorem reg4_5 {Q:Exit→Act→World→Prop}{a:Act}{w:World}{gt:Nat}{b:Int}(e11:a.eval (.tmp 11)=.pointer (some ⟨gt,0,none⟩))(e12:a.eval (.tmp 12)=.int .i64 b){At:Option Addr}{nt ct:Nat}(hb:Blk w gt 25 #[.slice At nt ct]){t:List GN}(hcall:Calls Tryz.prog 10 #[.agg #[.slice At nt ct],.int .i64 b] w (RetNewC t b w))(hsz:a.tmps.size=150)
  (h:∀ g P vn w',Mine t vn b [] g P (.slice none 0 0) w.heap.size w'→Ext w w'→Q .normal ((((((((a.put (some 37) (.agg #[.slice At nt ct])).put (some 38) (.int .i64 b)).put (some 39) (.tuple #[.pointer (some ⟨g.c,0,none⟩),.int .i64 0])).put (some 36) (.tuple #[.pointer (some ⟨g.c,0,none⟩),.int .i64 0])).put (some 40) (.pointer (some ⟨g.c,0,none⟩))).put (some 41) (.int .i64 0)).put (some 16) (.pointer (some ⟨g.c,0,none⟩))).put (some 17) (.int .i64 0)) w'):Code.wp Tryz.prog r4_5 Q a w:=by
 conv=>arg 2;whnf
 refine wp_region_W ?_
 refine l_value 37 (.agg #[.slice At nt ct]) rfl rfl (y_load25 (.tmp 11) rfl (by simp [e11]) (hb.cell' 0 rfl)) ?_
 refine l_value 38 (.int .i64 b) rfl rfl (y_move (.tmp 12) rfl (by simp [vp,e12])) ?_
 refine l_call 39 rfl rfl 10 #[(.tmp 37),(.tmp 38)] #[25,3] rfl _ Tryz.func10 (by rfl) (by rfl) #[.agg #[.slice At nt ct],.int .i64 b] (by simp [vp,zp,hsz]) ?_
 refine (hcall).mono ?_
 rintro e w' ⟨g,P,vn,rfl,hm,hx⟩
 refine ⟨_,rfl,?_⟩
 refine l_value 36 (.tuple #[.pointer (some ⟨g.c,0,none⟩),.int .i64 0]) rfl rfl (y_move (.tmp 39) rfl (by simp [vp,zp,hsz])) ?_
 refine l_value 40 (.pointer (some ⟨g.c,0,none⟩)) rfl rfl (y_ext0 (u:=.pointer (some ⟨g.c,0,none⟩)) (v:=.int .i64 0) (.tmp 36) rfl (by simp [vp,zp,hsz])) ?_
 refine l_value 41 (.int .i64 0) rfl rfl (y_ext1 (u:=.pointer (some ⟨g.c,0,none⟩)) (v:=.int .i64 0) (.tmp 36) rfl (by simp [vp,zp,hsz])) ?_
 refine l_value 16 (.pointer (some ⟨g.c,0,none⟩)) rfl rfl (y_assign (.tmp 40) rfl (by simp [vp,zp,hsz])) ?_
 refine l_value 17 (.int .i64 0) rfl rfl (y_assign (.tmp 41) rfl (by simp [vp,zp,hsz])) ?_
 refine l_nil ?_
 exact h g P vn w' hm hx
noncomputable def r4_6:Code:=((Tryz.f4.body.bind (regIn 6)).getD .skip)
theorem reg4_6 {Q:Exit→Act→World→Prop}{a:Act}{w:World}{g1:CA}  {g2:CA}  (e14:a.eval (.tmp 14)=.pointer (some ⟨g1.c,0,none⟩))(e15:a.eval (.tmp 15)=.int .i64 0)(e16:a.eval (.tmp 16)=.pointer (some ⟨g2.c,0,none⟩))(e17:a.eval (.tmp 17)=.int .i64 0)  (hsz:a.tmps.size=150)
  (h:Q .normal ((((((((((((((a.put (some 42) (.pointer (some ⟨g1.c,0,none⟩))).put (some 43) (.bool false)).put (some 44) (.bool false)).put (some 45) (.pointer (some ⟨g2.c,0,none⟩))).put (some 46) (.bool false)).put (some 47) (.bool false)).put (some 48) (.bool false)).put (some 49) (.int .i64 0)).put (some 50) (.bool false)).put (some 51) (.bool false)).put (some 52) (.bool false)).put (some 53) (.int .i64 0)).put (some 54) (.bool false)).put (some 55) (.bool false)) w):Code.wp Tryz.prog r4_6 Q a w:=by
 conv=>arg 2;whnf
 refine wp_region_W ?_
 refine l_value 42 (.pointer (some ⟨g1.c,0,none⟩)) rfl rfl (y_move (.tmp 14) rfl (by simp [e14])) ?_
 refine l_value 43 (.bool false) rfl rfl (y_nil28 (A:=⟨g1.c,0,none⟩) (.tmp 42) rfl (by simp [vp,hsz]) (fun _=>rfl)) ?_
 refine l_value 44 (.bool false) rfl rfl (y_move (.tmp 43) rfl (by simp [vp,zp,hsz])) ?_
 refine l_onG 45 (.pointer (some ⟨g2.c,0,none⟩)) 44 (j:=2) (want:=false) (b:=false) rfl rfl (by simp [zp,hsz]) (by simp [vp,zp,hsz]) rfl rfl (y_move (.tmp 16) rfl (by simp [vp,e16])) ?_
 refine l_onG 46 (.bool false) 44 (j:=2) (want:=false) (b:=false) rfl rfl (by simp [zp,hsz]) (by simp [vp,zp,hsz]) rfl rfl (y_nil28 (A:=⟨g2.c,0,none⟩) (.tmp 45) rfl (by simp [vp,zp,hsz]) (fun _=>rfl)) ?_
 refine l_value 47 (.bool false) rfl rfl (y_pickf (.tmp 44) (.const (.bool true)) (.tmp 46) rfl (by simp [vp,zp,hsz]) (by simp [vp,zp,hsz])) ?_
 refine l_value 48 (.bool false) rfl rfl (y_move (.tmp 47) rfl (by simp [vp,zp,hsz])) ?_
 refine l_onG 49 (.int .i64 0) 48 (j:=6) (want:=false) (b:=false) rfl rfl (by simp [zp,hsz]) (by simp [vp,zp,hsz]) rfl rfl (y_move (.tmp 15) rfl (by simp [vp,e15])) ?_
 refine l_onG 50 (.bool false) 48 (j:=6) (want:=false) (b:=false) rfl rfl (by simp [zp,hsz]) (by simp [vp,zp,hsz]) rfl rfl (y_neqb (a:=0) (b:=0) rfl 29 (by simp) (.tmp 49) (.const (.int .i64 0)) rfl (by simp [vp,zp,hsz]) rfl) ?_
 refine l_value 51 (.bool false) rfl rfl (y_pickf (.tmp 48) (.const (.bool true)) (.tmp 50) rfl (by simp [vp,zp,hsz]) (by simp [vp,zp,hsz])) ?_
 refine l_value 52 (.bool false) rfl rfl (y_move (.tmp 51) rfl (by simp [vp,zp,hsz])) ?_
 refine l_onG 53 (.int .i64 0) 52 (j:=10) (want:=false) (b:=false) rfl rfl (by simp [zp,hsz]) (by simp [vp,zp,hsz]) rfl rfl (y_move (.tmp 17) rfl (by simp [vp,e17])) ?_
 refine l_onG 54 (.bool false) 52 (j:=10) (want:=false) (b:=false) rfl rfl (by simp [zp,hsz]) (by simp [vp,zp,hsz]) rfl rfl (y_neqb (a:=0) (b:=0) rfl 29 (by simp) (.tmp 53) (.const (.int .i64 0)) rfl (by simp [vp,zp,hsz]) rfl) ?_
 refine l_value 55 (.bool false) rfl rfl (y_pickf (.tmp 52) (.const (.bool true)) (.tmp 54) rfl (by simp [vp,zp,hsz]) (by simp [vp,zp,hsz])) ?_
 refine l_nil ?_
 exact h
noncomputable def r4_8:Code:=((Tryz.f4.body.bind (regIn 8)).getD .skip)
theorem reg4_8 {Q:Exit→Act→World→Prop}{a:Act}{w:World}    (_:a.tmps.size=150)
  (h:Q .normal (a.put (some 18) ((.int .i64 0))) w):Code.wp Tryz.prog r4_8 Q a w:=by
 conv=>arg 2;whnf
 refine wp_region_W ?_
 refine l_value 18 ((.int .i64 0)) rfl rfl (y_assign (.const (.int .i64 0)) rfl rfl) ?_
 refine l_nil ?_
 exact h
noncomputable def r4_20:Code:=((Tryz.f4.body.bind (regIn 20)).getD .skip)
theorem reg4_20 {Q:Exit→Act→World→Prop}{a:Act}{w:World}    (_:a.tmps.size=150)
  (h:Q .normal (a.put (some 22) ((.int .i64 0))) w):Code.wp Tryz.prog r4_20 Q a w:=by
 conv=>arg 2;whnf
 refine wp_region_W ?_
 refine l_value 22 ((.int .i64 0)) rfl rfl (y_assign (.const (.int .i64 0)) rfl rfl) ?_
 refine l_nil ?_
 exact h
noncomputable def r4_9:Code:=((Tryz.f4.body.bind (regIn 9)).getD .skip)
theorem reg4_9 {Q:Exit→Act→World→Prop}{a:Act}{w:World}{Ag:Option Addr}{ng cg:Nat}{i:Nat}(e13:a.eval (.tmp 13)=.slice Ag ng cg)(e18:a.eval (.tmp 18)=.int .i64 (i:Int))  (hsz:a.tmps.size=150)
  (h:Q .normal ((((a.put (some 56) (.int .i64 (i:Int))).put (some 57) (.slice Ag ng cg)).put (some 58) (.int .i64 (ng:Int))).put (some 59) (.bool (decide ((i:Int)<(ng:Int))))) w):Code.wp Tryz.prog r4_9 Q a w:=by
 conv=>arg 2;whnf
 refine wp_region_W ?_
 refine l_value 56 (.int .i64 (i:Int)) rfl rfl (y_move (.tmp 18) rfl (by simp [e18])) ?_
 refine l_value 57 (.slice Ag ng cg) rfl rfl (y_move (.tmp 13) rfl (by simp [vp,e13])) ?_
 refine l_value 58 (.int .i64 (ng:Int)) rfl rfl (y_len (A:=Ag) (n:=ng) (c:=cg) 36 (by simp) (.tmp 57) rfl (by simp [vp,zp,hsz])) ?_
 refine l_value 59 (.bool (decide ((i:Int)<(ng:Int)))) rfl rfl (y_lss (.tmp 56) (.tmp 58) rfl (by simp [vp,hsz]) (by simp [vp,zp,hsz])) ?_
 refine l_nil ?_
 exact h
noncomputable def r4_21:Code:=((Tryz.f4.body.bind (regIn 21)).getD .skip)
theorem reg4_21 {Q:Exit→Act→World→Prop}{a:Act}{w:World}{Ax:Option Addr}{nx cx:Nat}{i:Nat}(e20:a.eval (.tmp 20)=.slice Ax nx cx)(e22:a.eval (.tmp 22)=.int .i64 (i:Int))  (hsz:a.tmps.size=150)
  (h:Q .normal ((((a.put (some 112) (.int .i64 (i:Int))).put (some 113) (.slice Ax nx cx)).put (some 114) (.int .i64 (nx:Int))).put (some 115) (.bool (decide ((i:Int)<(nx:Int))))) w):Code.wp Tryz.prog r4_21 Q a w:=by
 conv=>arg 2;whnf
 refine wp_region_W ?_
 refine l_value 112 (.int .i64 (i:Int)) rfl rfl (y_move (.tmp 22) rfl (by simp [e22])) ?_
 refine l_value 113 (.slice Ax nx cx) rfl rfl (y_move (.tmp 20) rfl (by simp [vp,e20])) ?_
 refine l_value 114 (.int .i64 (nx:Int)) rfl rfl (y_len (A:=Ax) (n:=nx) (c:=cx) 33 (by simp) (.tmp 113) rfl (by simp [vp,zp,hsz])) ?_
 refine l_value 115 (.bool (decide ((i:Int)<(nx:Int)))) rfl rfl (y_lss (.tmp 112) (.tmp 114) rfl (by simp [vp,hsz]) (by simp [vp,zp,hsz])) ?_
 refine l_nil ?_
 exact h
noncomputable def r4_11:Code:=((Tryz.f4.body.bind (regIn 11)).getD .skip)
theorem reg4_11 {Q:Exit→Act→World→Prop}{a:Act}{w:World}{tu:Int}{Ag:Option Addr}{ng cg:Nat}{i:Nat}(e3:a.eval (.tmp 3)=.int .i64 tu)(e13:a.eval (.tmp 13)=.slice Ag ng cg)(e18:a.eval (.tmp 18)=.int .i64 (i:Int)){p:Int}(hp:0≤p∧p<(ng:Int))(hi:i<ng)(hn:ng≤1000)(hcall:Calls Tryz.prog 9 #[.int .i64 tu,.int .i64 (ng:Int)] w fun e w'=>e=.returned (.int .i64 p)∧w=w')(hsz:a.tmps.size=150)
  (h:Q .normal ((((((((((((((a.put (some 62) (.int .i64 tu)).put (some 63) (.slice Ag ng cg)).put (some 64) (.int .i64 (ng:Int))).put (some 65) (.int .i64 p)).put (some 66) (.slice Ag ng cg)).put (some 67) (.int .i64 (ng:Int))).put (some 68) (.int .i64 (p+(ng:Int)))).put (some 69) (.int .i64 ((p+(ng:Int)) - 1))).put (some 70) (.int .i64 (i:Int))).put (some 71) (.int .i64 (((p+(ng:Int)) - 1) - (i:Int)))).put (some 72) (.slice Ag ng cg)).put (some 73) (.int .i64 (ng:Int))).put (some 74) (.int .i64 ((((p+(ng:Int)) - 1) - (i:Int)) % (ng:Int)))).put (some 19) (.int .i64 ((((p+(ng:Int)) - 1) - (i:Int)) % (ng:Int)))) w):Code.wp Tryz.prog r4_11 Q a w:=by
 conv=>arg 2;whnf
 refine wp_region_W ?_
 refine l_value 62 (.int .i64 tu) rfl rfl (y_move (.tmp 3) rfl (by simp [e3])) ?_
 refine l_value 63 (.slice Ag ng cg) rfl rfl (y_move (.tmp 13) rfl (by simp [vp,e13])) ?_
 refine l_value 64 (.int .i64 (ng:Int)) rfl rfl (y_len (A:=Ag) (n:=ng) (c:=cg) 36 (by simp) (.tmp 63) rfl (by simp [vp,zp,hsz])) ?_
 refine l_call 65 rfl rfl 9 #[(.tmp 62),(.tmp 64)] #[3,3] rfl _ Tryz.func9 (by rfl) (by rfl) #[.int .i64 tu,.int .i64 (ng:Int)] (by simp [vp,zp,hsz]) ?_
 refine (hcall).mono ?_
 rintro e w' ⟨rfl,rfl⟩
 refine ⟨_,rfl,?_⟩
 refine l_value 66 (.slice Ag ng cg) rfl rfl (y_move (.tmp 13) rfl (by simp [vp,e13])) ?_
 refine l_value 67 (.int .i64 (ng:Int)) rfl rfl (y_len (A:=Ag) (n:=ng) (c:=cg) 36 (by simp) (.tmp 66) rfl (by simp [vp,zp,hsz])) ?_
 refine l_value 68 (.int .i64 (p+(ng:Int))) rfl rfl (y_add (.tmp 65) (.tmp 67) rfl (by simp [vp,zp,hsz]) (by simp [vp,zp,hsz]) (by unfold I64;omega)) ?_
 refine l_value 69 (.int .i64 ((p+(ng:Int)) - 1)) rfl rfl (y_sub (.tmp 68) (.const (.int .i64 1)) rfl (by simp [vp,zp,hsz]) rfl (by unfold I64;omega)) ?_
 refine l_value 70 (.int .i64 (i:Int)) rfl rfl (y_move (.tmp 18) rfl (by simp [vp,e18])) ?_
 refine l_value 71 (.int .i64 (((p+(ng:Int)) - 1) - (i:Int))) rfl rfl (y_sub (.tmp 69) (.tmp 70) rfl (by simp [vp,zp,hsz]) (by simp [vp,zp,hsz]) (by unfold I64;omega)) ?_
 refine l_value 72 (.slice Ag ng cg) rfl rfl (y_move (.tmp 13) rfl (by simp [vp,e13])) ?_
 refine l_value 73 (.int .i64 (ng:Int)) rfl rfl (y_len (A:=Ag) (n:=ng) (c:=cg) 36 (by simp) (.tmp 72) rfl (by simp [vp,zp,hsz])) ?_
 refine l_value 74 (.int .i64 ((((p+(ng:Int)) - 1) - (i:Int)) % (ng:Int))) rfl rfl (y_rem (.tmp 71) (.tmp 73) rfl (by simp [vp,zp,hsz]) (by simp [vp,zp,hsz]) (by omega) (by omega)) ?_
 refine l_value 19 (.int .i64 ((((p+(ng:Int)) - 1) - (i:Int)) % (ng:Int))) rfl rfl (y_assign (.tmp 74) rfl (by simp [vp,zp,hsz])) ?_
 refine l_nil ?_
 exact h
noncomputable def r4_12:Code:=((Tryz.f4.body.bind (regIn 12)).getD .skip)
theorem reg4_12 {Q:Exit→Act→World→Prop}{a:Act}{w:World}{fr:Bool}{bg og ng cg:Nat}{g1:CA}{i:Nat}(e4:a.eval (.tmp 4)=.bool fr)(e13:a.eval (.tmp 13)=.slice (some ⟨bg,og,none⟩) ng cg)(e14:a.eval (.tmp 14)=.pointer (some ⟨g1.c,0,none⟩))(e18:a.eval (.tmp 18)=.int .i64 (i:Int)){Ap:Option Addr}{np cp:Nat}{R:World→Prop}{rb:Bool}{re:Int}(hi:i<ng)(hc:w.cell? ⟨bg,og+i*5,none⟩=some (.slice Ap np cp))(hcall:Calls Tryz.prog 12 #[.pointer (some ⟨g1.c,0,none⟩),.slice Ap np cp,ragg 0 0 0,.bool fr] w fun e w'=>e=.returned (.tuple #[.bool rb,.int .i64 re])∧R w')(hsz:a.tmps.size=150)
  (h:∀ w',R w'→Q .normal (((((((((a.put (some 75) (.pointer (some ⟨g1.c,0,none⟩))).put (some 76) (.slice (some ⟨bg,og,none⟩) ng cg)).put (some 77) (.int .i64 (i:Int))).put (some 78) (.pointer (some ⟨bg,og+i*5,none⟩))).put (some 79) (.pointer (some ⟨bg,og+i*5,none⟩))).put (some 80) (.slice Ap np cp)).put (some 81) (ragg 0 0 0)).put (some 82) (.bool fr)).put (some 83) (.tuple #[.bool rb,.int .i64 re])) w'):Code.wp Tryz.prog r4_12 Q a w:=by
 conv=>arg 2;whnf
 refine wp_region_W ?_
 refine l_value 75 (.pointer (some ⟨g1.c,0,none⟩)) rfl rfl (y_move (.tmp 14) rfl (by simp [e14])) ?_
 refine l_value 76 (.slice (some ⟨bg,og,none⟩) ng cg) rfl rfl (y_move (.tmp 13) rfl (by simp [vp,e13])) ?_
 refine l_value 77 (.int .i64 (i:Int)) rfl rfl (y_move (.tmp 18) rfl (by simp [vp,e18])) ?_
 refine l_value 78 (.pointer (some ⟨bg,og+i*5,none⟩)) rfl rfl (y_index36 (n:=ng) (c:=cg) (k:=i) (.tmp 76) (.tmp 77) rfl (by simp [vp,zp,hsz]) (by simp [vp,zp,hsz]) (by omega)) ?_
 refine l_value 79 (.pointer (some ⟨bg,og+i*5,none⟩)) rfl rfl (y_f43_0 (.tmp 78) rfl (by simp [vp,zp,hsz])) ?_
 refine l_value 80 (.slice Ap np cp) rfl rfl (y_load22 (.tmp 79) rfl (by simp [vp,zp,hsz]) hc) ?_
 refine l_value 81 (ragg 0 0 0) rfl rfl (y_build46 rfl) ?_
 refine l_value 82 (.bool fr) rfl rfl (y_move (.tmp 4) rfl (by simp [vp,e4])) ?_
 refine l_call 83 rfl rfl 12 #[(.tmp 75),(.tmp 80),(.tmp 81),(.tmp 82)] #[28,22,46,4] rfl _ Tryz.func12 (by rfl) (by rfl) #[.pointer (some ⟨g1.c,0,none⟩),.slice Ap np cp,ragg 0 0 0,.bool fr] (by simp [vp,zp,hsz]) ?_
 refine (hcall).mono ?_
 rintro e w' ⟨rfl,hR⟩
 refine ⟨_,rfl,?_⟩
 refine l_nil ?_
 exact h w' hR
noncomputable def r4_13:Code:=((Tryz.f4.body.bind (regIn 13)).getD .skip)
theorem reg4_13 {Q:Exit→Act→World→Prop}{a:Act}{w:World}{fr:Bool}{bg og ng cg:Nat}{g2:CA}{j:Nat}(e4:a.eval (.tmp 4)=.bool fr)(e13:a.eval (.tmp 13)=.slice (some ⟨bg,og,none⟩) ng cg)(e16:a.eval (.tmp 16)=.pointer (some ⟨g2.c,0,none⟩))(e19:a.eval (.tmp 19)=.int .i64 (j:Int)){Ap:Option Addr}{np cp:Nat}{R:World→Prop}{rb:Bool}{re:Int}(hi:j<ng)(hc:w.cell? ⟨bg,og+j*5,none⟩=some (.slice Ap np cp))(hcall:Calls Tryz.prog 12 #[.pointer (some ⟨g2.c,0,none⟩),.slice Ap np cp,ragg 0 0 0,.bool fr] w fun e w'=>e=.returned (.tuple #[.bool rb,.int .i64 re])∧R w')(hsz:a.tmps.size=150)
  (h:∀ w',R w'→Q .normal (((((((((a.put (some 84) (.pointer (some ⟨g2.c,0,none⟩))).put (some 85) (.slice (some ⟨bg,og,none⟩) ng cg)).put (some 86) (.int .i64 (j:Int))).put (some 87) (.pointer (some ⟨bg,og+j*5,none⟩))).put (some 88) (.pointer (some ⟨bg,og+j*5,none⟩))).put (some 89) (.slice Ap np cp)).put (some 90) (ragg 0 0 0)).put (some 91) (.bool fr)).put (some 92) (.tuple #[.bool rb,.int .i64 re])) w'):Code.wp Tryz.prog r4_13 Q a w:=by
 conv=>arg 2;whnf
 refine wp_region_W ?_
 refine l_value 84 (.pointer (some ⟨g2.c,0,none⟩)) rfl rfl (y_move (.tmp 16) rfl (by simp [e16])) ?_
 refine l_value 85 (.slice (some ⟨bg,og,none⟩) ng cg) rfl rfl (y_move (.tmp 13) rfl (by simp [vp,e13])) ?_
 refine l_value 86 (.int .i64 (j:Int)) rfl rfl (y_move (.tmp 19) rfl (by simp [vp,e19])) ?_
 refine l_value 87 (.pointer (some ⟨bg,og+j*5,none⟩)) rfl rfl (y_index36 (n:=ng) (c:=cg) (k:=j) (.tmp 85) (.tmp 86) rfl (by simp [vp,zp,hsz]) (by simp [vp,zp,hsz]) (by omega)) ?_
 refine l_value 88 (.pointer (some ⟨bg,og+j*5,none⟩)) rfl rfl (y_f43_0 (.tmp 87) rfl (by simp [vp,zp,hsz])) ?_
 refine l_value 89 (.slice Ap np cp) rfl rfl (y_load22 (.tmp 88) rfl (by simp [vp,zp,hsz]) hc) ?_
 refine l_value 90 (ragg 0 0 0) rfl rfl (y_build46 rfl) ?_
 refine l_value 91 (.bool fr) rfl rfl (y_move (.tmp 4) rfl (by simp [vp,e4])) ?_
 refine l_call 92 rfl rfl 12 #[(.tmp 84),(.tmp 89),(.tmp 90),(.tmp 91)] #[28,22,46,4] rfl _ Tryz.func12 (by rfl) (by rfl) #[.pointer (some ⟨g2.c,0,none⟩),.slice Ap np cp,ragg 0 0 0,.bool fr] (by simp [vp,zp,hsz]) ?_
 refine (hcall).mono ?_
 rintro e w' ⟨rfl,hR⟩
 refine ⟨_,rfl,?_⟩
 refine l_nil ?_
 exact h w' hR
noncomputable def r4_14:Code:=((Tryz.f4.body.bind (regIn 14)).getD .skip)
theorem reg4_14 {Q:Exit→Act→World→Prop}{a:Act}{w:World}{b:Int}{g1:CA}{g2:CA}(e12:a.eval (.tmp 12)=.int .i64 b)(e14:a.eval (.tmp 14)=.pointer (some ⟨g1.c,0,none⟩))(e16:a.eval (.tmp 16)=.pointer (some ⟨g2.c,0,none⟩)){s1 s2:Int}(hd1:decide (b<s1)=false)(hd2:decide (b<s2)=false)(hc1:Calls Tryz.prog 15 #[.pointer (some ⟨g1.c,0,none⟩)] w (RetE (.int .i64 s1) w))(hc2:∀ w1,Ext w w1→Calls Tryz.prog 15 #[.pointer (some ⟨g2.c,0,none⟩)] w1 (RetE (.int .i64 s2) w1))(hsz:a.tmps.size=150)
  (h:∀ w2,Ext w w2→Q .normal ((((((((((a.put (some 93) (.pointer (some ⟨g1.c,0,none⟩))).put (some 94) (.int .i64 s1)).put (some 95) (.int .i64 b)).put (some 96) (.bool false)).put (some 97) (.bool false)).put (some 98) (.pointer (some ⟨g2.c,0,none⟩))).put (some 99) (.int .i64 s2)).put (some 100) (.int .i64 b)).put (some 101) (.bool false)).put (some 102) (.bool false)) w2):Code.wp Tryz.prog r4_14 Q a w:=by
 conv=>arg 2;whnf
 refine wp_region_W ?_
 refine l_value 93 (.pointer (some ⟨g1.c,0,none⟩)) rfl rfl (y_move (.tmp 14) rfl (by simp [e14])) ?_
 refine l_call 94 rfl rfl 15 #[(.tmp 93)] #[28] rfl _ Tryz.func15 (by rfl) (by rfl) #[.pointer (some ⟨g1.c,0,none⟩)] (by simp [vp,hsz]) ?_
 refine (hc1).mono ?_
 rintro e w' ⟨rfl,x1⟩
 refine ⟨_,rfl,?_⟩
 refine l_value 95 (.int .i64 b) rfl rfl (y_move (.tmp 12) rfl (by simp [vp,e12])) ?_
 refine l_value 96 (.bool false) rfl rfl (y_gtrb (a:=s1) (b:=b) hd1 (.tmp 94) (.tmp 95) rfl (by simp [vp,zp,hsz]) (by simp [vp,zp,hsz])) ?_
 refine l_value 97 (.bool false) rfl rfl (y_move (.tmp 96) rfl (by simp [vp,zp,hsz])) ?_
 refine l_onG 98 (.pointer (some ⟨g2.c,0,none⟩)) 97 (j:=4) (want:=false) (b:=false) rfl rfl (by simp [zp,hsz]) (by simp [vp,zp,hsz]) rfl rfl (y_move (.tmp 16) rfl (by simp [vp,e16])) ?_
 refine l_callG 99 97 (j:=4) (want:=false) (b:=false) rfl rfl (by simp [zp,hsz]) (by simp [vp,zp,hsz]) rfl rfl 15 #[(.tmp 98)] #[28] rfl _ Tryz.func15 (by rfl) (by rfl) #[.pointer (some ⟨g2.c,0,none⟩)] (by simp [vp,zp,hsz]) ?_
 refine (hc2 w' x1).mono ?_
 rintro e w2 ⟨rfl,x2⟩
 refine ⟨_,rfl,?_⟩
 refine l_onG 100 (.int .i64 b) 97 (j:=4) (want:=false) (b:=false) rfl rfl (by simp [zp,hsz]) (by simp [vp,zp,hsz]) rfl rfl (y_move (.tmp 12) rfl (by simp [vp,e12])) ?_
 refine l_onG 101 (.bool false) 97 (j:=4) (want:=false) (b:=false) rfl rfl (by simp [zp,hsz]) (by simp [vp,zp,hsz]) rfl rfl (y_gtrb (a:=s2) (b:=b) hd2 (.tmp 99) (.tmp 100) rfl (by simp [vp,zp,hsz]) (by simp [vp,zp,hsz])) ?_
 refine l_value 102 (.bool false) rfl rfl (y_pickf (.tmp 97) (.const (.bool true)) (.tmp 101) rfl (by simp [vp,zp,hsz]) (by simp [vp,zp,hsz])) ?_
 refine l_nil ?_
 exact h w2 (x1.trans' x2)
noncomputable def r4_10:Code:=((Tryz.f4.body.bind (regIn 10)).getD .skip)
theorem reg4_10 {Q:Exit→Act→World→Prop}{a:Act}{w:World}{i:Nat}(e18:a.eval (.tmp 18)=.int .i64 (i:Int))(hi:i≤1000)(hsz:a.tmps.size=150)
  (h:Q .normal (((a.put (some 60) (.int .i64 (i:Int))).put (some 61) (.int .i64 ((i:Int)+1))).put (some 18) (.int .i64 ((i:Int)+1))) w):Code.wp Tryz.prog r4_10 Q a w:=by
 conv=>arg 2;whnf
 refine wp_region_W ?_
 refine l_value 60 (.int .i64 (i:Int)) rfl rfl (y_move (.tmp 18) rfl (by simp [e18])) ?_
 refine l_value 61 (.int .i64 ((i:Int)+1)) rfl rfl (y_add (.tmp 60) (.const (.int .i64 1)) rfl (by simp [vp,hsz]) rfl (by unfold I64;omega)) ?_
 refine l_value 18 (.int .i64 ((i:Int)+1)) rfl rfl (y_assign (.tmp 61) rfl (by simp [vp,zp,hsz])) ?_
 refine l_nil ?_
 exact h
noncomputable def r4_22:Code:=((Tryz.f4.body.bind (regIn 22)).getD .skip)
theorem reg4_22 {Q:Exit→Act→World→Prop}{a:Act}{w:World}{i:Nat}(e22:a.eval (.tmp 22)=.int .i64 (i:Int))(hi:i≤1000000)(hsz:a.tmps.size=150)
  (h:Q .normal (((a.put (some 116) (.int .i64 (i:Int))).put (some 117) (.int .i64 ((i:Int)+1))).put (some 22) (.int .i64 ((i:Int)+1))) w):Code.wp Tryz.prog r4_22 Q a w:=by
 conv=>arg 2;whnf
 refine wp_region_W ?_
 refine l_value 116 (.int .i64 (i:Int)) rfl rfl (y_move (.tmp 22) rfl (by simp [e22])) ?_
 refine l_value 117 (.int .i64 ((i:Int)+1)) rfl rfl (y_add (.tmp 116) (.const (.int .i64 1)) rfl (by simp [vp,hsz]) rfl (by unfold I64;omega)) ?_
 refine l_value 22 (.int .i64 ((i:Int)+1)) rfl rfl (y_assign (.tmp 117) rfl (by simp [vp,zp,hsz])) ?_
 refine l_nil ?_
 exact h
noncomputable def r4_16:Code:=((Tryz.f4.body.bind (regIn 16)).getD .skip)
theorem reg4_16 {Q:Exit→Act→World→Prop}{a:Act}{w:World}{g1:CA}(e14:a.eval (.tmp 14)=.pointer (some ⟨g1.c,0,none⟩)){L:List GE}(hcall:Calls Tryz.prog 18 #[.pointer (some ⟨g1.c,0,none⟩)] w (RetCEs L w))(hsz:a.tmps.size=150)
  (h:∀ A c w',Ens w' (fun b=>w.heap.size≤b) (.slice A L.length c) L→Ext w w'→Q .normal (((a.put (some 103) (.pointer (some ⟨g1.c,0,none⟩))).put (some 104) (.slice A L.length c)).put (some 20) (.slice A L.length c)) w'):Code.wp Tryz.prog r4_16 Q a w:=by
 conv=>arg 2;whnf
 refine wp_region_W ?_
 refine l_value 103 (.pointer (some ⟨g1.c,0,none⟩)) rfl rfl (y_move (.tmp 14) rfl (by simp [e14])) ?_
 refine l_call 104 rfl rfl 18 #[(.tmp 103)] #[28] rfl _ Tryz.func18 (by rfl) (by rfl) #[.pointer (some ⟨g1.c,0,none⟩)] (by simp [vp,hsz]) ?_
 refine (hcall).mono ?_
 rintro e w' ⟨A,c,rfl,hE,hx⟩
 refine ⟨_,rfl,?_⟩
 refine l_value 20 (.slice A L.length c) rfl rfl (y_assign (.tmp 104) rfl (by simp [vp,zp,hsz])) ?_
 refine l_nil ?_
 exact h A c w' hE hx
noncomputable def r4_17:Code:=((Tryz.f4.body.bind (regIn 17)).getD .skip)
theorem reg4_17 {Q:Exit→Act→World→Prop}{a:Act}{w:World}{g2:CA}(e16:a.eval (.tmp 16)=.pointer (some ⟨g2.c,0,none⟩)){L:List GE}(hcall:Calls Tryz.prog 18 #[.pointer (some ⟨g2.c,0,none⟩)] w (RetCEs L w))(hsz:a.tmps.size=150)
  (h:∀ A c w',Ens w' (fun b=>w.heap.size≤b) (.slice A L.length c) L→Ext w w'→Q .normal (((a.put (some 105) (.pointer (some ⟨g2.c,0,none⟩))).put (some 106) (.slice A L.length c)).put (some 21) (.slice A L.length c)) w'):Code.wp Tryz.prog r4_17 Q a w:=by
 conv=>arg 2;whnf
 refine wp_region_W ?_
 refine l_value 105 (.pointer (some ⟨g2.c,0,none⟩)) rfl rfl (y_move (.tmp 16) rfl (by simp [e16])) ?_
 refine l_call 106 rfl rfl 18 #[(.tmp 105)] #[28] rfl _ Tryz.func18 (by rfl) (by rfl) #[.pointer (some ⟨g2.c,0,none⟩)] (by simp [vp,hsz]) ?_
 refine (hcall).mono ?_
 rintro e w' ⟨A,c,rfl,hE,hx⟩
 refine ⟨_,rfl,?_⟩
 refine l_value 21 (.slice A L.length c) rfl rfl (y_assign (.tmp 106) rfl (by simp [vp,zp,hsz])) ?_
 refine l_nil ?_
 exact h A c w' hE hx
noncomputable def r4_18:Code:=((Tryz.f4.body.bind (regIn 18)).getD .skip)
theorem reg4_18 {Q:Exit→Act→World→Prop}{a:Act}{w:World}{Ax:Option Addr}{nx cx:Nat}{Ay:Option Addr}{ny cy:Nat}(e20:a.eval (.tmp 20)=.slice Ax nx cx)(e21:a.eval (.tmp 21)=.slice Ay ny cy)(hd:((nx:Int) != (ny:Int))=false)(hsz:a.tmps.size=150)
  (h:Q .normal (((((a.put (some 107) (.slice Ax nx cx)).put (some 108) (.int .i64 (nx:Int))).put (some 109) (.slice Ay ny cy)).put (some 110) (.int .i64 (ny:Int))).put (some 111) (.bool false)) w):Code.wp Tryz.prog r4_18 Q a w:=by
 conv=>arg 2;whnf
 refine wp_region_W ?_
 refine l_value 107 (.slice Ax nx cx) rfl rfl (y_move (.tmp 20) rfl (by simp [e20])) ?_
 refine l_value 108 (.int .i64 (nx:Int)) rfl rfl (y_len (A:=Ax) (n:=nx) (c:=cx) 33 (by simp) (.tmp 107) rfl (by simp [vp,hsz])) ?_
 refine l_value 109 (.slice Ay ny cy) rfl rfl (y_move (.tmp 21) rfl (by simp [vp,e21])) ?_
 refine l_value 110 (.int .i64 (ny:Int)) rfl rfl (y_len (A:=Ay) (n:=ny) (c:=cy) 33 (by simp) (.tmp 109) rfl (by simp [vp,zp,hsz])) ?_
 refine l_value 111 (.bool false) rfl rfl (y_neqb (a:=(nx:Int)) (b:=(ny:Int)) hd 3 (by simp) (.tmp 108) (.tmp 110) rfl (by simp [vp,zp,hsz]) (by simp [vp,zp,hsz])) ?_
 refine l_nil ?_
 exact h
noncomputable def r4_25:Code:=((Tryz.f4.body.bind (regIn 25)).getD .skip)
theorem reg4_25 {Q:Exit→Act→World→Prop}{a:Act}{w:World}   (hcall:Calls Tryz.prog 23 #[] w (RetE (.bool true) w))(hsz:a.tmps.size=150)
  (h:∀ w',Ext w w'→Q .normal ((a.put (some 149) (.bool true)).put (some 10) (.bool true)) w'):Code.wp Tryz.prog r4_25 Q a w:=by
 conv=>arg 2;whnf
 refine wp_region_W ?_
 refine l_call 149 rfl rfl 23 #[] #[] rfl _ Tryz.func23 (by rfl) (by rfl) #[] (by simp) ?_
 refine (hcall).mono ?_
 rintro e w' ⟨rfl,hx⟩
 refine ⟨_,rfl,?_⟩
 refine l_value 10 (.bool true) rfl rfl (y_assign (.tmp 149) rfl (by simp [vp,hsz])) ?_
 refine l_nil ?_
 exact h w' hx
noncomputable def r4_23:Code:=((Tryz.f4.body.bind (regIn 23)).getD .skip)
theorem reg4_23z {Q:Exit→Act→World→Prop}{a:Act}{w:World}{bx ox nx cx:Nat}{by_ oy ny cy:Nat}{i:Nat}(e20:a.eval (.tmp 20)=.slice (some ⟨bx,ox,none⟩) nx cx)(e21:a.eval (.tmp 21)=.slice (some ⟨by_,oy,none⟩) ny cy)(e22:a.eval (.tmp 22)=.int .i64 (i:Int)){A1 A2:Option Addr}{n1 c1 n2 c2:Nat}(hi:i<nx)(hi2:i<ny)(h1:w.cell? ⟨bx,ox+i*6,none⟩=some (.slice A1 n1 c1))(h2:w.cell? ⟨by_,oy+i*6,none⟩=some (.slice A2 n2 c2))(hsame:∀ w1,Ext w w1→Calls Tryz.prog 24 #[.slice A1 n1 c1,.slice A2 n2 c2] w1 fun e w'=>e=.returned (.bool true)∧Ext w w')(h0:decide ((0:Int)<(i:Int))=false)(hsz:a.tmps.size=150)
  (h:∀ w',Ext w w'→Q .normal (((((((((((((((((((((((((((((((a.put (some 118) (.slice (some ⟨bx,ox,none⟩) nx cx)).put (some 119) (.int .i64 (i:Int))).put (some 120) (.pointer (some ⟨bx,ox+i*6,none⟩))).put (some 121) (.pointer (some ⟨bx,ox+i*6,none⟩))).put (some 122) (.slice A1 n1 c1)).put (some 123) (.slice (some ⟨by_,oy,none⟩) ny cy)).put (some 124) (.int .i64 (i:Int))).put (some 125) (.pointer (some ⟨by_,oy+i*6,none⟩))).put (some 126) (.pointer (some ⟨by_,oy+i*6,none⟩))).put (some 127) (.slice A2 n2 c2)).put (some 128) (.bool true)).put (some 129) (.bool false)).put (some 130) (.bool false)).put (some 131) (.int .i64 (i:Int))).put (some 132) (.bool false)).put (some 133) (.bool false)).put (some 134) (undef)).put (some 135) (undef)).put (some 136) (undef)).put (some 137) (undef)).put (some 138) (undef)).put (some 139) (undef)).put (some 140) (undef)).put (some 141) (undef)).put (some 142) (undef)).put (some 143) (undef)).put (some 144) (undef)).put (some 145) (undef)).put (some 146) (undef)).put (some 147) ((.bool false))).put (some 148) ((.bool false))) w'):Code.wp Tryz.prog r4_23 Q a w:=by
 conv=>arg 2;whnf
 refine wp_region_Q (fun w'=>Ext w w') (by kernel_rfl) (by kernel_rfl) (Ext.refl w).drew' ?_
 refine q_value 118 (.slice (some ⟨bx,ox,none⟩) nx cx) rfl rfl (fun w hw=>(y_move (.tmp 20) rfl (by simp [e20]))) ?_
 refine q_value 119 (.int .i64 (i:Int)) rfl rfl (fun w hw=>(y_move (.tmp 22) rfl (by simp [vp,e22]))) ?_
 refine q_value 120 (.pointer (some ⟨bx,ox+i*6,none⟩)) rfl rfl (fun w hw=>(y_index33 (n:=nx) (c:=cx) (k:=i) (.tmp 118) (.tmp 119) rfl (by simp [vp,hsz]) (by simp [vp,zp,hsz]) (by omega))) ?_
 refine q_value 121 (.pointer (some ⟨bx,ox+i*6,none⟩)) rfl rfl (fun w hw=>(y_f60_0 (.tmp 120) rfl (by simp [vp,zp,hsz]))) ?_
 refine q_value 122 (.slice A1 n1 c1) rfl rfl (fun w hw=>(y_load22 (.tmp 121) rfl (by simp [vp,zp,hsz]) (cell_ext hw h1))) ?_
 refine q_value 123 (.slice (some ⟨by_,oy,none⟩) ny cy) rfl rfl (fun w hw=>(y_move (.tmp 21) rfl (by simp [vp,e21]))) ?_
 refine q_value 124 (.int .i64 (i:Int)) rfl rfl (fun w hw=>(y_move (.tmp 22) rfl (by simp [vp,e22]))) ?_
 refine q_value 125 (.pointer (some ⟨by_,oy+i*6,none⟩)) rfl rfl (fun w hw=>(y_index33 (n:=ny) (c:=cy) (k:=i) (.tmp 123) (.tmp 124) rfl (by simp [vp,zp,hsz]) (by simp [vp,zp,hsz]) (by omega))) ?_
 refine q_value 126 (.pointer (some ⟨by_,oy+i*6,none⟩)) rfl rfl (fun w hw=>(y_f60_0 (.tmp 125) rfl (by simp [vp,zp,hsz]))) ?_
 refine q_value 127 (.slice A2 n2 c2) rfl rfl (fun w hw=>(y_load22 (.tmp 126) rfl (by simp [vp,zp,hsz]) (cell_ext hw h2))) ?_
 refine q_call 128 (.bool true) rfl rfl 24 #[(.tmp 122),(.tmp 127)] #[22,22] rfl _ Tryz.func24 (by rfl) (by rfl) #[.slice A1 n1 c1,.slice A2 n2 c2] (by simp [vp,zp,hsz]) (hsame) ?_
 refine q_value 129 (.bool false) rfl rfl (fun w hw=>(y_notb (b:=true) rfl (.tmp 128) rfl (by simp [vp,zp,hsz]))) ?_
 refine q_value 130 (.bool false) rfl rfl (fun w hw=>(y_move (.tmp 129) rfl (by simp [vp,zp,hsz]))) ?_
 refine q_onG 131 (.int .i64 (i:Int)) 130 (j:=12) (want:=false) (b:=false) rfl rfl (by simp [zp,hsz]) (by simp [vp,zp,hsz]) rfl rfl (fun w hw=>(y_move (.tmp 22) rfl (by simp [vp,e22]))) ?_
 refine q_onG 132 (.bool false) 130 (j:=12) (want:=false) (b:=false) rfl rfl (by simp [zp,hsz]) (by simp [vp,zp,hsz]) rfl rfl (fun w hw=>(y_gtrb (a:=(i:Int)) (b:=0) h0 (.tmp 131) (.const (.int .i64 0)) rfl (by simp [vp,zp,hsz]) rfl)) ?_
 refine q_onG 133 (.bool false) 130 (j:=12) (want:=false) (b:=false) rfl rfl (by simp [zp,hsz]) (by simp [vp,zp,hsz]) rfl rfl (fun w hw=>(y_move (.tmp 132) rfl (by simp [vp,zp,hsz]))) ?_
 refine q_off 134 133 (j:=15) (want:=true) (b:=false) rfl rfl (by simp [zp,hsz]) (by simp [vp,zp,hsz]) rfl rfl ?_
 refine q_off 135 133 (j:=15) (want:=true) (b:=false) rfl rfl (by simp [zp,hsz]) (by simp [vp,zp,hsz]) rfl rfl ?_
 refine q_off 136 133 (j:=15) (want:=true) (b:=false) rfl rfl (by simp [zp,hsz]) (by simp [vp,zp,hsz]) rfl rfl ?_
 refine q_off 137 133 (j:=15) (want:=true) (b:=false) rfl rfl (by simp [zp,hsz]) (by simp [vp,zp,hsz]) rfl rfl ?_
 refine q_off 138 133 (j:=15) (want:=true) (b:=false) rfl rfl (by simp [zp,hsz]) (by simp [vp,zp,hsz]) rfl rfl ?_
 refine q_off 139 133 (j:=15) (want:=true) (b:=false) rfl rfl (by simp [zp,hsz]) (by simp [vp,zp,hsz]) rfl rfl ?_
 refine q_off 140 133 (j:=15) (want:=true) (b:=false) rfl rfl (by simp [zp,hsz]) (by simp [vp,zp,hsz]) rfl rfl ?_
 refine q_off 141 133 (j:=15) (want:=true) (b:=false) rfl rfl (by simp [zp,hsz]) (by simp [vp,zp,hsz]) rfl rfl ?_
 refine q_off 142 133 (j:=15) (want:=true) (b:=false) rfl rfl (by simp [zp,hsz]) (by simp [vp,zp,hsz]) rfl rfl ?_
 refine q_off 143 133 (j:=15) (want:=true) (b:=false) rfl rfl (by simp [zp,hsz]) (by simp [vp,zp,hsz]) rfl rfl ?_
 refine q_off 144 133 (j:=15) (want:=true) (b:=false) rfl rfl (by simp [zp,hsz]) (by simp [vp,zp,hsz]) rfl rfl ?_
 refine q_off 145 133 (j:=15) (want:=true) (b:=false) rfl rfl (by simp [zp,hsz]) (by simp [vp,zp,hsz]) rfl rfl ?_
 refine q_off 146 133 (j:=15) (want:=true) (b:=false) rfl rfl (by simp [zp,hsz]) (by simp [vp,zp,hsz]) rfl rfl ?_
 refine q_onG 147 ((.bool false)) 130 (j:=12) (want:=false) (b:=false) rfl rfl (by simp [zp,hsz]) (by simp [vp,zp,hsz]) rfl rfl (fun w hw=>(y_pickf (.tmp 133) (.tmp 146) (.const (.bool false)) rfl (by simp [vp,zp,hsz]) rfl)) ?_
 refine q_value 148 ((.bool false)) rfl rfl (fun w hw=>(y_pickf (.tmp 130) (.const (.bool true)) (.tmp 147) rfl (by simp [vp,zp,hsz]) (by simp [vp,zp,hsz]))) ?_
 refine q_nil ?_
 exact h
theorem reg4_23s {Q:Exit→Act→World→Prop}{a:Act}{w:World}{bx ox nx cx:Nat}{by_ oy ny cy:Nat}{i:Nat}(e20:a.eval (.tmp 20)=.slice (some ⟨bx,ox,none⟩) nx cx)(e21:a.eval (.tmp 21)=.slice (some ⟨by_,oy,none⟩) ny cy)(e22:a.eval (.tmp 22)=.int .i64 (i:Int)){A1 A2:Option Addr}{n1 c1 n2 c2:Nat}(hi:i<nx)(hi2:i<ny)(h1:w.cell? ⟨bx,ox+i*6,none⟩=some (.slice A1 n1 c1))(h2:w.cell? ⟨by_,oy+i*6,none⟩=some (.slice A2 n2 c2))(hsame:∀ w1,Ext w w1→Calls Tryz.prog 24 #[.slice A1 n1 c1,.slice A2 n2 c2] w1 fun e w'=>e=.returned (.bool true)∧Ext w w'){A0:Option Addr}{n0 c0 i0:Nat}{z:Int}(hi0:i=i0+1)(h0:decide ((0:Int)<(i:Int))=true)(h3:w.cell? ⟨bx,ox+i0*6,none⟩=some (.slice A0 n0 c0))(hlt:decide ((0:Int)≤z)=false)(hcmp:∀ w1,Ext w w1→Calls Tryz.prog 25 #[.slice A0 n0 c0,.slice A1 n1 c1] w1 fun e w'=>e=.returned (.int .i64 z)∧Ext w w')(hi9:i≤1000000)(hsz:a.tmps.size=150)
  (h:∀ w',Ext w w'→Q .normal (((((((((((((((((((((((((((((((a.put (some 118) (.slice (some ⟨bx,ox,none⟩) nx cx)).put (some 119) (.int .i64 (i:Int))).put (some 120) (.pointer (some ⟨bx,ox+i*6,none⟩))).put (some 121) (.pointer (some ⟨bx,ox+i*6,none⟩))).put (some 122) (.slice A1 n1 c1)).put (some 123) (.slice (some ⟨by_,oy,none⟩) ny cy)).put (some 124) (.int .i64 (i:Int))).put (some 125) (.pointer (some ⟨by_,oy+i*6,none⟩))).put (some 126) (.pointer (some ⟨by_,oy+i*6,none⟩))).put (some 127) (.slice A2 n2 c2)).put (some 128) (.bool true)).put (some 129) (.bool false)).put (some 130) (.bool false)).put (some 131) (.int .i64 (i:Int))).put (some 132) (.bool true)).put (some 133) (.bool true)).put (some 134) (.slice (some ⟨bx,ox,none⟩) nx cx)).put (some 135) (.int .i64 (i:Int))).put (some 136) (.int .i64 (i0:Int))).put (some 137) (.pointer (some ⟨bx,ox+i0*6,none⟩))).put (some 138) (.pointer (some ⟨bx,ox+i0*6,none⟩))).put (some 139) (.slice A0 n0 c0)).put (some 140) (.slice (some ⟨bx,ox,none⟩) nx cx)).put (some 141) (.int .i64 (i:Int))).put (some 142) (.pointer (some ⟨bx,ox+i*6,none⟩))).put (some 143) (.pointer (some ⟨bx,ox+i*6,none⟩))).put (some 144) (.slice A1 n1 c1)).put (some 145) (.int .i64 z)).put (some 146) (.bool false)).put (some 147) (.bool false)).put (some 148) (.bool false)) w'):Code.wp Tryz.prog r4_23 Q a w:=by
 conv=>arg 2;whnf
 refine wp_region_Q (fun w'=>Ext w w') (by kernel_rfl) (by kernel_rfl) (Ext.refl w).drew' ?_
 refine q_value 118 (.slice (some ⟨bx,ox,none⟩) nx cx) rfl rfl (fun w hw=>(y_move (.tmp 20) rfl (by simp [e20]))) ?_
 refine q_value 119 (.int .i64 (i:Int)) rfl rfl (fun w hw=>(y_move (.tmp 22) rfl (by simp [vp,e22]))) ?_
 refine q_value 120 (.pointer (some ⟨bx,ox+i*6,none⟩)) rfl rfl (fun w hw=>(y_index33 (n:=nx) (c:=cx) (k:=i) (.tmp 118) (.tmp 119) rfl (by simp [vp,hsz]) (by simp [vp,zp,hsz]) (by omega))) ?_
 refine q_value 121 (.pointer (some ⟨bx,ox+i*6,none⟩)) rfl rfl (fun w hw=>(y_f60_0 (.tmp 120) rfl (by simp [vp,zp,hsz]))) ?_
 refine q_value 122 (.slice A1 n1 c1) rfl rfl (fun w hw=>(y_load22 (.tmp 121) rfl (by simp [vp,zp,hsz]) (cell_ext hw h1))) ?_
 refine q_value 123 (.slice (some ⟨by_,oy,none⟩) ny cy) rfl rfl (fun w hw=>(y_move (.tmp 21) rfl (by simp [vp,e21]))) ?_
 refine q_value 124 (.int .i64 (i:Int)) rfl rfl (fun w hw=>(y_move (.tmp 22) rfl (by simp [vp,e22]))) ?_
 refine q_value 125 (.pointer (some ⟨by_,oy+i*6,none⟩)) rfl rfl (fun w hw=>(y_index33 (n:=ny) (c:=cy) (k:=i) (.tmp 123) (.tmp 124) rfl (by simp [vp,zp,hsz]) (by simp [vp,zp,hsz]) (by omega))) ?_
 refine q_value 126 (.pointer (some ⟨by_,oy+i*6,none⟩)) rfl rfl (fun w hw=>(y_f60_0 (.tmp 125) rfl (by simp [vp,zp,hsz]))) ?_
 refine q_value 127 (.slice A2 n2 c2) rfl rfl (fun w hw=>(y_load22 (.tmp 126) rfl (by simp [vp,zp,hsz]) (cell_ext hw h2))) ?_
 refine q_call 128 (.bool true) rfl rfl 24 #[(.tmp 122),(.tmp 127)] #[22,22] rfl _ Tryz.func24 (by rfl) (by rfl) #[.slice A1 n1 c1,.slice A2 n2 c2] (by simp [vp,zp,hsz]) (hsame) ?_
 refine q_value 129 (.bool false) rfl rfl (fun w hw=>(y_notb (b:=true) rfl (.tmp 128) rfl (by simp [vp,zp,hsz]))) ?_
 refine q_value 130 (.bool false) rfl rfl (fun w hw=>(y_move (.tmp 129) rfl (by simp [vp,zp,hsz]))) ?_
 refine q_onG 131 (.int .i64 (i:Int)) 130 (j:=12) (want:=false) (b:=false) rfl rfl (by simp [zp,hsz]) (by simp [vp,zp,hsz]) rfl rfl (fun w hw=>(y_move (.tmp 22) rfl (by simp [vp,e22]))) ?_
 refine q_onG 132 (.bool true) 130 (j:=12) (want:=false) (b:=false) rfl rfl (by simp [zp,hsz]) (by simp [vp,zp,hsz]) rfl rfl (fun w hw=>(y_gtrb (a:=(i:Int)) (b:=0) h0 (.tmp 131) (.const (.int .i64 0)) rfl (by simp [vp,zp,hsz]) rfl)) ?_
 refine q_onG 133 (.bool true) 130 (j:=12) (want:=false) (b:=false) rfl rfl (by simp [zp,hsz]) (by simp [vp,zp,hsz]) rfl rfl (fun w hw=>(y_move (.tmp 132) rfl (by simp [vp,zp,hsz]))) ?_
 refine q_onG 134 (.slice (some ⟨bx,ox,none⟩) nx cx) 133 (j:=15) (want:=true) (b:=true) rfl rfl (by simp [zp,hsz]) (by simp [vp,zp,hsz]) rfl rfl (fun w hw=>(y_move (.tmp 20) rfl (by simp [vp,e20]))) ?_
 refine q_onG 135 (.int .i64 (i:Int)) 133 (j:=15) (want:=true) (b:=true) rfl rfl (by simp [zp,hsz]) (by simp [vp,zp,hsz]) rfl rfl (fun w hw=>(y_move (.tmp 22) rfl (by simp [vp,e22]))) ?_
 refine q_onG 136 (.int .i64 (i0:Int)) 133 (j:=15) (want:=true) (b:=true) rfl rfl (by simp [zp,hsz]) (by simp [vp,zp,hsz]) rfl rfl (fun w hw=>(y_subn (k:=i0) hi0 (.tmp 135) (.const (.int .i64 1)) rfl (by simp [vp,zp,hsz]) (by simp [vc]))) ?_
 refine q_onG 137 (.pointer (some ⟨bx,ox+i0*6,none⟩)) 133 (j:=15) (want:=true) (b:=true) rfl rfl (by simp [zp,hsz]) (by simp [vp,zp,hsz]) rfl rfl (fun w hw=>(y_index33 (n:=nx) (c:=cx) (k:=i0) (.tmp 134) (.tmp 136) rfl (by simp [vp,zp,hsz]) (by simp [vp,zp,hsz]) (by omega))) ?_
 refine q_onG 138 (.pointer (some ⟨bx,ox+i0*6,none⟩)) 133 (j:=15) (want:=true) (b:=true) rfl rfl (by simp [zp,hsz]) (by simp [vp,zp,hsz]) rfl rfl (fun w hw=>(y_f60_0 (.tmp 137) rfl (by simp [vp,zp,hsz]))) ?_
 refine q_onG 139 (.slice A0 n0 c0) 133 (j:=15) (want:=true) (b:=true) rfl rfl (by simp [zp,hsz]) (by simp [vp,zp,hsz]) rfl rfl (fun w hw=>(y_load22 (.tmp 138) rfl (by simp [vp,zp,hsz]) (cell_ext hw h3))) ?_
 refine q_onG 140 (.slice (some ⟨bx,ox,none⟩) nx cx) 133 (j:=15) (want:=true) (b:=true) rfl rfl (by simp [zp,hsz]) (by simp [vp,zp,hsz]) rfl rfl (fun w hw=>(y_move (.tmp 20) rfl (by simp [vp,e20]))) ?_
 refine q_onG 141 (.int .i64 (i:Int)) 133 (j:=15) (want:=true) (b:=true) rfl rfl (by simp [zp,hsz]) (by simp [vp,zp,hsz]) rfl rfl (fun w hw=>(y_move (.tmp 22) rfl (by simp [vp,e22]))) ?_
 refine q_onG 142 (.pointer (some ⟨bx,ox+i*6,none⟩)) 133 (j:=15) (want:=true) (b:=true) rfl rfl (by simp [zp,hsz]) (by simp [vp,zp,hsz]) rfl rfl (fun w hw=>(y_index33 (n:=nx) (c:=cx) (k:=i) (.tmp 140) (.tmp 141) rfl (by simp [vp,zp,hsz]) (by simp [vp,zp,hsz]) (by omega))) ?_
 refine q_onG 143 (.pointer (some ⟨bx,ox+i*6,none⟩)) 133 (j:=15) (want:=true) (b:=true) rfl rfl (by simp [zp,hsz]) (by simp [vp,zp,hsz]) rfl rfl (fun w hw=>(y_f60_0 (.tmp 142) rfl (by simp [vp,zp,hsz]))) ?_
 refine q_onG 144 (.slice A1 n1 c1) 133 (j:=15) (want:=true) (b:=true) rfl rfl (by simp [zp,hsz]) (by simp [vp,zp,hsz]) rfl rfl (fun w hw=>(y_load22 (.tmp 143) rfl (by simp [vp,zp,hsz]) (cell_ext hw h1))) ?_
 refine q_callG 145 (.int .i64 z) 133 (j:=15) (want:=true) (b:=true) rfl rfl (by simp [zp,hsz]) (by simp [vp,zp,hsz]) rfl rfl 25 #[(.tmp 139),(.tmp 144)] #[22,22] rfl _ Tryz.func25 (by rfl) (by rfl) #[.slice A0 n0 c0,.slice A1 n1 c1] (by simp [vp,zp,hsz]) (hcmp) ?_
 refine q_onG 146 (.bool false) 133 (j:=15) (want:=true) (b:=true) rfl rfl (by simp [zp,hsz]) (by simp [vp,zp,hsz]) rfl rfl (fun w hw=>(y_geqb (a:=z) (b:=0) hlt (.tmp 145) (.const (.int .i64 0)) rfl (by simp [vp,zp,hsz]) rfl)) ?_
 refine q_onG 147 (.bool false) 130 (j:=12) (want:=false) (b:=false) rfl rfl (by simp [zp,hsz]) (by simp [vp,zp,hsz]) rfl rfl (fun w hw=>(y_pickt (.tmp 133) (.tmp 146) (.const (.bool false)) rfl (by simp [vp,zp,hsz]) (by simp [vp,zp,hsz]))) ?_
 refine q_value 148 (.bool false) rfl rfl (fun w hw=>(y_pickf (.tmp 130) (.const (.bool true)) (.tmp 147) rfl (by simp [vp,zp,hsz]) (by simp [vp,zp,hsz]))) ?_
 refine q_nil ?_
 exact h
end Go.Proofs.YtkoeecdjijfjnaaGreat
