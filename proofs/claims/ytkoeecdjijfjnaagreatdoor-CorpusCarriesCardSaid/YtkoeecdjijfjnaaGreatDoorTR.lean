/- Contracts and laws. Conditions: none. -/
import Derived.Test.YtkoeecdjijfjnaaGreatDoorLT
set_option linter.all false
set_option maxRecDepth 100000
set_option maxHeartbeats 8000000
namespace Go.Proofs.YtkoeecdjijfjnaaGreatDoor
open Go.RowKit
noncomputable def R8:=RG Tryz.f4
noncomputable abbrev AK:Code:=.seq (.seq (R8 32) (.cond (.tmp 142) .skip (.exit 5))) (.seq (.block 6 (R8 34)) (R8 33))
noncomputable abbrev Cz:Code:=.seq (.seq (R8 23) (.cond (.tmp 89) .skip (.exit 3))) (.seq (.block 4 (.seq (R8 25) (.seq (R8 26) (.seq (R8 27) (.cond (.tmp 115) (R8 28) .skip))))) (R8 24))
noncomputable abbrev sg:Code:=.block 2 (.seq (R8 14) (.cond (.tmp 51) (R8 15) (.seq (R8 16) (.cond (.tmp 57) (.seq (R8 17) (.seq (R8 18) (.seq (R8 19) (.cond (.tmp 74) (R8 20) .skip)))) (.seq (R8 21) (.cond (.tmp 83) (.seq (R8 22) (.block 3 (.loop Cz))) (.seq (R8 29) (.cond (.tmp 129) (.seq (R8 30) (.seq (R8 31) (.block 5 (.loop AK)))) (R8 13)))))))))
noncomputable abbrev qx:Code:=.seq (R8 35) (.seq (R8 36) (.seq (R8 37) (.seq (R8 38) (.cond (.tmp 169) (R8 39) (R8 40)))))
noncomputable abbrev c10:Code:=.seq (.seq (R8 10) (.cond (.tmp 39) (R8 11) .skip)) (.seq (.seq (R8 12) sg) qx)
noncomputable abbrev Bu:Code:=.seq (.seq (R8 4) (.cond (.tmp 16) .skip (.exit 0))) (.seq (.block 1 (.seq (R8 6) (.seq (R8 7) (.seq (.seq (R8 8) (.cond (.tmp 32) (R8 9) .skip)) c10)))) (R8 5))
noncomputable abbrev ui:Code:=.seq (R8 0) (.seq (R8 1) (.seq (R8 2) (.seq (.seq (R8 3) (.block 0 (.loop Bu))) (.seq (R8 41) .ret))))
theorem Gn:Tryz.f4.body=some ui:=av
structure F8 (a:Act)(vl:Value)(g2 g3 n i:Nat):Prop where
 sz:a.tmps.size=181
 df:a.defers=[]
 e0:qq a 0 vl
 e2:qq a 2 (qp g2)
 e3:qq a 3 (qp g3)
 e4:qq a 4 (n:Int)
 e5:qq a 5 (i:Int)
structure G8 (a:Act)(vl:Value)(g2 g3 n i:Nat)(k:Int)(gx:Nat):Prop extends F8 a vl g2 g3 n i where
 e6:qq a 6 k
 e7:qq a 7 (qp gx)
section
variable {a a':Act}{vl:Value}{g2 g3 n i gx:Nat}{k:Int}{L:List Nat}
theorem F8.ag (h:F8 a vl g2 g3 n i)(g:Ag L a a')(hL:[0,2,3,4,5].all L.contains=true:=by rfl):F8 a' vl g2 g3 n i :=
 have g:=g.mono hL
 ⟨g.sz.trans h.sz,g.df.trans h.df,g.get 0 h.e0,g.get 2 h.e2,g.get 3 h.e3,g.get 4 h.e4,g.get 5 h.e5⟩
theorem G8.ag (h:G8 a vl g2 g3 n i k gx)(g:Ag L a a')(hL:[0,2,3,4,5,6,7].all L.contains=true:=by rfl):G8 a' vl g2 g3 n i k gx :=
 have g:=g.mono hL
 ⟨h.toF8.ag g,g.get 6 h.e6,g.get 7 h.e7⟩
end
theorem Fo (m:Nat)(h:m<4):∃ z:ByteArray,(#[.string ⟨#[97]⟩,.string ⟨#[98]⟩,.string ⟨#[99]⟩,.string ⟨#[100]⟩]:Array Value)[m]?=some ↑z∧z.size<=100:=by
 rcases m with _ | _ | _ | _ | m
 ·exact ⟨⟨#[97]⟩,rfl,dx⟩
 ·exact ⟨⟨#[98]⟩,rfl,dx⟩
 ·exact ⟨⟨#[99]⟩,rfl,dx⟩
 ·exact ⟨⟨#[100]⟩,rfl,dx⟩
 ·omega
theorem Eh (m:Nat)(h:m<3):∃ z:ByteArray,(#[↑qe,.string ⟨#[80,97,105,114]⟩,↑qe]:Array Value)[m]?=some ↑z∧z.size<=100:=by
 rcases m with _ | _ | _ | m
 ·exact ⟨⟨#[]⟩,rfl,dx⟩
 ·exact ⟨⟨#[80,97,105,114]⟩,rfl,dx⟩
 ·exact ⟨⟨#[]⟩,rfl,dx⟩
 ·omega
theorem GX:(Tryz.prog.info? 9).map (fun i=>(i.zero,i.size,i.bytes))=some (some ↑qe,1,16):=av
section
variable {Q:Exit->Act->World->Prop}{a:Act}{w:World}{vl:Value}{g2 g3 n i gx j c7 n7 B:Nat}{k p:Int}{A7:Option Addr}{ks:List Int}{ls:List ByteArray}{R:Int->Prop}{cs:Array Value}
theorem s34 (hG:G8 a vl g2 g3 n i k gx)(ej:qq a 9 (j:Int))(hbx:Blk w gx 60 cs)(hbk:cs[7]?=some (.slice A7 j c7))(hgk:¬ some gx=(Value.slice A7 j c7).ownBlock)(hown:w.ownsRow B 3 1 (.slice A7 j c7) j (ks.map (Value.int .i64)))(hB:B<=w)(hj:j<=1000)
  (hcall:Calls Tryz.prog 21 #[vl,↑i,↑j] w.drew fun e w'=>∃ n:Int,e=.returned (↑n)∧R n∧w.drew=w')
  (h:∀ nk A5 c5 w5,R nk->w5.ownsRow B 3 1 (.slice A5 (j+1) c5) (j+1) (ks.map (Value.int .i64) ++ [.int .i64 nk])->Fr (fun k=>some k=(Value.slice A7 j c7).ownBlock) (w.drew.alloc (qk #[.int .i64 nk] 3)) w5->((Value.slice A5 (j+1) c5).ownBlock=(Value.slice A7 j c7).ownBlock∨(Value.slice A5 (j+1) c5).ownBlock=some (w.drew.alloc (qk #[.int .i64 nk] 3)).heap.size) ->
   ∀ a',Ag [0,2,3,4,5,6,7,9] a a'->Q .normal a' (w5.setCell (qt gx 7) (.slice A5 (j+1) c5))):qw (R8 34) Q a w:=by
 obtain ⟨⟨sz,-,e0,-,-,-,e5⟩,-,e7⟩:=hG;have lx:=hbx.lt;have hS:qc w.drew gx 7 (.slice A7 j c7):=hbx.cell' 7 hbk;refine rD (fun w'=>qc w' gx 7 (.slice A7 j c7)) (fun q=>q != 9) 10 ?_;refine dt 5 [0,1,2,3,4] ?_;iterate 5 refine tv ?_
 refine t_e ?_;refine dc 5 Tryz.func21 hcall ?_;rintro e w' ⟨nk,rfl,hnk,rfl⟩;refine ⟨_,rfl,fun _=>hS,?_⟩;refine dv 6 ?_ (fun _=>kV hS _ lx);refine da 7 Tryz.underlying22 Tryz.info3 ((hown.ext_ (aq _).drew').alloc _) (T:=fun _=>True) (Sl.new w.drew _ _ 1 1 rfl) I I bh ci ?_;intro v5 w5 ho5 hf5 hb5;obtain ⟨A5,c5,rfl,-,-,-⟩:=Sl.of_own ho5;have R5:=(hbx.drew.alloc (qk #[↑nk] 3)).fr hf5 hgk;have y7:=R5.cell' 7 hbk;have y7f:=R5.frozen 7;refine ⟨fun _=>y7,?_⟩;refine dv 8 ?_ (fun _=>y7);refine dq 9 ?_;refine d_E a [0,2,3,4,5,6,7,9] ?_;exact h nk A5 c5 w5 hnk ho5 hf5 hb5
theorem s26 (hG:G8 a vl g2 g3 n i k gx)(ej:qq a 8 (j:Int))(hbx:Blk w gx 60 cs)(hbk:cs[7]?=some (.slice A7 j c7))(hgk:¬ some gx=(Value.slice A7 j c7).ownBlock)(hown:w.ownsRow B 3 1 (.slice A7 j c7) j (ks.map (Value.int .i64)))(hB:B<=w)(hj:j<=1000)
  (hcall:Calls Tryz.prog 21 #[vl,↑i,↑j] w.drew fun e w'=>∃ n:Int,e=.returned (↑n)∧R n∧w.drew=w')
  (h:∀ nk A5 c5 w5,R nk->w5.ownsRow B 3 1 (.slice A5 (j+1) c5) (j+1) (ks.map (Value.int .i64) ++ [.int .i64 nk])->Fr (fun k=>some k=(Value.slice A7 j c7).ownBlock) (w.drew.alloc (qk #[.int .i64 nk] 3)) w5->((Value.slice A5 (j+1) c5).ownBlock=(Value.slice A7 j c7).ownBlock∨(Value.slice A5 (j+1) c5).ownBlock=some (w.drew.alloc (qk #[.int .i64 nk] 3)).heap.size) ->
   ∀ a',Ag [0,2,3,4,5,6,7,8] a a'->Q .normal a' (w5.setCell (qt gx 7) (.slice A5 (j+1) c5))):qw (R8 26) Q a w:=by
 obtain ⟨⟨sz,-,e0,-,-,-,e5⟩,-,e7⟩:=hG;have lx:=hbx.lt;have hS:qc w.drew gx 7 (.slice A7 j c7):=hbx.cell' 7 hbk;refine rD (fun w'=>qc w' gx 7 (.slice A7 j c7)) (fun q=>q != 9) 10 ?_;refine dt 5 [0,1,2,3,4] ?_;iterate 5 refine tv ?_
 refine t_e ?_;refine dc 5 Tryz.func21 hcall ?_;rintro e w' ⟨nk,rfl,hnk,rfl⟩;refine ⟨_,rfl,fun _=>hS,?_⟩;refine dv 6 ?_ (fun _=>kV hS _ lx);refine da 7 Tryz.underlying22 Tryz.info3 ((hown.ext_ (aq _).drew').alloc _) (T:=fun _=>True) (Sl.new w.drew _ _ 1 1 rfl) I I bh ci ?_;intro v5 w5 ho5 hf5 hb5;obtain ⟨A5,c5,rfl,-,-,-⟩:=Sl.of_own ho5;have R5:=(hbx.drew.alloc (qk #[↑nk] 3)).fr hf5 hgk;have y7:=R5.cell' 7 hbk;have y7f:=R5.frozen 7;refine ⟨fun _=>y7,?_⟩;refine dv 8 ?_ (fun _=>y7);refine dq 9 ?_;refine d_E a [0,2,3,4,5,6,7,8] ?_;exact h nk A5 c5 w5 hnk ho5 hf5 hb5
theorem s25 (hG:G8 a vl g2 g3 n i k gx)(ej:qq a 8 (j:Int))(hbx:Blk w gx 60 cs)(hbk:cs[4]?=some (.slice A7 j c7))(hgk:¬ some gx=(Value.slice A7 j c7).ownBlock)(hown:w.ownsRow B 3 1 (.slice A7 j c7) j (ks.map (Value.int .i64)))(hB:B<=w)(hj:j<=1000)(hi:i<=1000)(hp:0<=p∧p<5)
  (hcall:Calls Tryz.prog 19 #[vl,.int .i64 ((i:Int)+(j:Int)),.int .i64 5] w.drew fun e w'=>e=.returned (↑p)∧w.drew=w')
  (h:∀ A5 c5 w5,w5.ownsRow B 3 1 (.slice A5 (j+1) c5) (j+1) (ks.map (Value.int .i64) ++ [.int .i64 (1+p)])->Fr (fun k=>some k=(Value.slice A7 j c7).ownBlock) (w.drew.alloc (qk #[.int .i64 (1+p)] 3)) w5->((Value.slice A5 (j+1) c5).ownBlock=(Value.slice A7 j c7).ownBlock∨(Value.slice A5 (j+1) c5).ownBlock=some (w.drew.alloc (qk #[.int .i64 (1+p)] 3)).heap.size) ->
   ∀ a',Ag [0,2,3,4,5,6,7,8] a a'->Q .normal a' (w5.setCell (qt gx 4) (.slice A5 (j+1) c5))):qw (R8 25) Q a w:=by
 obtain ⟨⟨sz,-,e0,-,-,-,e5⟩,-,e7⟩:=hG;have lx:=hbx.lt;have hS:qc w.drew gx 4 (.slice A7 j c7):=hbx.cell' 4 hbk;refine rD (fun w'=>qc w' gx 4 (.slice A7 j c7)) (fun q=>q != 11) 12 ?_;refine dt 6 [0,1,2,3,4,5] ?_;iterate 6 refine tv ?_
 refine t_e ?_;refine dc 6 Tryz.func19 hcall ?_;rintro e w' ⟨rfl,rfl⟩;refine ⟨_,rfl,fun _=>hS,?_⟩;refine dv 7 ?_;refine dv 8 ?_ (fun _=>kV hS _ lx);refine da 9 Tryz.underlying22 Tryz.info3 ((hown.ext_ (aq _).drew').alloc _) (T:=fun _=>True) (Sl.new w.drew _ _ 1 1 rfl) I I bh ci ?_;intro v5 w5 ho5 hf5 hb5;obtain ⟨A5,c5,rfl,-,-,-⟩:=Sl.of_own ho5;have R5:=(hbx.drew.alloc (qk #[.int .i64 (1+p)] 3)).fr hf5 hgk;have y7:=R5.cell' 4 hbk;have y7f:=R5.frozen 4;refine ⟨fun _=>y7,?_⟩;refine dv 10 ?_ (fun _=>y7);refine dq 11 ?_;refine d_E a [0,2,3,4,5,6,7,8] ?_;exact h A5 c5 w5 ho5 hf5 hb5
theorem s28 (hG:G8 a vl g2 g3 n i k gx)(ej:qq a 8 (j:Int))(hbx:Blk w gx 60 cs)(hbk:cs[5]?=some (.slice A7 n7 c7))(hgk:¬ some gx=(Value.slice A7 n7 c7).ownBlock)(hown:w.ownsRow B 9 1 (.slice A7 n7 c7) n7 (ls.map Value.string))(hB:B<=w)(hj:j<=1000)(hn7:n7<=1000)(hk:0<=k∧k<1000000)
  (h:∀ z A5 c5 w5,z.size<=100->w5.ownsRow B 9 1 (.slice A5 (n7+1) c5) (n7+1) (ls.map Value.string ++ [.string z])->Fr (fun k=>some k=(Value.slice A7 n7 c7).ownBlock) ((w.drew.alloc (qk #[.string ⟨#[97]⟩,.string ⟨#[98]⟩,.string ⟨#[99]⟩,.string ⟨#[100]⟩] 9)).alloc (qk #[.string z] 9)) w5->((Value.slice A5 (n7+1) c5).ownBlock=(Value.slice A7 n7 c7).ownBlock∨(Value.slice A5 (n7+1) c5).ownBlock=some ((w.drew.alloc (qk #[.string ⟨#[97]⟩,.string ⟨#[98]⟩,.string ⟨#[99]⟩,.string ⟨#[100]⟩] 9)).alloc (qk #[.string z] 9)).heap.size) ->
   ∀ a',Ag [0,2,3,4,5,6,7,8] a a'->Q .normal a' (w5.setCell (qt gx 5) (.slice A5 (n7+1) c5))):qw (R8 28) Q a w:=by
 obtain ⟨⟨sz,-,-,-,-,-,-⟩,e6,e7⟩:=hG;have lx:=hbx.lt;have hS:qc w.drew gx 5 (.slice A7 n7 c7):=hbx.cell' 5 hbk;have q0:0<=((j:Int)+k / 96) % 4∧((j:Int)+k / 96) % 4<4:=by omega
 obtain ⟨z,hz,hz1⟩:=Fo (((j:Int)+k / 96) % 4).toNat I;refine rD (fun w'=>qc w' gx 5 (.slice A7 n7 c7)) (fun q=>q != 13) 14 ?_;refine dt 7 [0,1,3,4,5,6,7] ?_;iterate 7 refine tv ?_
 refine t_e ?_;have hA:=kV hS (qk #[.string ⟨#[97]⟩,.string ⟨#[98]⟩,.string ⟨#[99]⟩,.string ⟨#[100]⟩] 9) lx;refine dv 2 ?_ (fun _=>hA);have hz2:(w.drew.alloc (qk #[.string ⟨#[97]⟩,.string ⟨#[98]⟩,.string ⟨#[99]⟩,.string ⟨#[100]⟩] 9)).cell? (qt w ((((j:Int)+k / 96) % 4).toNat))=some (.string z):=(aw w.drew 9 _).cell' _ hz;refine dv 8 ?_ (fun _=>hA);refine dv 9 ?_ (fun _=>hA) (hrun:=Bz (.tmp 124) rfl ba hz2);refine dv 10 ?_ (fun _=>kV hA _ bh);refine da 11 Tryz.underlying55 GX (((hown.ext_ (aq _).drew').alloc _).alloc _) (T:=fun _=>True) (Sl.new _ _ _ 1 1 rfl) I I bh ci ?_;intro v5 w5 ho5 hf5 hb5;obtain ⟨A5,c5,rfl,-,-,-⟩:=Sl.of_own ho5;have R5:=((hbx.drew.alloc (qk #[.string ⟨#[97]⟩,.string ⟨#[98]⟩,.string ⟨#[99]⟩,.string ⟨#[100]⟩] 9)).alloc (qk #[.string z] 9)).fr hf5 hgk;have y7:=R5.cell' 5 hbk;have y7f:=R5.frozen 5;refine ⟨fun _=>y7,?_⟩;refine dv 12 ?_ (fun _=>y7);refine dq 13 ?_;refine d_E a [0,2,3,4,5,6,7,8] ?_;exact h z A5 c5 w5 hz1 ho5 hf5 hb5
end
def PN (vl:Value)(g2 g3 n i:Nat)(k:Int)(gx:Nat)(Pn:Nat->Prop)(w0:World):Exit->Act->World->Prop:=fun e a w=>e=.normal∧G8 a vl g2 g3 n i k gx∧zP gx Pn w0 w
theorem nZ {P:Program}{c:Code}{id:Nat}{R Q:Exit->Act->World->Prop}{a:Act}{w:World}(h:Code.wp P c R a w)(hR:∀ e a w,R e a w->e=.normal)(hq:∀ a w,R .normal a w->Q .normal a w):Code.wp P c (Exit.inBlock id Q) a w :=
 wp_mono h (fun e a w r=>by have:=hR e a w r;subst this;exact hq a w r)
section
variable {a:Act}{w:World}{l:List Int}{Ql:Nat->Prop}{vl:Value}{g2 g3 n i gx:Nat}{k:Int}{w0:World}{name:ByteArray}{Pn:Nat->Prop}
theorem Lh (hG:G8 a vl g2 g3 n i k gx)(e9:qq a 9 (.int .i64 ((0:Nat):Int)))(hk:0<=k∧k<1000000)(hi:1<=i)(hi2:i<=1000)(hl:bL w0 Ql vl l)(hnm:name.size<=100)
  (hst:oH gx w0 3 name qn qn qn [] [] [] w0 w)(hgx:w0<=gx)(hP:∀ b,w0.heap.size<=b->Pn b):qw (.block 5 (.loop AK)) (PN vl g2 g3 n i k gx Pn w0) a w:=by
 obtain ⟨m,hm⟩:∃ m:Nat,k / 24 % 4=(m:Int):=⟨(k / 24 % 4).toNat,I⟩;have hm3:m<=3:=by omega
 refine wp_block (wp_loop (fun a' w'=>∃ (j:Nat) (kv:Value) (ks:List Int),G8 a' vl g2 g3 n i k gx∧j<=m∧qq a' 9 (j:Int)∧ks=j∧oH gx w0 3 name qn qn kv [] [] ks w0 w') (fun a' _=>m - (intOf (Ev a' (.tmp 9))).toNat) ⟨0,_,[],hG,af _,e9,rfl,hst⟩ ?_);clear hG e9 hst;rintro a w ⟨j,kv,ks,hG,hj,e9,hkl,hst⟩;obtain ⟨A7,c7,rfl,-,-,-⟩:=Sl.of_own hst.ko;rw [hkl] at hst;have hsw:=hst.ext.size;have sz:=hG.sz;have e6:=hG.e6;refine wp_seq (rS ?_);iterate 5 refine lv ?_
 refine lE a [0,2,3,4,5,6,7,9] 142 ?_;intro a1 g1 e142;have hG1:=hG.ag g1;by_cases hjm:j<m
 ·refine wp_cond_true (e142.trans bh) (wp_skip ?_)
  refine wp_seq (wp_block (s34 (R:=fun n=>0<=n∧n<(i:Int)) hG1 (g1.get 9 e9) hst.box rfl hst.gk (hst.ko.len_cast hkl rfl) I I (vN l i j Ql _ w.drew (hl.ext (hst.ext.trans' (aq w).drew')) I I I) ?_));intro nk A5 c5 w5 hnk ho5 hf5 hb5 a2 g2;have f9:=g2.get 9 (g1.get 9 e9);have sz2:=(hG1.ag g2).sz;refine rW ?_;iterate 3 refine lv ?_
  refine lE a2 [0,2,3,4,5,6,7] 9 ?_;intro a3 g3 f9';refine ⟨⟨j+1,_,ks ++ [nk],(hG1.ag g2).ag g3,hjm,f9',by rw [aa,hkl];rfl,(hst.ext_ ((aq w).drew'.alloc' _)).kid dg hgx (ho5.len_cast (by rw [hkl]) rfl) hf5 (hb5.elim .inl (fun h=>.inr ⟨_,h,ab _⟩))⟩,?_⟩;rw [f9',e9];simp [intOf];omega
 ·obtain rfl:j=m:=by omega
  refine wp_cond_false (e142.trans U) (wp_exit ?_);exact ⟨rfl,hG1,hst.node hP cu hnm U U (by rw [hkl];omega) (fun _=>by rw [hkl];omega)⟩
theorem Mw (hG:G8 a vl g2 g3 n i k gx)(e8:qq a 8 (.int .i64 ((0:Nat):Int)))(hk:0<=k∧k<1000000)(hi:1<=i)(hi2:i<=1000)(hl:bL w0 Ql vl l)
  (hst:oH gx w0 2 ⟨#[]⟩ qn qn qn [] [] [] w0 w)(hgx:w0<=gx)(hP:∀ b,w0.heap.size<=b->Pn b):qw (.block 3 (.loop Cz)) (PN vl g2 g3 n i k gx Pn w0) a w:=by
 obtain ⟨m,hm⟩:∃ m:Nat,k / 8 % 4=(m:Int):=⟨(k / 8 % 4).toNat,I⟩;refine wp_block (wp_loop (fun a' w'=>∃ (j:Nat) (wv lv kv:Value) (ws:List Int) (ls:List ByteArray) (ks:List Int),G8 a' vl g2 g3 n i k gx∧j<=m+1∧qq a' 8 (j:Int)∧ws=j∧ks=j∧ls<=j∧oH gx w0 2 ⟨#[]⟩ wv lv kv ws ls ks w0 w') (fun a' _=>m+1 - (intOf (Ev a' (.tmp 8))).toNat) ⟨0,_,_,_,[],[],[],hG,af _,e8,rfl,rfl,af _,hst⟩ ?_);clear hG e8 hst;rintro a w ⟨j,wv,lv_,kv,ws,ls,ks,hG,hj,e8,hwl,hkl,hll,hst⟩;obtain ⟨A4,c4,rfl,-,-,-⟩:=Sl.of_own hst.wo;obtain ⟨A5,c5,rfl,-,-,-⟩:=Sl.of_own hst.lo;obtain ⟨A7,c7,rfl,-,-,-⟩:=Sl.of_own hst.ko;rw [hwl,hkl] at hst;have hsw:=hst.ext.size;have sz:=hG.sz;have e6:=hG.e6;refine wp_seq (rS ?_);iterate 5 refine lv ?_
 refine lE a [0,2,3,4,5,6,7,8] 89 ?_;intro a1 u1 e89;have hG1:=hG.ag u1;by_cases hjm:j<=m
 ·refine wp_cond_true (e89.trans bh) (wp_skip ?_)
  have hpp:=kI (l:=l) (i:=(i:Int)+(j:Int)) (m:=5) I;have hpk:=kJ l ((i:Int)+(j:Int)) 5 Ql _ w.drew (hl.ext (hst.ext.trans' (aq w).drew')) dg I I;generalize vK l ((i:Int)+(j:Int)) 5=p at *;refine wp_seq (wp_block (wp_seq (s25 hG1 (u1.get 8 e8) hst.box rfl hst.gw (hst.wo.len_cast hwl rfl) I I I hpp hpk ?_)));intro A8 c8 w8 ho8 hf8 hb8 a2 u2;have st1:=(hst.ext_ ((aq w).drew'.alloc' _)).weight (z:=1+p) dg hgx (ho8.len_cast (by rw [hwl]) rfl) hf8 (hb8.elim .inl (fun h=>.inr ⟨_,h,ab _⟩));refine wp_seq ?_;generalize w8.setCell (qt gx 4) (.slice A8 (j+1) c8)=wy at *;have hs1:=st1.ext.size;have hG2:=hG1.ag u2;have f8:=u2.get 8 (u1.get 8 e8);refine s26 (R:=fun n=>0<=n∧n<(i:Int)) hG2 f8 st1.box rfl st1.gk (st1.ko.len_cast hkl rfl) I I (vN l i j Ql _ wy.drew (hl.ext (st1.ext.trans' (aq wy).drew')) I I I) ?_;intro nk A9 c9 w9 hnk ho9 hf9 hb9 a3 u3;have st2:=(st1.ext_ ((aq wy).drew'.alloc' _)).kid (z:=nk) dg hgx (ho9.len_cast (by rw [hkl]) rfl) hf9 (hb9.elim .inl (fun h=>.inr ⟨_,h,ab _⟩));refine rS ?_;generalize w9.setCell (qt gx 7) (.slice A9 (j+1) c9)=wz at *;have hs2:=st2.ext.size;have hG3:=hG2.ag u3;have f6:=hG3.e6;have sz3:=hG3.sz;have q8:=u3.get 8 f8;iterate 4 refine lv ?_
  refine lE a3 [0,2,3,4,5,6,7,8] 115 ?_;intro a4 u4 e115;have hG4:=hG3.ag u4;have r8:=u4.get 8 q8
  have fin:∀ (a5:Act) (w5:World) (lv5:Value) (ls5:List ByteArray),Ag [0,2,3,4,5,6,7,8] a4 a5->ls5<=j+1->oH gx w0 2 ⟨#[]⟩ (.slice A8 (j+1) c8) lv5 (.slice A9 (j+1) c9) (ws ++ [1+p]) ls5 (ks ++ [nk]) w0 w5->qw (R8 24) (fun e a' w'=>e=.normal∧(∃ (j:Nat) (wv lv kv:Value) (ws:List Int) (ls:List ByteArray) (ks:List Int),G8 a' vl g2 g3 n i k gx∧j<=m+1∧qq a' 8 (j:Int)∧ws=j∧ks=j∧ls<=j∧oH gx w0 2 ⟨#[]⟩ wv lv kv ws ls ks w0 w')∧qq a' 8 (.int .i64 ((j+1:Nat):Int))) a5 w5:=by
   intro a5 w5 lv5 ls5 u5 hl5 h5;have f8:=u5.get 8 r8;have sz5:=(hG4.ag u5).sz;refine rW ?_;iterate 3 refine lv ?_
   refine lE a5 [0,2,3,4,5,6,7] 8 ?_;intro a6 u6 f8';exact ⟨rfl,⟨j+1,_,_,_,_,_,_,(hG4.ag u5).ag u6,I,f8',by rw [aa,hwl];rfl,by rw [aa,hkl];rfl,hl5,h5⟩,f8'⟩
  by_cases hq:0<k / 32 % 3
  ·refine wp_cond_true (e115.trans bh) ?_
   refine s28 hG4 r8 st2.box rfl st2.gl st2.lo I I I hk ?_;intro z A6 c6 w6 hz ho6 hf6 hb6 a5 u5;refine wp_mono (fin a5 _ _ (ls ++ [z]) u5 (by rw [aa];simp;omega) ((st2.ext_ (((aq wz).drew'.alloc' _).alloc' _)).label (z:=z) hz hgx ho6 hf6 (hb6.elim .inl (fun h=>.inr ⟨_,h,ab _⟩)))) ?_;rintro e a' w' ⟨rfl,h,h8⟩;refine ⟨h,?_⟩;rw [h8,e8];simp [intOf];omega
  ·refine wp_cond_false (e115.trans bh) (wp_skip ?_)
   refine wp_mono (fin a4 _ _ ls .rf I st2) ?_;rintro e a' w' ⟨rfl,h,h8⟩;refine ⟨h,?_⟩;rw [h8,e8];simp [intOf];omega
 ·obtain rfl:j=m+1:=by omega
  refine wp_cond_false (e89.trans U) (wp_exit ?_);exact ⟨rfl,hG1,hst.node hP cu dx (by rw [hwl];omega) I (by rw [hkl];omega) (fun h=>by omega)⟩
theorem sZ {lo hi:Int}(h1:-10<=lo∧lo<=10)(h2:-10<=hi∧hi<=1000000000)(hb:Blk w gx 60 #[.int .i64 1,qe,↑lo,↑hi,qn,qn,qn,qn,qz,qz,qe,qn])(hE:Ext w0 w):zP gx Pn w0 w:=by
 refine ⟨⟨1,⟨#[]⟩,lo,hi,[],[],[],[],.mk 0 0 ⟨#[]⟩ []⟩,⟨none,0,none,0,none,0,none,0,none,0⟩,hb,⟨cu,dl,?_,?_,bL.nil,nS.nil,bZ.nil,bL.nil,VAt.noKids cu cu dx⟩,⟨⟨U,U,U,U,eq,U⟩,⟨U,U,U,U,dl⟩,U⟩,U,hE⟩
 ·simp only [I64];omega
 ·simp only [I64];omega
structure K8 (w0 w:World)(gx:Nat)(cs:Array Value):Prop where
 bx:Blk w gx 60 cs
 x0:Ext w0 w
 gx0:gx=w0
 s0:w.heap.size=w0+1
theorem K8.set {cs:Array Value}(h:K8 w0 w gx cs)(i:Nat)(z:Value):K8 w0 (w.setCell (qt gx i) z) gx (cs.setIfInBounds i z) :=
 ⟨h.bx.set_ i z,h.x0.setCell' (p:=qt gx i) (by have:=h.gx0;show w0<=gx;omega) _,h.gx0,by have:=h.s0;simp [World.setCell];omega⟩
@[simp] def k8 (kk:Int):Array Value:=#[↑kk,qe,qz,qz,qn,qn,qn,qn,qz,qz,qe,qn]
theorem sw8 {kk:Int}{W0:Nat}{A3:Option Addr}{c3:Nat}{t:List GN}{xs:List Value}(hG:G8 a vl g2 g3 n i k gx)(e45:qq a 45 kk)(hkk:0<=kk∧kk<=4)(hk2:2<=kk->2<=i)(hk:0<=k∧k<1000000)(hi2:i<=100)(hl:bL w0 Ql vl l)
  (hK:K8 w0 w gx (k8 kk))(hW0:W0<=w0)(htl:t=i)(hgen:fG t)(hb3:Blk w0 g3 25 #[.slice A3 i c3])(hown:w0.ownsRow W0 60 12 (.slice A3 i c3) i xs)(hr:RL (RN w0 (kq W0 w0 (.slice A3 i c3))) t xs) :
  qw sg (PN vl g2 g3 n i k gx (fun b=>W0<=b) w0) a w:=by
 have hgl:w0<=gx:=by have:=hK.gx0;omega
 have hs0:=hK.s0;have hbx:=hK.bx;have hx0:=hK.x0;have sz:=hG.sz;refine wp_block (rS ?_);iterate 2 refine lv ?_
 refine lE a [0,2,3,4,5,6,7,45] 51 ?_;intro a1 u1 e51;replace hG:=hG.ag u1;replace e45:=u1.get 45 e45;clear sz;have e6:=hG.e6;have e7:=hG.e7;have sz:=hG.sz;by_cases h0:kk=0
 ·subst h0
  refine wp_cond_true (e51.trans U) (rW ?_);iterate 2 refine lv ?_
  refine lc Tryz.func20 (zm (k / 8) w I I) ?_;rintro e w2 ⟨y,A,c,rfl,hy,hg2,hx2⟩;refine ⟨_,rfl,?_⟩;refine lv ?_;have hc:=(hbx.ext hx2).cell;have hf:=(hbx.ext hx2).frozen;refine ls (w1:=w2.setCells gx 8 (qh y A c)) ?_ rfl rfl (by simp [execOp,go_sem,cN,hc,hf,k8,sz,World.setCells]);refine lN a1 [0,2,3,4,5,6,7] ?_;intro a2 u2;have hfin:=aF (qh y A c) 8 (hbx.ext hx2) (by simp [k8]);have hE:Ext w0 (w2.setCells gx 8 (qh y A c)):=((ar (M:=fun _=>False) (hx0.trans' hx2)).setCells _ 8 (.inr hgl)).ext;have hz:w2.heap.size<=(w2.setCells gx 8 (qh y A c)):=by simp [World.setCells,World.setCell]
  have hV:=hy.carry (Q:=fun b=>W0<=b∧b<(w2.setCells gx 8 (qh y A c)).heap.size∧b ≠ gx) (aB.setCells (Q:=fun b=>w.heap.size<=b) (by show ¬ w.heap.size<=gx;have:=hbx.lt;omega) (qh y A c) 8 (fun _ _ _=>rfl)) (fun b hb h=>⟨I,I,by have:=hbx.lt;omega⟩);exact ⟨rfl,hG.ag u2,Jc (B:=W0) hfin hE hg2 hW0 hV⟩
 refine wp_cond_false (e51.trans jg) (rS ?_);iterate 2 refine lv ?_
 refine lE a1 [0,2,3,4,5,6,7,45] 57 ?_;intro a2 u2 e57;replace hG:=hG.ag u2;replace e45:=u2.get 45 e45;clear e6 e7 sz;have e6:=hG.e6;have e7:=hG.e7;have sz:=hG.sz;by_cases h1:kk=1
 ·subst h1
  refine wp_cond_true (e57.trans U) (rS ?_);have hc:=hbx.cell;have hf:=hbx.frozen;iterate 5 refine lv ?_
  refine ls ?_ rfl rfl (by simp [execOp,go_sem,hc,hf,k8,sz];rfl);refine lN a2 [0,2,3,4,5,6,7] ?_;intro a3 u3;replace hG:=hG.ag u3;have hK1:=hK.set 2 (.int .i64 (k / 8 % 7 - 3));refine rS ?_;generalize w.setCell (qt gx 2) (.int .i64 (k / 8 % 7 - 3))=w1 at *;clear e6 e7 sz hc hf;have e6:=hG.e6;have e7:=hG.e7;have sz:=hG.sz;have hc:=hK1.bx.cell;have hf:=hK1.bx.frozen;iterate 7 refine lv ?_ rfl rfl (by (simp [execOp,go_sem,hc,hf,k8, *];try simp (disch:=omega) only [tqI,tmI,wrI]);first | exact ⟨rfl,rfl⟩ | rfl)
  refine ls ?_ rfl rfl (by simp [execOp,go_sem,hc,hf,k8,sz];rfl);refine lN a3 [0,2,3,4,5,6,7] ?_;intro a4 u4;replace hG:=hG.ag u4;have hK2:=hK1.set 3 (.int .i64 (k / 8 % 7 - 3+k / 56 % 5));refine rS ?_;generalize w1.setCell (qt gx 3) (.int .i64 (k / 8 % 7 - 3+k / 56 % 5))=w2 at *;clear e6 e7 sz hc hf;have e6:=hG.e6;have e7:=hG.e7;have sz:=hG.sz;have hc:=hK2.bx.cell;have hf:=hK2.bx.frozen;iterate 4 refine lv ?_
  refine lE a4 [0,2,3,4,5,6,7] 74 ?_;intro a5 u5 e74;replace hG:=hG.ag u5;by_cases hz:k / 280 % 19=0
  ·refine wp_cond_true (e74.trans (by simp [hz])) (rW ?_)
   clear e6 e7 sz;have e6:=hG.e6;have e7:=hG.e7;have sz:=hG.sz;iterate 8 refine lv ?_ rfl rfl (by (simp [execOp,go_sem,hc,hf,k8, *];try simp (disch:=omega) only [tqI,tmI,wrI]);first | exact ⟨rfl,rfl⟩ | rfl)
   refine ls ?_ rfl rfl (by simp [execOp,go_sem,hc,hf,k8,sz];rfl);refine lN a5 [0,2,3,4,5,6,7] ?_;intro a6 u6;have hK3:=hK2.set 3 (.int .i64 (k / 8 % 7 - 3+1000000*(k % 90+1)));exact ⟨rfl,hG.ag u6,sZ I I hK3.bx hK3.x0⟩
  ·refine wp_cond_false (e74.trans (by simp [hz])) (wp_skip ?_)
   exact ⟨rfl,hG,sZ I I hK2.bx hK2.x0⟩
 refine wp_cond_false (e57.trans (by simp [h1])) (rS ?_);iterate 2 refine lv ?_
 refine lE a2 [0,2,3,4,5,6,7,45] 83 ?_;intro a3 u3 e83;replace hG:=hG.ag u3;replace e45:=u3.get 45 e45;clear e6 e7 sz;have sz:=hG.sz;by_cases h2:kk=2
 ·subst h2
  have hi:=hk2 I;refine wp_cond_true (e83.trans U) (rS ?_);refine lv ?_;refine lE a3 [0,2,3,4,5,6,7] 8 ?_;intro a4 u4 e8;exact nZ (Mw (hG.ag u4) e8 hk I I hl (oH.start hbx hx0 (ab _)) hgl (fun b hb=>by omega)) (fun _ _ _ h=>h.1) (fun _ _ h=>h)
 refine wp_cond_false (e83.trans (by simp [h2])) (rS ?_);iterate 2 refine lv ?_
 refine lE a3 [0,2,3,4,5,6,7] 129 ?_;intro a4 u4 e129;replace hG:=hG.ag u4;clear sz;have e6:=hG.e6;have e7:=hG.e7;have sz:=hG.sz;by_cases h3:kk=3
 ·subst h3
  have hi:=hk2 I;have q0:0<=k / 8 % 3∧k / 8 % 3<3:=by omega
  obtain ⟨z,hz,hz1⟩:=Eh (k / 8 % 3).toNat I;refine wp_cond_true (e129.trans U) (rS ?_);iterate 5 refine lv ?_
  have hz2:(w.alloc (qk #[qe,.string ⟨#[80,97,105,114]⟩,qe] 9)).cell? (qt w ((k / 8 % 3).toNat))=some ↑z:=(aw w 9 _).cell' _ hz;refine lv ?_ (hrun:=Bz (.tmp 135) rfl ba hz2);have hc:=(hbx.alloc (qk #[qe,.string ⟨#[80,97,105,114]⟩,qe] 9)).cell;have hf:=(hbx.alloc (qk #[qe,.string ⟨#[80,97,105,114]⟩,qe] 9)).frozen;have b1:=(hbx.alloc (qk #[qe,.string ⟨#[80,97,105,114]⟩,qe] 9)).set_ 1 z;have x1:=(hx0.alloc' (qk #[qe,.string ⟨#[80,97,105,114]⟩,qe] 9)).setCell' (p:=qt gx 1) hgl z;generalize w.alloc (qk #[qe,.string ⟨#[80,97,105,114]⟩,qe] 9)=w1 at *;refine lv ?_;refine ls ?_ rfl rfl (by simp [execOp,go_sem,hc,hf,k8,sz];rfl);refine lN a4 [0,2,3,4,5,6,7] ?_;intro a5 u5;replace hG:=hG.ag u5;refine rS ?_;have sz5:=hG.sz;refine lv ?_;refine lE a5 [0,2,3,4,5,6,7] 9 ?_;intro a6 u6 e9;exact nZ (Lh (hG.ag u6) e9 hk I I hl hz1 (oH.start b1 x1 (ab _)) hgl (fun b hb=>by omega)) (fun _ _ _ h=>h.1) (fun _ _ h=>h)
 obtain rfl:kk=4:=I;have hi:=hk2 I;have hnd:Nds w (fun b=>W0<=b∧b<w0.heap.size) (.slice A3 i c3) t:=Lst.of_own ((hown.ext_ hx0).len_cast htl.symm rfl) (hr.move qY (aB.of_ext hx0) (fun b hb h=>⟨h.1,h.2.1⟩)) (by rw [htl];omega) (fun b hb=>⟨hown.block_ge hb,hown.block_lt hb⟩);have hB:=Gj t l k (fun b=>W0<=b∧b<w0.heap.size) Ql (.slice A3 i c3) vl w hgen I I I I (fun b hb=>by omega) hnd (hl.ext hx0);rw [htl] at hB;refine wp_cond_false (e129.trans U) (rW ?_);have e0:=hG.e0;have e3:=hG.e3;have e5:=hG.e5;have c3':=(hb3.ext hx0).cell' 0 rfl;iterate 4 refine lv ?_
 refine lc Tryz.func22 hB ?_;rintro e w2 ⟨x,na,rfl,hx1,hsm,hk3,hx2⟩;refine ⟨_,rfl,?_⟩;have hc:=(hbx.ext hx2).cell;have hf:=(hbx.ext hx2).frozen;refine ls (w1:=w2.setCells gx 0 (aN x na)) ?_ rfl rfl (by simp [execOp,go_sem,fE,aN,hc,hf,k8,sz,e7,World.setCells]);refine lN a4 [0,2,3,4,5,6,7] ?_;intro a5 u5;have hfin:=aF (aN x na) 0 (hbx.ext hx2) (by simp [aN,k8]);have hE:Ext w0 (w2.setCells gx 0 (aN x na)):=((ar (M:=fun _=>False) (hx0.trans' hx2)).setCells _ 0 (.inr hgl)).ext;have hz:w2.heap.size<=(w2.setCells gx 0 (aN x na)):=by simp [World.setCells,World.setCell,aN]
 have hs2:=hx2.size;have hg0:=hK.gx0;have hnew:¬ New (fun b=>W0<=b∧b<w0.heap.size) w gx:=by rintro (h | h) <;> omega
 have hN:NAt (w2.setCells gx 0 (aN x na)) (fun b=>W0<=b∧b<(w2.setCells gx 0 (aN x na)).heap.size∧b ≠ gx) x na:=hx1.carry (aB.setCells hnew _ 0 (fun _ _ _=>rfl)) (fun b hb h=>by
  rcases h with h | h
  ·exact ⟨h.1,I,I⟩
  ·exact ⟨I,I,I⟩)
 exact ⟨rfl,hG.ag u5,x,na,hfin,hN,hsm,fun h=>absurd h hk3,hE⟩
def PT (vl:Value)(g2 g3 n i:Nat)(W:World):Exit->Act->World->Prop:=fun e a w=>e=.normal∧F8 a vl g2 g3 n i∧lR n g3 W (.int .i64 ((i:Int)+1)) w
theorem KJ {base base':Nat}{e:TypeId}{size:Nat}{v:Value}{n:Nat}{xs:List Value}(h:w.ownsRow base e size v n xs)(hb:base'<=base):w.ownsRow base' e size v n xs:=by
 refine ⟨h.1,?_⟩;rcases h.2 with h3 | ⟨G,cap,cur,h4,h5,h6⟩
 ·exact .inl h3
 ·exact .inr ⟨G,cap,cur,h4,I,h6⟩
theorem yK (x:GN)(na:NA):∀ u ∈ aN x na,u.oneCell'=true:=by
 intro u hu;simp only [aN,ao,List.not_mem_nil,or_false] at hu;rcases hu with rfl | rfl | rfl | rfl | rfl | rfl | rfl | rfl | rfl | rfl | rfl | rfl <;> rfl
theorem tl8 {W:World}{A3:Option Addr}{c3:Nat}{t:List GN}{xs:List Value}(hG:G8 a vl g2 g3 n i k gx)(hk:0<=k∧k<1000000)(hin:i<n)(hn:n<=14)(hg3:g3<W)(hF:Fr (fun b=>b=g3) W w0)
  (htl:t=i)(hgen:fG t)(hb3:Blk w0 g3 25 #[.slice A3 i c3])(hown:w0.ownsRow W 60 12 (.slice A3 i c3) i xs)(hr:RL (RN w0 (kq W w0 (.slice A3 i c3))) t xs)(hgx:w0<=gx)
  (hst:zP gx (fun b=>W.heap.size<=b) w0 w):qw qx (PT vl g2 g3 n i W) a w:=by
 obtain ⟨x,na,hbx,hN,hsm,hk3,hE⟩:=hst;have hs0:=hE.size;have hsW:=hF.size;have sz:=hG.sz;refine rS ?_;have B5:=aw w 25 #[qn];have x5:Ext w (w.alloc (qk #[qn] 25)):=(aq w).alloc' _;have s5:(w.alloc (qk #[qn] 25)).heap.size=w.heap.size+1:=by simp
 iterate 2 refine lv ?_
 generalize w.alloc (qk #[qn] 25)=w5 at *;refine ls ?_ rfl rfl (by simp [execOp,go_sem,B5.cell,B5.frozen,sz];rfl);refine lE a [0,2,3,4,5,6,7] 10 ?_;intro a1 u1 e10;replace hG:=hG.ag u1;have b5:=B5.set_ 0 qn;replace x5:Ext w (w5.setCell (qp w) qn):=x5.setCell' (p:=qp w) (ab _) _;replace s5:(w5.setCell (qp w) qn).heap.size=w+1:=by simpa [World.setCell] using s5
 refine rS ?_;generalize w5.setCell (qp w) qn=W5 at *
 have hsl:Sl W5 (fun _=>True) 12 A3 i xs:=by
  obtain ⟨A',c',e',-,-,h3⟩:=Sl.of_own (hown.ext_ (hE.trans' x5));injection e' with e1 e2 e3;subst e1;exact h3 _ (fun _ _=>trivial)
 have e3:=hG.e3;clear sz;have sz:=hG.sz;have c10:=b5.cell' 0 rfl;have c3':=(hb3.ext (hE.trans' x5)).cell' 0 rfl;iterate 4 refine lv ?_
 refine la Tryz.underlying23 Tryz.info60 (aT W5 W5 60 12) hsl I I (ab _) (RN.one hr) ?_;rw [Nat.zero_add,List.nil_append];intro v5 w5 ho5 hf5 _;obtain ⟨A5,c5,rfl,-,-,-⟩:=Sl.of_own ho5;have hx5:Ext W5 w5:=hf5.new_ext (fun b hb=>by simp [Value.ownBlock] at hb);refine lv ?_;have b5':=b5.ext hx5;refine ls ?_ rfl rfl (by simp [execOp,go_sem,b5'.cell,b5'.frozen,sz];rfl);refine lE a1 [0,2,3,4,5,6,7] 10 ?_;intro a2 u2 f10;replace hG:=hG.ag u2;have ne5:some w.heap.size ≠ (Value.slice A5 i c5).ownBlock:=fun e=>by have:=ho5.block_ge e.symm;omega
 have b6:=b5'.set_ 0 (.slice A5 i c5);have x6:Ext w (w5.setCell (qp w) (.slice A5 i c5)):=(x5.trans' hx5).setCell' (p:=qp w) (ab _) _;have o6:=fA ho5 (p:=qp w) ne5 (.slice A5 i c5);have s6:W5.heap.size<=(w5.setCell (qp w) (.slice A5 i c5)):=by have:=hx5.size;simp [World.setCell];omega
 refine rS ?_;generalize w5.setCell (qp w) (.slice A5 i c5)=W6 at *;clear e3 c10 c3' sz e10;have e7:=hG.e7;have sz:=hG.sz;have d10:=b6.cell' 0 rfl;have hcx:=(hbx.ext x6).cell;iterate 2 refine lv ?_
 refine lv (v:=fE x na) (w1:=W6) ?_ rfl rfl (by simp [execOp,go_sem,hcx,aN,fE, *]);refine lv (w1:=W6.alloc (qk (aN x na).toArray 60)) (v:=.slice (qp W6) 1 1) ?_ rfl rfl (by simp [execOp,go_sem,aN,fE, *]);refine la Tryz.underlying23 Tryz.info60 (o6.alloc _) (T:=fun _=>True) (Sl.new _ _ _ 1 12 rfl) I I bh (yK x na) ?_;intro v6 w6 ho6 hf6 _;obtain ⟨A6,c6,rfl,-,-,-⟩:=Sl.of_own ho6;have ne6:some w.heap.size ≠ (Value.slice A6 (i+1) c6).ownBlock:=fun e=>by have:=ho6.block_ge e.symm;omega
 have b7':=(b6.alloc (qk (aN x na).toArray 60)).fr hf6 (fun e=>ne5 e);refine lv ?_;refine ls ?_ rfl rfl (by simp [execOp,go_sem,b7'.cell,b7'.frozen,sz];rfl);refine lE a2 [0,2,3,4,5,6,7] 10 ?_;intro a3 u3 g10;replace hG:=hG.ag u3;have x7':Ext w w6:=Fr.new_ext ((ar (x6.alloc' _)).trans hf6) (fun b hb=>by have:=o6.block_ge hb.symm;omega);have b7:=b7'.set_ 0 (.slice A6 (i+1) c6);have x7:Ext w (w6.setCell (qp w) (.slice A6 (i+1) c6)):=x7'.setCell' (p:=qp w) (ab _) _;have o7:=fA ho6 (p:=qp w) ne6 (.slice A6 (i+1) c6);have s7:W5.heap.size<=(w6.setCell (qp w) (.slice A6 (i+1) c6)):=by have:=hf6.size;simp at this;simp [World.setCell];omega
 refine rS ?_;generalize w6.setCell (qp w) (.slice A6 (i+1) c6)=W7 at *;have E7:=hE.trans' x7;have r7:RL (RN W7 (fun _=>True)) (t ++ [x]) (xs ++ aN x na):=(hr.move qY (aB.of_ext E7) (fun _ _ _=>trivial)).append (RL.one ⟨na,rfl,hN.carry (aB.of_ext x7) (fun _ _ _=>trivial)⟩);have hlen:(t ++ [x]).length=i+1:=by rw [aa,htl];rfl
 have nd7:Nds W7 (fun _=>True) (.slice A6 (i+1) c6) (t ++ [x]):=Lst.of_own (o7.len_cast hlen.symm rfl) r7 (by rw [hlen];omega) (fun _ _=>trivial);clear e7 sz d10 hcx f10;have sz:=hG.sz;have d10:=b7.cell' 0 rfl;refine lv ?_
 refine lc Tryz.func10 (eQ (t ++ [x]) (fun _=>True) _ W7 nd7 (fun y hy=>by
  rcases ap.1 hy with hy | hy
  ·exact (hgen.small y hy).2.2.1
  ·simp only [List.mem_singleton] at hy;subst hy;exact hsm.sm.2.2.1)) ?_
 rintro e w8 ⟨rfl,hx8⟩;refine ⟨_,rfl,?_⟩;refine lv ?_;refine lE a3 [0,2,3,4,5,6,7,10] 169 ?_;intro a4 u4 e169;replace hG:=hG.ag u4;have E8:=E7.trans' hx8;have s8:=hx8.size;have h10:=u4.get 10 g10;clear sz d10;have sz:=hG.sz;have e3:=hG.e3;have e6:=hG.e6;have B3:=hb3.ext E8;by_cases hv:bE (t ++ [x])=0
 ·refine wp_cond_true (e169.trans (by simp [hv])) (rW ?_)
  have d10:=(b7.ext hx8).cell' 0 rfl;refine lv ?_;refine ls ?_ rfl rfl (by simp [execOp,go_sem,B3.cell,B3.frozen,sz,e3];rfl);refine lN a4 [0,2,3,4,5,6,7] ?_;intro a5 u5;refine ⟨rfl,hG.toF8.ag u5,?_⟩;exact Jo (m:=W5.heap.size) hin htl hg3 hF E8 B3 (KJ (o7.ext_ hx8) I) (fun b hb=>o7.block_ge hb) hr I I (hN.carry (aB.of_ext (x7.trans' hx8)) (fun b hb h=>⟨h.1,I⟩)) (hgen.add hv hk3 hsm)
 ·refine wp_cond_false (e169.trans (by simp [hv])) (rW ?_)
  have d3:=B3.cell' 0 rfl;iterate 5 refine lv ?_
  refine lv (v:=fE (bN (k % 5)) ⟨none,0,none,0,none,0,none,0,none,0⟩) (w1:=w8) ?_ rfl rfl (by simp [execOp,go_sem,fE,bN, *];exact ⟨rfl,rfl,rfl,rfl,rfl⟩);refine lv (w1:=w8.alloc (qk (aN (bN (k % 5)) ⟨none,0,none,0,none,0,none,0,none,0⟩).toArray 60)) (v:=.slice (qp w8) 1 1) ?_ rfl rfl (by simp [execOp,go_sem,aN,fE,bN, *]);refine la Tryz.underlying23 Tryz.info60 ((hown.ext_ E8).alloc _) (T:=fun _=>True) (Sl.new _ _ _ 1 12 rfl) I I bh (yK _ _) ?_;intro v9 w9 ho9 hf9 hb9;obtain ⟨A9,c9,rfl,-,-,-⟩:=Sl.of_own ho9;have b9:=(B3.alloc (qk (aN (bN (k % 5)) ⟨none,0,none,0,none,0,none,0,none,0⟩).toArray 60)).fr hf9 (fun e=>by have:=hown.block_ge e.symm;omega);refine lv ?_;refine ls ?_ rfl rfl (by simp [execOp,go_sem,b9.cell,b9.frozen,sz,e3];rfl);refine lN a4 [0,2,3,4,5,6,7] ?_;intro a5 u5;refine ⟨rfl,hG.toF8.ag u5,?_⟩;exact I5 (z:=k % 5) I hin hn htl hg3 hF (E8.alloc' _) (B3.alloc _) hown ho9 hf9 (hb9.elim .inl (fun h=>.inr ⟨_,h,ab _⟩)) hr hgen
section
variable {W:World}{kk:Int}{A3:Option Addr}{c3:Nat}{t:List GN}{xs:List Value}
theorem r10 (hG:G8 a vl g2 g3 n i k gx)(hkk:0<=kk∧kk<8)(hk5:kk ≠ 5)(hk2:2<=kk->2<=i)(hk:0<=k∧k<1000000)(hin:i<n)(hn:n<=14)(hl:bL w0 Ql vl l)(hK:K8 w0 w gx (k8 kk))(hg3:g3<W)(hF:Fr (fun b=>b=g3) W w0)
  (htl:t=i)(hgen:fG t)(hb3:Blk w0 g3 25 #[.slice A3 i c3])(hown:w0.ownsRow W 60 12 (.slice A3 i c3) i xs)(hr:RL (RN w0 (kq W w0 (.slice A3 i c3))) t xs):qw c10 (PT vl g2 g3 n i W) a w:=by
 have hs:=hF.size
 have fin:∀ (z:Int) (a2:Act) (w2:World),G8 a2 vl g2 g3 n i k gx->K8 w0 w2 gx (k8 z)->0<=z∧z<=4->(2<=z->2<=i)->qw (.seq (.seq (R8 12) sg) qx) (PT vl g2 g3 n i W) a2 w2:=by
  intro z a2 w2 hG hK hz hz2;have hc:=hK.bx.cell;have e7:=hG.e7;have sz:=hG.sz;refine wp_seq (rS ?_);iterate 2 refine lv ?_
  refine lE a2 [0,2,3,4,5,6,7] 45 ?_;intro a3 u3 e45;refine wp_mono (sw8 (hG.ag u3) e45 hz hz2 hk I hl hK I htl hgen hb3 hown hr) ?_;rintro e a' w' ⟨rfl,hG',hst⟩
  exact wp_mono (tl8 hG' hk hin hn hg3 hF htl hgen hb3 hown hr (by rw [hK.gx0];exact ab _) hst) (fun e a w h=>by
   obtain ⟨rfl,h⟩:=h;exact ⟨rfl,h⟩)
 have hc:=hK.bx.cell;have hf:=hK.bx.frozen;have e7:=hG.e7;have sz:=hG.sz;refine wp_seq (rS ?_);iterate 3 refine lv ?_
 refine lE a [0,2,3,4,5,6,7] 39 ?_;intro a1 u1 e39;replace hG:=hG.ag u1;clear e7 sz;have e7:=hG.e7;have sz:=hG.sz;by_cases h5:5<kk
 ·refine wp_cond_true (e39.trans (by simp [h5])) (rW ?_)
  iterate 4 refine lv ?_
  refine ls ?_ rfl rfl (by simp [execOp,go_sem, *];rfl);refine lN a1 [0,2,3,4,5,6,7] ?_;intro a2 u2;exact fin (kk - 4) a2 _ (hG.ag u2) (hK.set 0 _) I (fun h=>hk2 I)
 ·refine wp_cond_false (e39.trans bh) (wp_skip ?_)
  exact fin kk a1 _ hG hK I hk2
theorem r6 (hG:F8 a vl g2 g3 n i)(hin:i<n)(hn:n<=14)(hl:bL w Ql vl l)(hg3:g3<W)(hF:Fr (fun b=>b=g3) W w)
  (htl:t=i)(hgen:fG t)(hb3:Blk w g3 25 #[.slice A3 i c3])(hown:w.ownsRow W 60 12 (.slice A3 i c3) i xs)(hr:RL (RN w (kq W w (.slice A3 i c3))) t xs) :
  qw (.seq (R8 6) (.seq (R8 7) (.seq (.seq (R8 8) (.cond (.tmp 32) (R8 9) .skip)) c10))) (PT vl g2 g3 n i W) a w:=by
 have hk:=kI (l:=l) (i:=1+(i:Int)) (m:=1000000) I;have hpk:=kJ l (1+(i:Int)) 1000000 Ql _ w hl dg I I;generalize vK l (1+(i:Int)) 1000000=k at *;have sz:=hG.sz;have e0:=hG.e0;have e5:=hG.e5;refine rS ?_;iterate 3 refine lv ?_
 refine lc Tryz.func19 hpk ?_;rintro e w' ⟨rfl,rfl⟩;refine ⟨_,rfl,?_⟩;refine lv ?_;refine lE a [0,2,3,4,5] 6 ?_;intro a1 u1 e6;replace hG:=hG.ag u1;clear sz e0 e5 hpk;have sz:=hG.sz;refine rS ?_;iterate 3 refine lv ?_
 have B0:=aw w 60 (k8 0);have hx0:Ext w (w.alloc (qk (k8 0) 60)):=(aq w).alloc' _;have s0:(w.alloc (qk (k8 0) 60)).heap.size=w+1:=by simp
 refine lv (w1:=w.alloc (qk (k8 0) 60)) (v:=qp w) ?_ rfl rfl (by simp [execOp,go_sem]);generalize w.alloc (qk (k8 0) 60)=w1 at *;refine ls (w1:=w1.setCells w 0 (k8 (k % 8)).toList) ?_ rfl rfl (by simp [execOp,go_sem,B0.cell,B0.frozen,sz,e6,World.setCells]);refine lE a1 [0,2,3,4,5,6] 7 ?_;intro a2 u2 e7;have hK:K8 w (w1.setCells w 0 (k8 (k % 8)).toList) w (k8 (k % 8)):=⟨aF (k8 (k % 8)).toList 0 B0 U,((ar (M:=fun _=>False) hx0).setCells _ 0 (.inr (ab _))).ext,rfl,by simpa [World.setCells,World.setCell] using s0⟩;have hG2:G8 a2 vl g2 g3 n i k w.heap.size:=⟨hG.ag u2,u2.get 6 e6,e7⟩;clear sz e6 e7 hx0 s0;refine wp_seq (rS ?_);generalize w1.setCells w 0 (k8 (k % 8)).toList=w2 at *;have e5:=hG2.e5;have e6:=hG2.e6;have e7:=hG2.e7;have sz:=hG2.sz;have hc:=hK.bx.cell;have hf:=hK.bx.frozen
 have go9:∀ a3,Ag [0,2,3,4,5,6,7] a2 a3->qw (R8 9) (Exit.then (Code.wp Tryz.prog c10 (PT vl g2 g3 n i W)) (PT vl g2 g3 n i W)) a3 w2:=by
  intro a3 u3;have hG3:=hG2.ag u3;clear e5 e6 e7 sz;have e6:=hG3.e6;have e7:=hG3.e7;have sz:=hG3.sz;refine rW ?_;iterate 4 refine lv ?_
  refine ls ?_ rfl rfl (by simp [execOp,go_sem, *];rfl);refine lN a3 [0,2,3,4,5,6,7] ?_;intro a4 u4;exact r10 (kk:=k / 8 % 2) (hG3.ag u4) I I I hk hin hn hl (hK.set 0 _) hg3 hF htl hgen hb3 hown hr
 by_cases h2:(i:Int)<2
 ·iterate 3 refine lv ?_
  iterate 3 refine ln ?_
  refine lv ?_;refine lE a2 [0,2,3,4,5,6,7] 32 ?_;intro a3 u3 e32;exact wp_cond_true e32 (go9 a3 u3)
 ·iterate 3 refine lv ?_
  iterate 3 refine ly ?_
  refine lv ?_;refine lE a2 [0,2,3,4,5,6,7] 32 ?_;intro a3 u3 e32;by_cases h5:k % 8=5
  ·exact wp_cond_true (e32.trans (by simp [h5])) (go9 a3 u3)
  ·refine wp_cond_false (e32.trans (by simp [h5])) (wp_skip ?_)
   exact r10 (kk:=k % 8) (hG2.ag u3) I h5 (fun _=>by omega) hk hin hn hl hK hg3 hF htl hgen hb3 hown hr
def PL (vl:Value)(g2 g3 n:Nat)(W:World):Act->World->Prop:=fun a w=>∃ i:Nat,F8 a vl g2 g3 n i∧i<=n∧lR n g3 W (↑(i:Int)) w
theorem Bk {iv:Value}{W:World}(h:lR n g3 W iv w){j:Nat}(e:iv=↑(j:Int)):∃ (t:List GN)(v:Value)(xs:List Value),t=j∧fG t∧Blk w g3 25 #[v]∧w.ownsRow W 60 12 v j xs∧RL (RN w (kq W w v)) t xs∧Fr (fun b=>b=g3) W w:=by
 obtain ⟨i,t,v,xs,h1,h2,h3,h4,h5,h6,h7,h8⟩:=h;rw [e] at h2;injection h2 with _ h2;have:i=j:=by omega
 subst this;exact ⟨t,v,xs,h3,h4,h5,h6,h7,h8⟩
variable {R:Exit->Act->World->Prop}{ws:World}
theorem Hx (hn:n<=14)(hl:bL ws Ql vl l)(hx:Ext ws W)(hg3:g3<W)(hg3':ws<=g3)(h0:PL vl g2 g3 n W a w)
  (hR:∀ a' w',F8 a' vl g2 g3 n n->lR n g3 W (↑(n:Int)) w'->R .normal a' w'):qw (.block 0 (.loop Bu)) R a w:=by
 refine wp_block (wp_loop (PL vl g2 g3 n W) (fun a' _=>n - (intOf (Ev a' (.tmp 5))).toNat) h0 ?_);clear h0;rintro a wr ⟨i,hG,hin,hinv⟩;obtain ⟨t,v,xs,htl,hgen,hB,hown,hr,hF⟩:=Bk hinv rfl;obtain ⟨A3,c3,rfl,-,-,-⟩:=Sl.of_own hown;have sz:=hG.sz;have e4:=hG.e4;have e5:=hG.e5;refine wp_seq (rS ?_);iterate 3 refine lv ?_
 refine lE a [0,2,3,4,5] 16 ?_;intro a1 u1 e16;have hEW:Ext ws wr:=Fr.new_ext ((ar hx).trans hF) (fun b hb=>by omega);by_cases hlt:i<n
 ·refine wp_cond_true (e16.trans bh) (wp_skip (wp_seq (wp_block (wp_mono (r6 (hG.ag u1) hlt hn (hl.ext hEW) hg3 hF htl hgen hB hown hr) ?_))))
  rintro e a' w' ⟨rfl,hF',hinv'⟩;have f5:=hF'.e5;have sz:=hF'.sz;refine rW ?_;iterate 3 refine lv ?_
  refine lE a' [0,2,3,4] 5 ?_;intro a2 u2 f5';refine ⟨⟨i+1,⟨u2.sz.trans sz,u2.df.trans hF'.df,u2.get 0 hF'.e0,u2.get 2 hF'.e2,u2.get 3 hF'.e3,u2.get 4 hF'.e4,f5'⟩,hlt,by simpa using hinv'⟩,?_⟩;rw [f5',e5];simp [intOf];omega
 ·obtain rfl:i=n:=by omega
  exact wp_cond_false (e16.trans U) (wp_exit (hR _ _ (hG.ag u1) hinv))
theorem Mr (hn:n<=14)(hx:Ext ws W)(hg3:g3<W)(hg3':ws<g3)(hb2:Blk W ws 25 #[qn])(hG:F8 a vl ws g3 n n)(hinv:lR n g3 W (↑(n:Int)) w)
  (hQ:∀ a' w' A m c,a'.defers=[]->qq a' 2 (qp ws)->qc w' ws 0 (.slice A m c)->rU ws (.returned (.agg #[.slice A m c])) w'->R .ret a' w'):qw (.seq (R8 41) .ret) R a w:=by
 obtain ⟨t,v,xs,htl,hgen,hB,hown,hr,hF⟩:=Bk hinv rfl;obtain ⟨A3,c3,rfl,-,-,-⟩:=Sl.of_own hown;have hEW:Ext ws w:=Fr.new_ext ((ar hx).trans hF) (fun b hb=>by omega);have b2r:=hb2.fr hF I;have c3':=hB.cell' 0 rfl;have sz:=hG.sz;have e2:=hG.e2;have e3:=hG.e3;refine rS ?_;refine lv ?_;refine ls ?_ rfl rfl (by simp [execOp,go_sem,b2r.cell,b2r.frozen,sz,e2];rfl);refine lE a [] 2 ?_;intro a1 u1 f2;refine wp_ret ?_;have hz:(w.setCell (qp ws) (.slice A3 n c3)).heap.size=w:=by simp [World.setCell]
 have hnd:Nds (w.setCell (qp ws) (.slice A3 n c3)) (fun b=>ws.heap.size<=b∧b<(w.setCell (qp ws) (.slice A3 n c3)).heap.size) (.slice A3 n c3) t:=by
  have hkp:aB (fun b=>W.heap.size<=b) w (w.setCell (qp ws) (.slice A3 n c3)):=aB.set (p:=qp ws) (fun _ _ _=>rfl) _ (by show ¬ W.heap.size<=ws;omega);have h1:Nds w (fun b=>W.heap.size<=b) (.slice A3 n c3) t:=Lst.of_own (hown.len_cast htl.symm rfl) (hr.move qY (fun _ _ _=>rfl) (fun b hb h=>h.1)) (by rw [htl];omega) (fun b hb=>hown.block_ge hb);exact h1.carry hkp (fun b hb h=>⟨I,I⟩)
 exact hQ _ _ _ _ _ (u1.df.trans hG.df) f2 ((b2r.set_ 0 (.slice A3 n c3)).cell' 0 rfl) ⟨A3,c3,t,by rw [htl],by rw [htl];exact hnd,hgen,I,hEW.setCell' (p:=qp ws) (ab _) _⟩
theorem DC (hl:bL w Ql vl l)(sz:a.tmps.size=181)(e0:qq a 0 vl)(hdf:a.defers=[])
  (hQ:∀ a' w' A n c,a'.defers=[]->qq a' 2 (qp w)->qc w' w 0 (.slice A n c)->rU w (.returned (.agg #[.slice A n c])) w'->R .ret a' w'):qw ui R a w:=by
 have b2:=aw w 25 #[qn];have x1:Ext w (w.alloc (qk #[qn] 25)):=(aq w).alloc' _;have s1:(w.alloc (qk #[qn] 25)).heap.size=w.heap.size+1:=by simp
 refine rS ?_;refine lv ?_;refine lE a [0] 2 ?_;intro a1 u1 e2;generalize w.alloc (qk #[qn] 25)=w1 at *;have b3:=az w1 25 #[qn] s1.symm;replace b2:=b2.alloc (qk #[qn] 25);replace x1:=x1.alloc' (qk #[qn] 25);have s2:(w1.alloc (qk #[qn] 25)).heap.size=w.heap.size+2:=by simp [s1]
 have sz1:=u1.sz.trans sz;refine rS ?_;iterate 2 refine lv ?_
 generalize w1.alloc (qk #[qn] 25)=w2 at *;refine ls ?_ rfl rfl (by simp [execOp,go_sem,b3.cell,b3.frozen,sz1];rfl);refine lE a1 [0,2] 3 ?_;intro a2 u2 e3;replace b2:=b2.far (p:=qp (w+1)) U qn;replace b3:=b3.set_ 0 qn;replace x1:Ext w (w2.setCell (qp (w+1)) qn):=x1.setCell' (p:=qp (w+1)) U _;replace s2:(w2.setCell (qp (w+1)) qn).heap.size=w+2:=by simpa [World.setCell] using s2
 have hn:=kI (l:=l) (i:=0) (m:=15) I;refine rS ?_;generalize w2.setCell (qp (w+1)) qn=W at *;have hpk:=kJ l 0 15 Ql _ W (hl.ext x1) dg I I;obtain ⟨n,hnn⟩:∃ n:Nat,vK l 0 15=(n:Int):=⟨(vK l 0 15).toNat,I⟩;rw [hnn] at hpk hn;have sz2:=u2.sz.trans sz1;have f0:=u2.get 0 (u1.get 0 e0);refine lv ?_;refine lc Tryz.func19 hpk ?_;rintro e w' ⟨rfl,rfl⟩;refine ⟨_,rfl,?_⟩;refine lv ?_;refine lE a2 [0,2,3] 4 ?_;intro a3 u3 e4;have sz3:=u3.sz.trans sz2;refine wp_seq (rS ?_);refine lv ?_;refine lE a3 [0,2,3,4] 5 ?_;intro a4 u4 e5;refine Hx (W:=W) (g2:=w.heap.size) (g3:=w.heap.size+1) (n:=n) I hl x1 I I ⟨0,⟨u4.sz.trans sz3,u4.df.trans (u3.df.trans (u2.df.trans (u1.df.trans hdf))),u4.get 0 (u3.get 0 f0),u4.get 2 (u3.get 2 (u2.get 2 e2)),u4.get 3 (u3.get 3 e3),u4.get 4 e4,e5⟩,af _,⟨0,[],↑qn,[],af _,rfl,rfl,fG.nil,b3,aT _ _ _ _,gh,au _ _⟩⟩ ?_;intro a' w' hF hinv;exact Mr I x1 I I b2 hF hinv hQ
end
end
theorem Cq (l:List Int)(Q:Nat->Prop)(vl:Value)(w:World)(hl:bL w Q vl l):qg 4 #[vl] w (rU w):=by
 refine calls_of_wp Tryz.func4 Gn (DC hl ?_ ?_ rfl ?_)
 ·simp [Tryz.ntmps4]
 ·simp [Ev,Act.eval]
 ·intro a' w' A n c h1 h2 h3 h4
  refine bodyPost_ret (v:=.agg #[.slice A n c]) ?_ h1 h4;have h5:a'.tmps[2]?.getD undef=↑(qp w):=by rw [<- h2];simp [Ev,Act.eval]
  simp [results,Tryz.results4,go_sem,h5,h3]
