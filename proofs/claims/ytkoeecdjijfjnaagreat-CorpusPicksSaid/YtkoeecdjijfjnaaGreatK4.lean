/- Contracts of functions. Conditions: none. -/
import Derived.BigGuardPart
import Derived.Deep.RegionLaw
import Derived.Laws.IdiomCopy
import Derived.Lib.Overlaps
import Derived.Lib.AppendZerosOnto
import Derived.Laws.Externs
import Derived.Test.YtkoeecdjijfjnaaGreatJ1
import Derived.Test.YtkoeecdjijfjnaaGreatH5
set_option maxRecDepth 100000
set_option maxHeartbeats 8000000
namespace Go.Proofs.YtkoeecdjijfjnaaGreat
open Go.RowKit
theorem aGj (t:List GN)(vn:Value)(gw gs gl gf:Nat)(P:Nat->Prop)(w:World)(h:jY t vn gw gs gl gf P w)(htl:t.length<=100000) :
  Calls Tryz.prog 100 #[.pointer (some ⟨gw,0,none⟩)] w fun e w'=>e=.returned (.int .i64 ((t.length:Int) - 1))∧w=w':=by
 have c0:=h.box.cell' (u:=.pointer (some ⟨gs,0,none⟩)) 0 rfl;have c1:=h.sets;obtain ⟨An,cn,en,hn1,hn2⟩:=h.nodes.form;subst en;clear h;go_enter Tryz.func100,Tryz.ntmps100;go_wp2_with fail;go_ret;exact ⟨rfl,rfl⟩
def aI8 (r:GF)(w:World)(e:Ending)(w':World):Prop:=∃ A c,e=.returned (.tuple #[eF r.val A c,↑r.at_,.bool r.good])∧VAt w' (fun _=>True) r.val A c∧Ext w w'
structure aU7 (w W:World)(gw:Nat)(vp:Value):Prop where
 b0:Blk W w.heap.size 91 #[.pointer (some ⟨gw,0,none⟩)]
 b1:Blk W (w.heap.size+1) 22 #[vp]
 b2:Blk W (w.heap.size+1+1) 85 #[.int .i64 0,.int .i64 0,.string ⟨#[]⟩,.slice none 0 0]
 b3:Blk W (w.heap.size+1+1+1) 3 #[.int .i64 0]
 b4:Blk W (w.heap.size+1+1+1+1) 4 #[.bool true]
 ext:Ext w W
 sz:W.heap.size=w.heap.size+5
theorem aJq (w:World)(gw:Nat)(vp:Value):aU7 w (((((w.alloc (.cells #[.pointer (some ⟨gw,0,none⟩)] 91)).alloc (.cells #[vp] 22)).alloc (.cells #[.int .i64 0,.int .i64 0,.string ⟨#[]⟩,.slice none 0 0] 85)).alloc (.cells #[.int .i64 0] 3)).alloc (.cells #[.bool true] 4)) gw vp :=
 ⟨((((Blk.new w 91 _).alloc _).alloc _).alloc _).alloc _,(((Blk.new' (w.alloc _) 22 _ Y).alloc _).alloc _).alloc _,((Blk.new' ((w.alloc _).alloc _) 85 _ Y).alloc _).alloc _,(Blk.new' (((w.alloc _).alloc _).alloc _) 3 _ Y).alloc _,Blk.new' ((((w.alloc _).alloc _).alloc _).alloc _) 4 _ Y,(((((Ext.refl w).alloc' _).alloc' _).alloc' _).alloc' _).alloc' _,Y⟩
def vfa (gw gs gl gf B:Nat):FA:=⟨gw,gs,gl,gf,B+1,B,B+1+1+1,B+1+1+1+1,fun b=>b=B+1+1⟩
theorem aGc {t:List GN}{path:List Int}{vn vp:Value}{gw gs gl gf:Nat}{P Pp:Nat->Prop}{w W:World}(h:jY t vn gw gs gl gf P w)(hp:aU w Pp vp path)(hW:aU7 w W gw vp):aC2 t path vn vp (vfa gw gs gl gf w.heap.size) W∧FSt (vfa gw gs gl gf w.heap.size) 0 true W:=by
 have hQ:∀ b,b<w.heap.size->(vfa gw gs gl gf w.heap.size).Q b:=fun b hb=>⟨fun h=>by rcases h with h | h <;> (simp only [vfa] at h;omega),fun h=>by simp only [vfa] at h;omega⟩
 refine ⟨⟨h.carry (aB.of_ext hW.ext) (fun b hb _=>hQ b hb),hW.b1.cell' 0 rfl,hW.b0.cell' 0 rfl,hp.carry (aB.of_ext hW.ext) (fun b hb _=>hQ b hb),?_,?_,?_,?_⟩,hW.b3,hW.b4⟩
 ·exact ⟨fun h=>by rcases h with h | h <;> (simp only [vfa] at h;omega),fun h=>by simp only [vfa] at h;omega⟩
 ·exact ⟨fun h=>by rcases h with h | h <;> (simp only [vfa] at h;omega),fun h=>by simp only [vfa] at h;omega⟩
 ·simp only [vfa];omega
 ·intro b hb
  simp only [vfa] at hb;have:=hW.sz;omega
theorem sK (t:List GN)(path:List Int)(vn vp:Value)(gw gs gl gf i:Nat)(P Pp:Nat->Prop)(w:World)(h:jY t vn gw gs gl gf P w)(hp:aU w Pp vp path)(hg:bD t t.length)(hi:i<t.length)(hpl:path.length<=1000000) :
  Calls Tryz.prog 101 #[.pointer (some ⟨gw,0,none⟩),↑i,vp] w (aI8 (iM t path t.length i 0 true) w):=by
 have HH:=aYl h;have HPP:=aYl hp;have HG:=aYl hg;obtain ⟨Ap,cp,ep,hp1,hp2⟩:=hp.form;subst ep;clear h hp hg;go_enter Tryz.func101,Tryz.ntmps101;go_wp2_with fail;have HW:=aYl (aJq w gw (.slice Ap path.length cp));generalize ((((w.alloc (.cells #[.pointer (some ⟨gw,0,none⟩)] 91)).alloc (.cells #[.slice Ap path.length cp] 22)).alloc (.cells #[.int .i64 0,.int .i64 0,.string ⟨#[]⟩,.slice none 0 0] 85)).alloc (.cells #[.int .i64 0] 3)).alloc (.cells #[.bool true] 4)=W at *;have HEV:=aYl (aGc HH.out HPP.out HW.out);refine (aCg t path vn _ HG.out hpl t.length (vfa gw gs gl gf w.heap.size) i 0 true W hi hi HEV.out.1 HEV.out.2 U U).mono ?_;rintro e wu ⟨A2,d2,rfl,hv2,hfu,hsu⟩;have hX:Ext w wu:=((Fr.of_ext (M:=fun b=>w.heap.size<=b) HW.out.ext).trans (hfu.mono (fun b hb=>by rcases hb with hb | hb <;> (simp only [vfa] at hb;omega)))).new_ext (fun b hb=>hb);have hB2:=HW.out.b2.fr hfu (fun hb=>by rcases hb with hb | hb <;> (simp only [vfa] at hb;omega));generalize iM t path t.length (i:Int) 0 true=rr at *;obtain ⟨y,at2,gd2⟩:=rr;simp only at hv2 hsu;have ca:wu.cell? ⟨w.heap.size+1+1+1,0,none⟩=some (↑at2):=hsu.1.cell' 0 rfl;have cg:wu.cell? ⟨w.heap.size+1+1+1+1,0,none⟩=some (.bool gd2):=hsu.2.cell' 0 rfl
 have lg:=aQ cg;have HV2:=aYl hv2;have HXU:=aYl hX;have HBR:=aYl hB2;clear hv2 hfu hsu hX hB2;go_wp2_with fail;have HXQ:=aYl ((Ext.refl wu).alloc' (.cells #[↑y.kind,↑y.n,.string y.s,.slice A2 y.kids.length d2] 85));have HBQ:=aYl (Blk.new wu 85 #[↑y.kind,↑y.n,.string y.s,.slice A2 y.kids.length d2]);generalize wu.alloc (.cells #[↑y.kind,↑y.n,.string y.s,.slice A2 y.kids.length d2] 85)=Wq at *;obtain ⟨y0,y1,y2,y3⟩:=aS HBQ.out;have ea:=aA HXQ.out ca;have eg:=aA HXQ.out cg;have hBQ:=HBR.out.ext HXQ.out;obtain ⟨r0,r1,r2,r3⟩:=aS hBQ;have f0:=hBQ.frozen 0;have f1:=hBQ.frozen 1;have f2:=hBQ.frozen 2;have f3:=hBQ.frozen 3;have HRQ:=aYl hBQ;have n1:¬ wu.heap.size=w.heap.size+1+1:=by omega
 have n2:¬ w.heap.size+1+1+1=w.heap.size+1+1:=U
 have n3:¬ w.heap.size+1+1+1+1=w.heap.size+1+1:=U
 clear hBQ ca cg
 go_region_held3 (fun w'=>w'.cell? ⟨wu.heap.size,0,none⟩=some (.int .i64 y.kind)∧w'.cell? ⟨wu.heap.size,1,none⟩=some (.int .i64 y.n)∧w'.cell? ⟨wu.heap.size,2,none⟩=some (.string y.s)∧w'.cell? ⟨wu.heap.size,3,none⟩=some (.slice A2 y.kids.length d2)∧w'.cell? ⟨w.heap.size+1+1+1,0,none⟩=some (.int .i64 at2)∧w'.cell? ⟨w.heap.size+1+1+1+1,0,none⟩=some (.bool gd2))
  (first
   | with_reducible exact ⟨cE n1 y0,cE n1 y1,cE n1 y2,cE n1 y3,cE n2 ea,cE n3 eg⟩
   | with_reducible exact ⟨cP n1 y0,cP n1 y1,cP n1 y2,cP n1 y3,cP n2 ea,cP n3 eg⟩
   | go_keep)
  (first
   | fail)
 go_wp2_with fail;clear r0 r1 r2 r3;have hb:=aJ (cellsOf y A2 d2) (cs:=[.int .i64 0,.int .i64 0,.string ⟨#[]⟩,.slice none 0 0]) 0 HRQ.out (by simp [cellsOf]);have e:(([.int .i64 0,.int .i64 0,.string ⟨#[]⟩,.slice none 0 0]:List Value).take 0 ++ cellsOf y A2 d2 ++ ([.int .i64 0,.int .i64 0,.string ⟨#[]⟩,.slice none 0 0]:List Value).drop (0+(cellsOf y A2 d2).length)).toArray=(cellsOf y A2 d2).toArray:=by simp [cellsOf]
 rw [e] at hb;have z0:=hb.cell' (u:=↑y.kind) 0 rfl;have z1:=hb.cell' (u:=↑y.n) 1 rfl;have z2:=hb.cell' (u:=.string y.s) 2 rfl;have z3:=hb.cell' (u:=.slice A2 y.kids.length d2) 3 rfl;have hXF:Ext w (Wq.setCells (w.heap.size+1+1) 0 (cellsOf y A2 d2)):=((Fr.of_ext (M:=fun _=>False) (HXU.out.trans' HXQ.out)).setCells _ 0 (.inr U)).ext;have hVF:VAt (Wq.setCells (w.heap.size+1+1) 0 (cellsOf y A2 d2)) (fun _=>True) y A2 d2:=(HV2.out.ext HXQ.out).carry (aB.setCells (fun h=>h.2 rfl) _ 0 (fun _ _ _=>rfl)) (fun _ _ _=>trivial);have hgen:(((Wq.setCell ⟨w.heap.size+1+1,0,none⟩ (↑y.kind)).setCell ⟨w.heap.size+1+1,1,none⟩ (↑y.n)).setCell ⟨w.heap.size+1+1,2,none⟩ (.string y.s)).setCell ⟨w.heap.size+1+1,3,none⟩ (.slice A2 y.kids.length d2)=Wq.setCells (w.heap.size+1+1) 0 (cellsOf y A2 d2):=rfl;rw [hgen];generalize Wq.setCells (w.heap.size+1+1) 0 (cellsOf y A2 d2)=WF at *;exact bodyPost_ret (v:=.tuple #[eF y A2 d2,↑at2,.bool gd2]) (by simp [results,Tryz.results101,go_sem,z0,z1,z2,z3]) rfl ⟨A2,d2,rfl,hVF.ext (Ext.refl _).drew',hXF.drew'⟩
def aH9 (b:Bool)(w:World)(e:Ending)(w':World):Prop:=∃ (y:GV)(A:Option Addr)(c:Nat),e=.returned (.tuple #[eF y A c,.bool b])∧Ext w w'
theorem aC6 (t:List GN)(path:List Int)(vn vp:Value)(gw gs gl gf:Nat)(P Pp:Nat->Prop)(w:World)(h:jY t vn gw gs gl gf P w)(hp:aU w Pp vp path)(hg:bD t t.length)(hpl:path.length<=1000000) :
  Calls Tryz.prog 47 #[.pointer (some ⟨gw,0,none⟩),vp] w (aH9 (aO t path) w):=by
 have htl:t.length<=4096:=hg.2.1;have HRT:=aYl (show ∀ W,Ext w W->Calls Tryz.prog 100 #[.pointer (some ⟨gw,0,none⟩)] W fun e w'=>e=.returned (.int .i64 ((t.length:Int) - 1))∧W=w' from fun W hx=>aGj t vn gw gs gl gf P W (h.carry (aB.of_ext hx) (fun _ _ h=>h)) U);have HWB:=aYl (show aO t path=(decide (0<t.length) && (iM t path t.length ((t.length:Int) - 1) 0 true).good && decide ((iM t path t.length ((t.length:Int) - 1) 0 true).at_=path.length)) from rfl);obtain ⟨Ap,cp,ep,hp1,hp2⟩:=hp.form;subst ep
 by_cases h0:t.length=0
 ·have HF:=aYl (show aO t path=false by rw [HWB.out,aYp U];rfl)
  have HZ:=aYl (show ((t.length:Int) - 1)=-1 by omega);rw [HZ.out] at HRT;clear h hp hg h0;go_enter Tryz.func47,Tryz.ntmps47;go_wp2_with fail;have HX:=aYl ((Ext.refl w).alloc' (.cells #[.int .i64 0,.int .i64 0,.string ⟨#[]⟩,.slice none 0 0] 85));have HB:=aYl (Blk.new w 85 #[.int .i64 0,.int .i64 0,.string ⟨#[]⟩,.slice none 0 0]);generalize w.alloc (.cells #[.int .i64 0,.int .i64 0,.string ⟨#[]⟩,.slice none 0 0] 85)=W at *;obtain ⟨r0,r1,r2,r3⟩:=aS HB.out;have f0:=HB.out.frozen 0;have f1:=HB.out.frozen 1;have f2:=HB.out.frozen 2;have f3:=HB.out.frozen 3;refine (HRT.out W HX.out).mono ?_;rintro e w1 ⟨rfl,rfl⟩;go_wp2_with fail;have hb:=aJ [.int .i64 0,.int .i64 0,.string ⟨#[]⟩,.slice none 0 0] (cs:=[.int .i64 0,.int .i64 0,.string ⟨#[]⟩,.slice none 0 0]) 0 HB.out Y;have z0:=hb.cell' (u:=.int .i64 0) 0 rfl;have z1:=hb.cell' (u:=.int .i64 0) 1 rfl;have z2:=hb.cell' (u:=.string ⟨#[]⟩) 2 rfl;have z3:=hb.cell' (u:=.slice none 0 0) 3 rfl;have hXF:Ext w (W.setCells w.heap.size 0 [.int .i64 0,.int .i64 0,.string ⟨#[]⟩,.slice none 0 0]):=((Fr.of_ext (M:=fun _=>False) HX.out).setCells _ 0 (.inr (Nat.le_refl _))).ext;have hgen:(((W.setCell ⟨w.heap.size,0,none⟩ (.int .i64 0)).setCell ⟨w.heap.size,1,none⟩ (.int .i64 0)).setCell ⟨w.heap.size,2,none⟩ (.string ⟨#[]⟩)).setCell ⟨w.heap.size,3,none⟩ (.slice none 0 0)=W.setCells w.heap.size 0 [.int .i64 0,.int .i64 0,.string ⟨#[]⟩,.slice none 0 0]:=rfl
  rw [hgen];generalize W.setCells w.heap.size 0 [.int .i64 0,.int .i64 0,.string ⟨#[]⟩,.slice none 0 0]=WF at *;exact bodyPost_ret (v:=.tuple #[eF (.mk 0 0 ⟨#[]⟩ []) none 0,.bool false]) (by simp [results,Tryz.results47,go_sem,z0,z1,z2,z3];exact ⟨rfl,rfl,rfl,rfl⟩) rfl ⟨.mk 0 0 ⟨#[]⟩ [],none,0,by rw [HF.out],hXF⟩
 ·obtain ⟨n,hn⟩:∃ n:Nat,t.length=n+1:=⟨t.length - 1,U⟩
  have HZ:=aYl (show ((t.length:Int) - 1)=(n:Int) by omega);rw [HZ.out] at HRT HWB;have HVA:=aYl (show ∀ W,Ext w W->Calls Tryz.prog 101 #[.pointer (some ⟨gw,0,none⟩),↑n,.slice Ap path.length cp] W (aI8 (iM t path t.length n 0 true) W) from fun W hx=>sK t path vn _ gw gs gl gf n P Pp W (h.carry (aB.of_ext hx) (fun _ _ h=>h)) (hp.ext hx) hg U hpl);have HF:=aYl (show aO t path=((iM t path t.length (n:Int) 0 true).good && decide ((iM t path t.length (n:Int) 0 true).at_=path.length)) by rw [HWB.out,aYo U];simp);generalize iM t path t.length (n:Int) 0 true=rr at *;obtain ⟨y,at2,gd2⟩:=rr;simp only at HF;clear h hp hg h0 hn;go_enter Tryz.func47,Tryz.ntmps47;go_wp2_with fail;have HX:=aYl ((Ext.refl w).alloc' (.cells #[.int .i64 0,.int .i64 0,.string ⟨#[]⟩,.slice none 0 0] 85));have HB:=aYl (Blk.new w 85 #[.int .i64 0,.int .i64 0,.string ⟨#[]⟩,.slice none 0 0]);generalize w.alloc (.cells #[.int .i64 0,.int .i64 0,.string ⟨#[]⟩,.slice none 0 0] 85)=W at *;refine (HRT.out W HX.out).mono ?_;rintro e w1 ⟨rfl,rfl⟩;go_wp2_with fail;refine (HRT.out W HX.out).mono ?_;rintro e w1 ⟨rfl,rfl⟩;go_wp2_with fail;refine (HVA.out W HX.out).mono ?_;rintro e w2 ⟨A2,d2,rfl,hv2,hx2⟩;have hB2:=HB.out.ext hx2
  obtain ⟨r0,r1,r2,r3⟩:=aS hB2;have f0:=hB2.frozen 0;have f1:=hB2.frozen 1;have f2:=hB2.frozen 2;have f3:=hB2.frozen 3;have lr:=hB2.lt;have HB2:=aYl hB2;have HX2:=aYl (HX.out.trans' hx2);clear hB2 hx2 hv2
  cases gd2
  ·have HF2:=aYl (show aO t path=false by rw [HF.out];rfl)
   go_wp2_with fail;have hb:=aJ (cellsOf y A2 d2) (cs:=[.int .i64 0,.int .i64 0,.string ⟨#[]⟩,.slice none 0 0]) 0 HB2.out (by simp [cellsOf]);have z0:=(hb.alloc (.cells #[↑y.kind,↑y.n,.string y.s,.slice A2 y.kids.length d2] 85)).cell' (u:=↑y.kind) 0 rfl;have z1:=(hb.alloc (.cells #[↑y.kind,↑y.n,.string y.s,.slice A2 y.kids.length d2] 85)).cell' (u:=↑y.n) 1 rfl;have z2:=(hb.alloc (.cells #[↑y.kind,↑y.n,.string y.s,.slice A2 y.kids.length d2] 85)).cell' (u:=.string y.s) 2 rfl;have z3:=(hb.alloc (.cells #[↑y.kind,↑y.n,.string y.s,.slice A2 y.kids.length d2] 85)).cell' (u:=.slice A2 y.kids.length d2) 3 rfl;have hXF:Ext w (w2.setCells w.heap.size 0 (cellsOf y A2 d2)):=((Fr.of_ext (M:=fun _=>False) HX2.out).setCells _ 0 (.inr (Nat.le_refl _))).ext;have hgen:(((w2.setCell ⟨w.heap.size,0,none⟩ (↑y.kind)).setCell ⟨w.heap.size,1,none⟩ (↑y.n)).setCell ⟨w.heap.size,2,none⟩ (.string y.s)).setCell ⟨w.heap.size,3,none⟩ (.slice A2 y.kids.length d2)=w2.setCells w.heap.size 0 (cellsOf y A2 d2):=rfl;rw [hgen];generalize w2.setCells w.heap.size 0 (cellsOf y A2 d2)=WF at *;exact bodyPost_ret (v:=.tuple #[eF y A2 d2,.bool false]) (by simp [results,Tryz.results47,go_sem,z0,z1,z2,z3]) rfl ⟨y,A2,d2,by rw [HF2.out],hXF.alloc' _⟩
  ·have HF2:=aYl (show aO t path=decide (at2=path.length) by rw [HF.out];rfl)
   obtain ⟨bb,hbb⟩:∃ bb,bb=(at2 == (path.length:Int)):=⟨_,rfl⟩;have tb:(at2 == (path.length:Int))=bb:=hbb.symm;have HBB:=aYl (show aO t path=bb by rw [HF2.out,hbb];rfl);clear hbb;go_wp2_with fail;have hb:=aJ (cellsOf y A2 d2) (cs:=[.int .i64 0,.int .i64 0,.string ⟨#[]⟩,.slice none 0 0]) 0 HB2.out (by simp [cellsOf]);have z0:=(hb.alloc (.cells #[↑y.kind,↑y.n,.string y.s,.slice A2 y.kids.length d2] 85)).cell' (u:=↑y.kind) 0 rfl;have z1:=(hb.alloc (.cells #[↑y.kind,↑y.n,.string y.s,.slice A2 y.kids.length d2] 85)).cell' (u:=↑y.n) 1 rfl;have z2:=(hb.alloc (.cells #[↑y.kind,↑y.n,.string y.s,.slice A2 y.kids.length d2] 85)).cell' (u:=.string y.s) 2 rfl;have z3:=(hb.alloc (.cells #[↑y.kind,↑y.n,.string y.s,.slice A2 y.kids.length d2] 85)).cell' (u:=.slice A2 y.kids.length d2) 3 rfl;have hXF:Ext w (w2.setCells w.heap.size 0 (cellsOf y A2 d2)):=((Fr.of_ext (M:=fun _=>False) HX2.out).setCells _ 0 (.inr (Nat.le_refl _))).ext;have hgen:(((w2.setCell ⟨w.heap.size,0,none⟩ (↑y.kind)).setCell ⟨w.heap.size,1,none⟩ (↑y.n)).setCell ⟨w.heap.size,2,none⟩ (.string y.s)).setCell ⟨w.heap.size,3,none⟩ (.slice A2 y.kids.length d2)=w2.setCells w.heap.size 0 (cellsOf y A2 d2):=rfl
   rw [hgen];generalize w2.setCells w.heap.size 0 (cellsOf y A2 d2)=WF at *;exact bodyPost_ret (v:=.tuple #[eF y A2 d2,.bool bb]) (by simp [results,Tryz.results47,go_sem,z0,z1,z2,z3]) rfl ⟨y,A2,d2,by rw [HBB.out],hXF.alloc' _⟩
structure CA where
 c:Nat
 w:Nat
 s:Nat
 l:Nat
 f:Nat
structure dO (t:List GN)(vn:Value)(b:Int)(L:List GE)(g:CA)(P:Nat->Prop)(ve:Value)(w:World):Prop where
 box:Blk w g.c 95 #[vn,.pointer (some ⟨g.w,0,none⟩),↑b,ve]
 walk:jY t vn g.w g.s g.l g.f P w
 own:∃ xs,w.ownsRow 0 102 6 ve L.length xs∧RL (REn w P) L xs
 excl:∀ k,P k->k ≠ g.c∧some k ≠ ve.ownBlock
 ne:some g.c ≠ ve.ownBlock
 inc:uW L
 bI:0<=b∧b<=1099511627776
 few:L.length<=100000
 short:∀ e ∈ L,e.path.length<=1000
 good:bD t t.length
def CA.M (g:CA)(ve:Value):Nat->Prop:=fun k=>k=g.c∨some k=ve.ownBlock
section
variable {t:List GN}{vn:Value}{b:Int}{L:List GE}{g:CA}{P Q:Nat->Prop}{ve:Value}{w w':World}
theorem dO.carry (h:dO t vn b L g P ve w)(hk:aB (fun k=>P k∨g.M ve k) w w')(hPQ:∀ k,k<w.heap.size->P k->Q k)(hQ:∀ k,Q k->k ≠ g.c∧some k ≠ ve.ownBlock):dO t vn b L g Q ve w':=by
 obtain ⟨xs,h1,h2⟩:=h.own;have hkP:aB P w w':=fun k hk' hp=>hk k hk' (.inl hp)
 refine ⟨(hk _ h.box.lt (.inr (.inl rfl))).trans h.box,h.walk.carry hkP hPQ,⟨xs,⟨h1.1,?_⟩,h2.move fP hkP hPQ⟩,hQ,h.ne,h.inc,h.bI,h.few,h.short,h.good⟩;rcases h1.2 with h3 | ⟨g',cap,cur,h4,h5,h6,h7⟩
 ·exact .inl h3
 ·exact .inr ⟨g',cap,cur,h4,h5,(hk g' (Blk.lt (t:=102) h6) (.inr (.inr (by rw [h4];rfl)))).trans h6,h7⟩
theorem dO.ext (h:dO t vn b L g P ve w)(hx:Ext w w'):dO t vn b L g P ve w':=h.carry (aB.of_ext hx) (fun _ _ h=>h) h.excl
theorem dO.ens (h:dO t vn b L g P ve w):Ens w (fun k=>P k∨some k=ve.ownBlock) ve L:=by
 obtain ⟨xs,h1,h2⟩:=h.own;exact Lst.of_own h1 (h2.move fP (fun _ _ _=>rfl) (fun _ _ h=>.inl h)) (by have:=h.few;omega) (fun k hk=>.inr hk.symm)
theorem dO.cell3 (h:dO t vn b L g P ve w):w.cell? ⟨g.c,3,none⟩=some ve:=h.box.cell' 3 rfl
end
def aQ7 (L:List GE)(W:World)(n i:Value)(wr:World):Prop:=∃ (k:Nat)(s:Int),k<=L.length∧i=↑k∧n=↑s∧Ext W wr∧0<=s∧s<=1002*k∧s+dF (L.drop k)=dF L
theorem xF (t:List GN)(vn:Value)(b:Int)(L:List GE)(g:CA)(P:Nat->Prop)(ve:Value)(w:World)(h:dO t vn b L g P ve w):Calls Tryz.prog 15 #[.pointer (some ⟨g.c,0,none⟩)] w (dV (.int .i64 (dF L)) w):=by
 have HE:=aYl h.ens;have c3:=h.cell3;have HSH:=aYl h.short;have hfw:=h.few;obtain ⟨Al,cl,el,h1,h2⟩:=Lst.form h.ens;subst el;clear h;go_enter Tryz.func15,Tryz.ntmps15;go_wp2_with fail;go_loopw [3,11] (fun n i wr=>aQ7 L w n i wr) (fun _ i _=>L.length - (intOf i).toNat)
 case atStart=>exact ⟨0,0,Nat.zero_le _,rfl,rfl,Ext.refl _,Int.le_refl _,U,Y⟩
 case round =>
  obtain ⟨k,s,hk,rfl,rfl,hx,s0,s1,hs⟩:=hrel;have HX:=aYl hx;have HS:=aYl hs;clear hx hs
  by_cases hlt:k<L.length
  ·obtain ⟨b1,o1,A1,d1,rfl,-,hv1,hgc⟩:=(HE.out.ext HX.out).get hlt
   have hpl:=HSH.out _ (aF (d:=default) hlt);have HD:=aYl (show s+(wE (L.getD k default)+dF (L.drop (k+1)))=dF L by rw [<- HS.out,aG default hlt];rfl);generalize L.getD k default=y at *;have g10:=hgc 0 _ rfl;have g11:=hgc 1 _ rfl;have g12:=hgc 2 _ rfl;have g13:=hgc 3 _ rfl;have g14:=hgc 4 _ rfl;have g15:=hgc 5 _ rfl;rw [Nat.add_zero] at g10;have hle:=hv1.path.le;clear hgc hv1;go_wp2_with fail;refine (aBp y A1 d1 _ U hle.2.2 hle.1).mono ?_;rintro e w2 ⟨rfl,hx2⟩;have HX2:=aYl (HX.out.trans' (((Ext.refl _).alloc' _).trans' hx2));have hw1:wE y=2+(y.path.length:Int):=rfl;have hw2:0<=wE y:=by omega
   have hw3:wE y<=1002:=U
   clear hx2 hw1;generalize wE y=wy at *;go_wp2_with fail;go_roundw
   case rel=>exact ⟨k+1,s+wy,U,by go_num,rfl,HX2.out,U,U,by have:=HD.out;omega⟩
   case measure=>simp [intOf];omega
  ·have HF:=aYl (show dF L=s by have:=HS.out;rw [drop_nil U] at this;simp [dF] at this;omega)
   go_wp2_with fail;go_ret;exact ⟨aH HF.out.symm,HX.out⟩
theorem zB (t:List GN)(vn:Value)(b:Int)(L:List GE)(g:CA)(P Pp:Nat->Prop)(ve vp:Value)(path:List Int)(w:World)(h:dO t vn b L g P ve w)(hp:aU w Pp vp path):Calls Tryz.prog 19 #[.pointer (some ⟨g.c,0,none⟩),vp] w (dV (.bool (fT path L)) w):=by
 obtain ⟨Ap,cp,ep,hp1,hp2⟩:=hp.form;subst ep;have c3:=h.cell3;have hfw:=h.few;have hz:I64 0:=by unfold I64;omega
 have HC:=aYl (wB L ⟨path,0,0,0,false,0⟩ Ap cp _ Pp ve w h.ens ⟨hp,hz,hz,hz,hz⟩ h.inc U);obtain ⟨Al,cl,el,h1,h2⟩:=Lst.form h.ens;subst el;clear h hp;simp only at HC;generalize bB path L=fi at *;generalize fT path L=hb at *;go_enter Tryz.func19,Tryz.ntmps19;go_wp2_with fail;refine HC.out.mono ?_;rintro e w1 ⟨rfl,hx1⟩;have HX1:=aYl hx1;clear hx1;go_wp2_with fail;go_ret;exact ⟨rfl,HX1.out⟩
theorem Tryz.info102:(Tryz.prog.info? 102).map (fun i=>(i.zero,i.size,i.bytes))=some (some (.agg #[.slice none 0 0,.int .i64 0,.int .i64 0,.int .i64 0,.bool false,.int .i64 0]),6,64):=aa
def zE:List Value:=[.slice none 0 0,.int .i64 0,.int .i64 0,.int .i64 0,.bool false,.int .i64 0]
section
variable {P:Program}
theorem uY (w:World){o:Oper}{a:Act}{K:Act->World->Prop}{Q:Exit->Act->World->Prop}(s:Operand)(t:TypeId)
  (ho:o.op=.call { callee:=.builtin .clear,args:=#[s],argTypes:=#[t] })(v:Value)(hd:a.eval s=v){v':Value}{w':World}
  (hr:(Builtin.clear_ #[t] o.type #[v]).run P w=.ok v' w')(h:K (a.put o.dst v') w'):o.wp P a w K Q:=by
 unfold Oper.wp execOp;simp only [ho,resolve,invoke,builtin,Sem.run_bind,Sem.run_pure,Result.andThen_ok,List.map_toArray,List.map_cons,List.map_nil,hd,hr];exact h
theorem jA (w:World){ops:Array Oper}{rest:List Oper}{o:Oper}{a:Act}{Q:Exit->Act->World->Prop}(hgd:o.guard=none)(s:Operand)(t:TypeId)
  (ho:o.op=.call { callee:=.builtin .clear,args:=#[s],argTypes:=#[t] })(v:Value)(hd:a.eval s=v){v':Value}{w':World}
  (hr:(Builtin.clear_ #[t] o.type #[v]).run P w=.ok v' w')(h:wpList P ops Q rest (a.put o.dst v') w'):wpList P ops Q (o :: rest) a w :=
 wpList_plain hgd fun _ hK=>uY w s t ho v hd hr (hK _ _ h)
end
theorem rK (w:World)(ty:TypeId)(g o c:Nat)(cs:List Value)(hB:Blk w g 102 cs.toArray)(ho:o+6<=cs.length) :
  (Builtin.clear_ #[93] ty #[.slice (some ⟨g,o,none⟩) 1 c]).run Tryz.prog w=.ok (.tuple #[]) (w.setCells g o zE):=by
 obtain ⟨i0,hi,hz0,hz1,hz2⟩:=info_parts Tryz.info102;have hst:=run_storeCells_cells (P:=Tryz.prog) g o zE 0 w (fun j hj=>by simp only [zE,List.length_cons,List.length_nil] at hj;rw [Nat.add_zero,hB.cell];simp;omega) (fun j hj=>by rw [Nat.add_zero];exact hB.frozen _) (by intro v hv;simp only [zE,List.mem_cons,List.not_mem_nil,or_false] at hv;rcases hv with rfl | rfl | rfl | rfl | rfl | rfl <;> rfl);rw [Nat.add_zero] at hst;have hv:∀ w,(zeroValue 102).run Tryz.prog w=.ok (.agg #[.slice none 0 0,.int .i64 0,.int .i64 0,.int .i64 0,.bool false,.int .i64 0]) w:=fun w=>by simp [zeroValue,typeInfo,hi,hz0]
 have hc:(Builtin.zeroCells (Value.agg #[.slice none 0 0,.int .i64 0,.int .i64 0,.int .i64 0,.bool false,.int .i64 0]).cells 1).toList=zE:=aa
 simp [Builtin.clear_,run_underlying Tryz.underlying93,hv,hc,hst]
def aQu (g n cap i:Nat)(cur:List Value)(w:World)(e:Ending)(w':World):Prop:=e=.returned (.slice (some ⟨g,0,none⟩) (n - 1) cap) ∧
 ∃ cur':List Value,Blk w' g 102 cur'.toArray∧cur'.length=cap*6∧cur'.take ((n - 1)*6)=cur.take (i*6) ++ (cur.take (n*6)).drop ((i+1)*6)∧Fr (fun k=>k=g) w w'
theorem aCm (g n cap i:Nat)(cur:List Value)(w:World)(hB:Blk w g 102 cur.toArray)(hcl:cur.length=cap*6)(hn:n<=cap)(hi:i<n)(hnn:n<=100000)(hcap:cap<=9223372036854775807)(h1:∀ u ∈ cur.take (n*6),u.oneCell'=true) :
  Calls Tryz.prog 104 #[.slice (some ⟨g,0,none⟩) n cap,↑i,.int .i64 ((i:Int)+1)] w (aQu g n cap i cur w):=by
 obtain ⟨m,rfl⟩:∃ m,n=i+1+m:=⟨n - (i+1),U⟩;have HB:=aYl hB;have HCL:=aYl hcl;obtain ⟨i0,hi0,hz0,hz1,hz2⟩:=info_parts Tryz.info102;have HI:=aYl hi0;obtain ⟨news,hnews⟩:∃ news,news=(cur.take ((i+1+m)*6)).drop ((i+1)*6):=⟨_,rfl⟩;have HNE:=aYl hnews;have hnl:news.length=m*6:=by rw [hnews];simp only [List.length_drop,List.length_take];omega
 have HNL:=aYl hnl;have HN1:=aYl (show ∀ u ∈ news,u.oneCell'=true from fun u hu=>h1 u (by rw [hnews] at hu;exact List.mem_of_mem_drop hu))
 have HNC:=aYl (show ∀ j u,news[j]?=some u->w.cell? ⟨g,(i+1)*6+j,none⟩=some u from fun j u hu=>by
  rw [hnews,List.getElem?_drop,List.getElem?_take] at hu
  split at hu
  ·rw [hB.cell];simpa using hu
  ·cases hu)
 clear hB hcl hi0 hnews hnl h1;have t1:((i:Int) == (i:Int)+1)=false:=aYm U;have hi1:(0:Int)<=(i:Int):=by omega
 have hi2:(i:Int)+1<=((i+1+m:Nat):Int):=U
 have hi3:((i:Int)+1).toNat=i+1:=U
 have hi4:(i:Int)<=(i:Int)+1:=U
 have hi5:(0:Int)<=(i:Int)+1:=U
 have hic:i<=cap:=U
 have hi6:(i:Int)+1<=(i:Int)+1+(m:Int):=U
 have hsub:i+1+m - (i+1)=m:=U
 have hcells:∀ (A:Addr),(A=⟨g,(i+1)*6,none⟩∨m=0)->∀ j u,news[j]?=some u->w.drew.cell? (A.add j)=some u:=fun A hA j u hu=>by
  rcases hA with rfl | hA
  ·rw [dH];exact HNC.out j u hu
  ·have h0:=HNL.out
   rw [hA] at h0;have:news=[]:=List.eq_nil_of_length_eq_zero U;rw [this] at hu;simp at hu
 have hspare:∀ j,j<news.length->(w.drew.cell? ⟨g,0+i*6+j,none⟩).isSome=true∧w.drew.frozen? ⟨g,0+i*6+j,none⟩=false:=fun j hj=>by
  have h1:=HNL.out;have h2:=HCL.out;obtain ⟨y,hy⟩:=HB.out.some_ (i:=0+i*6+j) U;exact ⟨by rw [fC,hy];rfl,HB.out.frozen _⟩
 have HCE:=aYl hcells;have HSP:=aYl hspare;have hB1:=aJ news (w:=w.drew) (i*6) HB.out.drew (by have:=HNL.out;have:=HCL.out;omega);have HB1:=aYl hB1;have HL1:=aYl (show (cur.take (i*6) ++ news ++ cur.drop (i*6+news.length)).length=cap*6 by have h1:=HNL.out;have h2:=HCL.out;simp only [List.length_append,List.length_take,List.length_drop];omega);clear hcells hspare hB1
 by_cases hc:cap=i+1
 ·obtain rfl:m=0:=by omega
  subst hc;have HCE0:=aYl (HCE.out ⟨g,0,none⟩ (.inr rfl));have HNLZ:=aYl (show news.length=0*6 from HNL.out);have HLZ:=aYl HL1.out;clear HCE HNL HL1 hsub;go_enter Tryz.func104,Tryz.ntmps104;go_wp2_with fail;go_region_law (refine step_append_room rfl (.tmp 22) (.tmp 25) 93 rfl 102 i0 6 Tryz.underlying93 HI.out hz1 g 0 i (i+1) (by simp [Act.eval,Act.put]) ⟨g,0,none⟩ 0 0 news (by simp [Act.eval,Act.put]) (by have:=HNLZ.out;omega) HCE0.out HN1.out (by omega) HSP.out ?_)
  (try rw [Nat.zero_add])
  have HFR:=aYl (show Fr (fun k=>k=g) w (w.drew.setCells g (i*6) news) from ((Fr.refl _ w).drew).setCells news _ (.inl rfl));generalize w.drew.setCells g (i*6) news=W1 at *;have HCLR:=aYl (fun ty c=>rK W1 ty g (i*6) c _ HB1.out (by rw [HLZ.out];omega));have h7:¬ i+1=i:=by omega
  have h9:(i:Int)+1<=((i+1:Nat):Int):=U
  have h10:i+1 - i=1:=U
  go_wp2_with (with_reducible refine jA _ rfl (.tmp 31) 93 rfl (.slice (some ⟨g,i*6,none⟩) 1 1) rfl (HCLR.out _ _) ?_);go_ret;have hB2:=aJ zE (w:=W1) (i*6) HB1.out (by rw [HLZ.out];show i*6+6<=(i+1)*6;omega);refine ⟨by rw [show i+1+0 - 1=i by omega];rfl,_,hB2,?_,?_,HFR.out.setCells zE _ (.inl rfl)⟩
  ·have h1:=HLZ.out
   generalize cur.take (i*6) ++ news ++ cur.drop (i*6+news.length)=c1 at *;simp only [List.length_append,List.length_take,List.length_drop,zE,List.length_cons,List.length_nil];omega
  ·have h2:=HNLZ.out
   have h3:=HCL.out;have h4:news=[]:=List.eq_nil_of_length_eq_zero U;have h5:=HNE.out;rw [<- h5,h4];simp only [List.append_nil,List.length_nil,Nat.add_zero,List.take_append_drop];rw [show i+1 - 1=i by omega,List.append_assoc,List.take_left' aq]
 ·have hc':¬ (cap=i):=by omega
  go_enter Tryz.func104,Tryz.ntmps104;go_wp2_with fail;go_region_law (refine step_append_room rfl (.tmp 22) (.tmp 25) 93 rfl 102 i0 6 Tryz.underlying93 HI.out hz1 g 0 i cap (by simp [Act.eval,Act.put]) ⟨g,(i+1)*6,none⟩ m (cap - (i+1)) news (by simp [Act.eval,Act.put]) HNL.out (HCE.out _ (.inl rfl)) HN1.out (by omega) HSP.out ?_)
  (try rw [Nat.zero_add])
  have HFR:=aYl (show Fr (fun k=>k=g) w (w.drew.setCells g (i*6) news) from ((Fr.refl _ w).drew).setCells news _ (.inl rfl));generalize w.drew.setCells g (i*6) news=W1 at *;have HCLR:=aYl (fun ty c=>rK W1 ty g ((i+m)*6) c _ HB1.out (by have h1:=HL1.out;omega));have h7:¬ cap=i+m:=by omega
  have h8:(i:Int)+(m:Int)<=(i:Int)+1+(m:Int):=U
  have h9:(i:Int)+1+(m:Int)<=(cap:Int):=U
  have h10:i+1+m - (i+m)=1:=U
  have h11:(0:Int)<=(i:Int)+(m:Int):=U
  have h12:((i:Int)+1+(m:Int)).toNat=i+1+m:=U
  have h13:((i:Int)+(m:Int)).toNat=i+m:=U
  go_wp2_with (with_reducible refine jA _ rfl (.tmp 31) 93 rfl (.slice (some ⟨g,(i+m)*6,none⟩) 1 (cap - (i+m))) rfl (HCLR.out _ _) ?_);go_ret;have hB2:=aJ zE (w:=W1) ((i+m)*6) HB1.out (by rw [HL1.out];show (i+m)*6+6<=cap*6;omega);refine ⟨by rw [show i+1+m - 1=i+m by omega];rfl,_,hB2,?_,?_,HFR.out.setCells zE _ (.inl rfl)⟩
  ·have h1:=HL1.out
   generalize cur.take (i*6) ++ news ++ cur.drop (i*6+news.length)=c1 at *;simp only [List.length_append,List.length_take,List.length_drop,zE,List.length_cons,List.length_nil];omega
  ·have h1:=HL1.out
   have h2:=HNL.out;have h3:=HCL.out;rw [show i+1+m - 1=i+m by omega,List.append_assoc,List.take_left' aq];rw [List.take_append_of_le_length fu,List.take_of_length_le fu,HNE.out]
section
variable {P:Program}
theorem nG (w:World){o:Oper}{a:Act}{K:Act->World->Prop}{Q:Exit->Act->World->Prop}(d s:Operand)(t t':TypeId)
  (ho:o.op=.call { callee:=.builtin .copy,args:=#[d,s],argTypes:=#[t,t'] })(v u:Value)(hd:a.eval d=v)(hs:a.eval s=u){v':Value}{w':World}
  (hr:(Builtin.copy_ #[t,t'] o.type #[v,u]).run P w=.ok v' w')(h:K (a.put o.dst v') w'):o.wp P a w K Q:=by
 unfold Oper.wp execOp;simp only [ho,resolve,invoke,builtin,Sem.run_bind,Sem.run_pure,Result.andThen_ok,List.map_toArray,List.map_cons,List.map_nil,hd,hs,hr];exact h
theorem iZ (w:World){ops:Array Oper}{rest:List Oper}{o:Oper}{a:Act}{Q:Exit->Act->World->Prop}(hgd:o.guard=none)(d s:Operand)(t t':TypeId)
  (ho:o.op=.call { callee:=.builtin .copy,args:=#[d,s],argTypes:=#[t,t'] })(v u:Value)(hd:a.eval d=v)(hs:a.eval s=u){v':Value}{w':World}
  (hr:(Builtin.copy_ #[t,t'] o.type #[v,u]).run P w=.ok v' w')(h:wpList P ops Q rest (a.put o.dst v') w'):wpList P ops Q (o :: rest) a w :=
 wpList_plain hgd fun _ hK=>nG w d s t t' ho v u hd hs hr (hK _ _ h)
theorem kR {ops:Array Oper}{o:Oper}{a:Act}{w:World}{K:Act->World->Prop}{Q:Exit->Act->World->Prop}{E:Prop}
  (hg:o.guard=none)(d x:Operand)(dT sT:TypeId)(hop:o.op=Op.call { callee:=Callee.builtin Builtin.copy,args:=#[d,x],argTypes:=#[dT,sT] })
  (v u:Value)(hd:a.eval d=v)(hx:a.eval x=u){v':Value}{w':World}(hr:(Builtin.copy_ #[dT,sT] o.type #[v,u]).run P w=.ok v' w')(hK:K (a.put o.dst v') w') :
  if Region.wanted o (yielded ops a.tmps)=true then Oper.wp P o a w K Q else E:=by
 have hw:Region.wanted o (yielded ops a.tmps)=true:=dw
 rw [if_pos hw];exact nG w d x dT sT hop v u hd hx hr hK
end
theorem lQ (w:World)(ty:TypeId)(b o dLen dCap:Nat)(a:Addr)(sLen sCap k:Nat)(cs cur:List Value)(hB:Blk w b 102 cur.toArray)(hn:k=Nat.min sLen dLen)(hl:cs.length=k*6)
  (hsrc:∀ j v,cs[j]?=some v->w.cell? (a.add j)=some v)(ho:o+k*6<=cur.length)(h1:∀ v ∈ cs,v.oneCell'=true) :
  (Builtin.copy_ #[93,93] ty #[.slice (some ⟨b,o,none⟩) dLen dCap,.slice (some a) sLen sCap]).run Tryz.prog w=.ok (goInt k) (w.setCells b o cs):=by
 obtain ⟨i0,hi,hz0,hz1,hz2⟩:=info_parts Tryz.info102;have hf:=run_firstCells_some (P:=Tryz.prog) w 6 k a sLen sCap cs hl hsrc;have hst:=run_storeCells_cells (P:=Tryz.prog) b o cs 0 w (fun j hj=>by rw [Nat.add_zero,hB.cell];simp;omega) (fun j hj=>by rw [Nat.add_zero];exact hB.frozen _) h1;rw [Nat.add_zero] at hst;simp [Builtin.copy_,run_underlying Tryz.underlying93,Builtin.lenOf,sizeOf,typeInfo,hi,hz1,<- hn,hf,hst]
def aQr (g n cap i:Nat)(cur us:List Value)(w:World)(e:Ending)(w':World):Prop:=e=.returned (.slice (some ⟨g,0,none⟩) (n+1) cap) ∧
 ∃ cur':List Value,Blk w' g 102 cur'.toArray∧cur'.length=cap*6∧cur'.take ((n+1)*6)=cur.take (i*6) ++ us ++ (cur.take (n*6)).drop (i*6)∧Fr (fun k=>k=g) w w'
theorem aBu {cur us:List Value}{i n cap:Nat}(hu:us.length=6)(hi:i<n)(hn:n<cap)(hcl:cur.length=cap*6)(c1 c2:List Value)
  (h1:c1=cur.take ((i+1)*6) ++ (cur.take (n*6)).drop (i*6) ++ cur.drop ((i+1)*6+(n - i)*6))
  (h2:c2=c1.take (i*6) ++ us ++ c1.drop (i*6+6)) :
  c2.length=cap*6∧c2.take ((n+1)*6)=cur.take (i*6) ++ us ++ (cur.take (n*6)).drop (i*6):=by
 have hs:((cur.take (n*6)).drop (i*6)).length=(n - i)*6:=by simp only [List.length_drop,List.length_take];omega
 have hL:c1.length=cap*6:=by rw [h1];simp only [List.length_append,hs,List.length_take,List.length_drop];omega
 have ht:c1.take (i*6)=cur.take (i*6):=by
  rw [h1,List.append_assoc,List.take_append_of_le_length aq,List.take_take,Nat.min_eq_left U]
 have hd:c1.drop (i*6+6)=(cur.take (n*6)).drop (i*6) ++ cur.drop ((i+1)*6+(n - i)*6):=by
  rw [h1,List.append_assoc,List.drop_left' aq]
 refine ⟨by rw [h2];simp only [List.length_append,List.length_take,List.length_drop,hu];omega,?_⟩;rw [h2,ht,hd,<- List.append_assoc,List.take_left' (by simp only [List.length_append,hs,List.length_take,hu];omega)]
theorem yY (g n cap i vb vc:Nat)(tv:TypeId)(cur us:List Value)(w:World)(hB:Blk w g 102 cur.toArray)(hV:Blk w vb tv us.toArray)(hne:vb ≠ g)(hu:us.length=6)(hcl:cur.length=cap*6)(hn:n<cap)(hi:i<n)(hnn:n<=100000)(_:cap<=9223372036854775807)
  (h1:∀ u ∈ cur.take (n*6),u.oneCell'=true)(h1u:∀ u ∈ us,u.oneCell'=true) :
  Calls Tryz.prog 102 #[.slice (some ⟨g,0,none⟩) n cap,↑i,.slice (some ⟨vb,0,none⟩) 1 vc] w (aQr g n cap i cur us w):=by
 obtain ⟨i0,hi0,hz0,hz1,hz2⟩:=info_parts Tryz.info102;have hz:∀ w,(Go.sizeOf 102).run Tryz.prog w=.ok 6 w:=fun w=>by simp [Go.sizeOf,typeInfo,hi0,hz1]
 have hov:∀ lb cb,(callFunc 148 #[.slice (some ⟨vb,0,none⟩) 1 vc,.slice (some ⟨g,(i+1)*6,none⟩) lb cb]).run Tryz.prog w=.ok (.value (.bool false)) w:=fun lb cb=>by
  rw [run_callFunc_extern Tryz.func148 aa aa aa (e:=Extern.SlicesOverlaps.overlaps #[93,93] #[4]) aa,
   Lib.run_overlaps_apart w 93 4 102 Tryz.underlying93 6 hz ⟨vb,0,none⟩ ⟨g,(i+1)*6,none⟩ 1 vc lb cb hne tv 102 us.toArray.size cur.toArray.size (by unfold Blk at hV;simp [World.shape?,hV]) (by unfold Blk at hB;simp [World.shape?,hB]) (by simp only [List.size_toArray];omega) (hV.frozen _) (hV.frozen _)]
  rfl
 obtain ⟨cs,hcs⟩:∃ cs,cs=(cur.take (n*6)).drop (i*6):=⟨_,rfl⟩;have hsl:cs.length=(n - i)*6:=by rw [hcs];simp only [List.length_drop,List.length_take];omega
 have hcp1:∀ ty dc sc,(Builtin.copy_ #[93,93] ty #[.slice (some ⟨g,(i+1)*6,none⟩) (n+1 - (i+1)) dc,.slice (some ⟨g,i*6,none⟩) (n+1 - i) sc]).run Tryz.prog w.drew=.ok (goInt ((n - i:Nat):Int)) (w.drew.setCells g ((i+1)*6) cs):=fun ty dc sc =>
  lQ w.drew ty g ((i+1)*6) _ dc ⟨g,i*6,none⟩ _ sc (n - i) cs cur hB.drew di hsl (fun j v hj=>by
   rw [dH,fC,hB.cell];rw [hcs,List.getElem?_drop,List.getElem?_take] at hj
   split at hj
   ·simpa using hj
   ·cases hj) U (fun v hv=>h1 v (by rw [hcs] at hv;exact List.mem_of_mem_drop hv))
 have hB1:=aJ cs (w:=w.drew) ((i+1)*6) hB.drew U;have hV1:Blk (w.drew.setCells g ((i+1)*6) cs) vb tv us.toArray:=Blk.farCells hne cs _ hV.drew;have hF1:Fr (fun k=>k=g) w (w.drew.setCells g ((i+1)*6) cs):=((Fr.refl _ w).drew).setCells cs _ (.inl rfl);rw [hsl] at hB1;obtain ⟨c1,hc1⟩:∃ c1,c1=cur.take ((i+1)*6) ++ cs ++ cur.drop ((i+1)*6+(n - i)*6):=⟨_,rfl⟩;rw [<- hc1] at hB1;have hl1:c1.length=cap*6:=by rw [hc1];simp only [List.length_append,List.length_take,List.length_drop];omega
 have hcp2:∀ ty dc,(Builtin.copy_ #[93,93] ty #[.slice (some ⟨g,i*6,none⟩) (n+1 - i) dc,.slice (some ⟨vb,0,none⟩) 1 vc]).run Tryz.prog (w.drew.setCells g ((i+1)*6) cs)=.ok (goInt ((1:Nat):Int)) ((w.drew.setCells g ((i+1)*6) cs).setCells g (i*6) us):=fun ty dc =>
  lQ _ ty g (i*6) _ dc ⟨vb,0,none⟩ _ vc 1 us c1 hB1 di U (fun j v hj=>by
   rw [dH,Nat.zero_add];exact hV1.cell' j ik) U h1u
 have hB2:=aJ us (w:=w.drew.setCells g ((i+1)*6) cs) (i*6) hB1 U;have hF2:=hF1.setCells us (i*6) (.inl rfl);have hfin:=aBu hu hi hn hcl c1 _ (by rw [hc1,hcs]) rfl;have HB2:=aYl hB2;have HF2:=aYl hF2;have HFIN:=aYl hfin;have HC1:=aYl hcp1;have HC2:=aYl hcp2;have HOV:=aYl hov;have HU:=aYl hu;clear hB hV hne hcl h1 h1u hi0 hz0 hz1 hz2 hz hov hcs hsl hcp1 hcp2 hB1 hV1 hF1 hc1 hl1 hB2 hF2 hfin hu;have hi1:(0:Int)<=(i:Int):=by omega
 have hi2:(i:Int)<=(n:Int):=U
 have hi3:((i:Int)+1).toNat=i+1:=U
 have hi4:((n:Int)+1).toNat=n+1:=U
 have hi6:(i:Int)<=(n:Int)+1:=U
 have hi7:¬ (cap=i):=U
 have hi8:¬ (cap=i+1):=U
 have hi9:(0:Int)<=(i:Int)+1:=U
 have hi10:(i:Int)+1<=(n:Int)+1:=U
 go_enter Tryz.func102,Tryz.ntmps102;go_wp2_with (simp only [HOV.out]);have hw1:IntKind.i64.wrap ((i:Int)+1)=(i:Int)+1:=by rw [IntKind.wrap_i64];omega
 go_region_law (refine kR rfl (.tmp 73) (.tmp 76) 93 93 rfl (.slice (some ⟨g,(i+1)*6,none⟩) (n+1 - (i+1)) (cap - (i+1))) (.slice (some ⟨g,i*6,none⟩) (n+1 - i) (cap - i)) (by simp [Act.eval,Act.put]) (by simp [Act.eval,Act.put]) (HC1.out _ _ _) ?_);clear hw1;generalize w.drew.setCells g ((i+1)*6) cs=W1 at *;go_wp2_with (with_reducible refine iZ _ rfl (.tmp 80) (.tmp 81) 93 93 rfl (.slice (some ⟨g,i*6,none⟩) (n+1 - i) (cap - i)) (.slice (some ⟨vb,0,none⟩) 1 vc) rfl rfl (HC2.out _ _) ?_);go_ret;have h:=HB2.out;rw [HU.out] at h;exact ⟨rfl,_,h,HFIN.out.1,HFIN.out.2,HF2.out⟩
def aFq (n i:Nat)(cur us:List Value)(w:World)(e:Ending)(w':World):Prop:=∃ cap,e=.returned (.slice (some ⟨w.heap.size,0,none⟩) (n+1) cap)∧n+1<=cap∧cap<=maxLen ∧
 ∃ cur':List Value,Blk w' w.heap.size 102 cur'.toArray∧cur'.length=cap*6∧cur'.take ((n+1)*6)=cur.take (i*6) ++ us ++ (cur.take (n*6)).drop (i*6)∧Ext w w'
theorem yG {row us cs pre:List Value}{i n cap:Nat}(hu:us.length=6)(hi:i<n)(hn:n<cap)(hrl:row.length=cap*6)(hp:row.take (i*6)=pre)(hpl:pre.length=i*6)(hs:cs.length=(n - i)*6)(c1 c2:List Value)
  (h1:c1=row.take (i*6) ++ us ++ row.drop (i*6+6))
  (h2:c2=c1.take ((i+1)*6) ++ cs ++ c1.drop ((i+1)*6+(n - i)*6)) :
  c1.length=cap*6∧c2.length=cap*6∧c2.take ((n+1)*6)=pre ++ us ++ cs:=by
 have hL:c1.length=cap*6:=by rw [h1];simp only [List.length_append,hu,List.length_take,List.length_drop];omega
 have ht:c1.take ((i+1)*6)=pre ++ us:=by
  rw [h1,hp,List.take_left' (by rw [List.length_append];omega)]
 refine ⟨hL,by rw [h2];simp only [List.length_append,List.length_take,List.length_drop,hs];omega,?_⟩;rw [h2,ht,List.take_left' (by simp only [List.length_append,hs,hu];omega)]
theorem yZ (g n cap i vb vc:Nat)(tv:TypeId)(cur us:List Value)(w:World)(hB:Blk w g 102 cur.toArray)(hV:Blk w vb tv us.toArray)(hu:us.length=6)(hcl:cur.length=cap*6)(hn:n=cap)(hi:i<n)(hnn:n<=100000)
  (h1:∀ u ∈ cur.take (n*6),u.oneCell'=true)(h1u:∀ u ∈ us,u.oneCell'=true) :
  Calls Tryz.prog 102 #[.slice (some ⟨g,0,none⟩) n cap,↑i,.slice (some ⟨vb,0,none⟩) 1 vc] w (aFq n i cur us w):=by
 subst hn;obtain ⟨i0,hi0,hz0,hz1,hz2⟩:=info_parts Tryz.info102
 have hold:(Builtin.firstCells i0.size i (.slice (some ⟨g,0,none⟩) i n)).run Tryz.prog w.drew=.ok (cur.take (i*6)).toArray w.drew:=by
  rw [hz1]
  exact run_firstCells_some w.drew 6 i ⟨g,0,none⟩ i n (cur.take (i*6)) aq (fun j v hj=>by
   rw [dH,Nat.zero_add,fC,hB.cell];rw [List.getElem?_take] at hj
   split at hj
   ·simpa using hj
   ·cases hj)
 have hkk:(n:Int)+1 - (i:Int)=((n+1 - i:Nat):Int):=U
 have hik:i+(n+1 - i)=n+1:=U
 have hrz:=fun ty=>Lib.run_append_grow_zeros w 93 3 ty 102 i0 _ .i64 .i64 Tryz.underlying93 Tryz.underlying3 hi0 hz0 (some ⟨g,0,none⟩) i n (cur.take (i*6)) hold (n+1 - i) U U U U cu (by rw [hz2,hik];exact growslice_fits U U)
 simp only [hik] at hrz;simp only [<- hkk] at hrz;have hGn:n+1<=grownCap w (n+1) n 102:=grownCap_ge w _ _ _;have hGm:grownCap w (n+1) n 102<=maxLen:=grownCap_le_maxLen w (n+1) n 102 cj;generalize grownCap w (n+1) n 102=G at *;obtain ⟨row,hrow⟩:∃ row:List Value,row=((cur.take (i*6)).toArray ++ Builtin.zeroCells (Value.agg #[.slice none 0 0,.int .i64 0,.int .i64 0,.int .i64 0,.bool false,.int .i64 0]).cells (n+1 - i) ++ Builtin.zeroCells (Value.agg #[.slice none 0 0,.int .i64 0,.int .i64 0,.int .i64 0,.bool false,.int .i64 0]).cells (G - (n+1))).toList:=⟨_,rfl⟩;have hrow':((cur.take (i*6)).toArray ++ Builtin.zeroCells (Value.agg #[.slice none 0 0,.int .i64 0,.int .i64 0,.int .i64 0,.bool false,.int .i64 0]).cells (n+1 - i) ++ Builtin.zeroCells (Value.agg #[.slice none 0 0,.int .i64 0,.int .i64 0,.int .i64 0,.bool false,.int .i64 0]).cells (G - (n+1)))=row.toArray:=by rw [hrow]
 have hzl:∀ k,(Builtin.zeroCells (Value.agg #[.slice none 0 0,.int .i64 0,.int .i64 0,.int .i64 0,.bool false,.int .i64 0]).cells k).size=k*6:=fun k=>by
  have h6:(Value.agg #[.slice none 0 0,.int .i64 0,.int .i64 0,.int .i64 0,.bool false,.int .i64 0]).cells.size=6:=aa
  simp [Builtin.zeroCells,h6]
 have hrl:row.length=G*6:=by
  rw [hrow];simp only [Array.length_toList,Array.size_append,hzl,List.size_toArray,List.length_take];omega
 have hrp:row.take (i*6)=cur.take (i*6):=by
  rw [hrow,Array.toList_append,Array.toList_append,List.append_assoc,List.take_left' (by simp only [List.length_take];omega)]
 rw [hrow'] at hrz;obtain ⟨W1,hW1⟩:∃ W1,W1=w.drew.alloc (.cells row.toArray 102):=⟨_,rfl⟩;rw [<- hW1] at hrz;have hN:Blk W1 w.heap.size 102 row.toArray:=by rw [hW1];exact Blk.new w.drew 102 row.toArray
 have hE:Ext w W1:=by rw [hW1];exact ((Ext.refl w).drew').alloc' _
 clear hrow hrow' hW1 hzl hold hkk hik hi0 hz0 hz1 hz2;obtain ⟨cs,hcs⟩:∃ cs,cs=(cur.take (n*6)).drop (i*6):=⟨_,rfl⟩;have hsl:cs.length=(n - i)*6:=by rw [hcs];simp only [List.length_drop,List.length_take];omega
 have hgl:=hB.lt;have hvl:=hV.lt;have hBW:=hB.ext hE;have hVW:=hV.ext hE;obtain ⟨N,hNe⟩:∃ N,N=w.heap.size:=⟨_,rfl⟩;rw [<- hNe] at hN hrz hgl hvl
 have hcp1:∀ ty dc,(Builtin.copy_ #[93,93] ty #[.slice (some ⟨N,i*6,none⟩) (n+1 - i) dc,.slice (some ⟨vb,0,none⟩) 1 vc]).run Tryz.prog W1=.ok (goInt ((1:Nat):Int)) (W1.setCells N (i*6) us):=fun ty dc =>
  lQ W1 ty N (i*6) _ dc ⟨vb,0,none⟩ _ vc 1 us row hN di U (fun j v hj=>by
   rw [dH,Nat.zero_add];exact hVW.cell' j ik) U h1u
 have hB1:=aJ us (w:=W1) (i*6) hN U;rw [hu] at hB1;have hG1:Blk (W1.setCells N (i*6) us) g 102 cur.toArray:=Blk.farCells U us _ hBW;have hfin:=yG hu hi U hrl hrp aq hsl _ _ rfl rfl;obtain ⟨c1,hc1⟩:∃ c1,c1=row.take (i*6) ++ us ++ row.drop (i*6+6):=⟨_,rfl⟩;rw [<- hc1] at hB1 hfin;obtain ⟨W2,hW2⟩:∃ W2,W2=W1.setCells N (i*6) us:=⟨_,rfl⟩;have hF2:Fr (fun k=>k=N) w W2:=by rw [hW2];exact (Fr.of_ext hE).setCells us _ (.inl rfl)
 rw [<- hW2] at hcp1 hB1 hG1
 have hcp2:∀ ty dc sc,(Builtin.copy_ #[93,93] ty #[.slice (some ⟨N,(i+1)*6,none⟩) (n+1 - (i+1)) dc,.slice (some ⟨g,i*6,none⟩) (n - i) sc]).run Tryz.prog W2.drew=.ok (goInt ((n - i:Nat):Int)) (W2.drew.setCells N ((i+1)*6) cs):=fun ty dc sc =>
  lQ W2.drew ty N ((i+1)*6) _ dc ⟨g,i*6,none⟩ _ sc (n - i) cs c1 hB1.drew di hsl (fun j v hj=>by
   rw [dH,fC,hG1.cell];rw [hcs,List.getElem?_drop,List.getElem?_take] at hj
   split at hj
   ·simpa using hj
   ·cases hj) (by rw [hfin.1];omega) (fun v hv=>h1 v (by rw [hcs] at hv;exact List.mem_of_mem_drop hv))
 have hB2:=aJ cs (w:=W2.drew) ((i+1)*6) hB1.drew (by rw [hfin.1];omega);rw [hsl] at hB2;have hF3:=(hF2.drew).setCells cs ((i+1)*6) (.inl rfl)
 have HRES:=aYl (show aFq n i cur us w (.returned (.slice (some ⟨N,0,none⟩) (n+1) G)) (W2.drew.setCells N ((i+1)*6) cs) from
  ⟨G,by rw [hNe],hGn,hGm,_,by rw [<- hNe];exact hB2,hfin.2.1,by rw [hfin.2.2,hcs],hF3.new_ext (fun k hk=>by omega)⟩)
 have HC1:=aYl hcp1;have HC2:=aYl hcp2;have HRZ:=aYl hrz;clear hB hV hu hcl h1 h1u hGm hrl hrp hrz hN hE hcs hsl hBW hVW hcp1 hcp2 hB1 hG1 hfin hc1 hW2 hF2 hB2 hF3 hNe;have hi1:(0:Int)<=(i:Int):=by omega
 have hi2:(i:Int)<=(n:Int):=U
 have hi3:((i:Int)+1).toNat=i+1:=U
 have hi5:(n:Int)<(n:Int)+1:=U
 have hi6:(i:Int)<=(n:Int)+1:=U
 have hi7:¬ (n=i):=U
 have hi8:¬ (G=i+1):=U
 have hi11:¬ (G=i):=U
 have hi9:(0:Int)<=(i:Int)+1:=U
 have hi10:(i:Int)+1<=(n:Int)+1:=U
 go_enter Tryz.func102,Tryz.ntmps102;go_wp2_with (first | (at_builtin;refine Lib.wpList_append_run _ rfl _ _ _ _ rfl _ _ rfl rfl _ _ (HRZ.out _) ?_) | (with_reducible refine iZ _ rfl (.tmp 43) (.tmp 44) 93 93 rfl (.slice (some ⟨N,i*6,none⟩) (n+1 - i) (G - i)) (.slice (some ⟨vb,0,none⟩) 1 vc) rfl rfl (HC1.out _ _) ?_));have hw1:IntKind.i64.wrap ((i:Int)+1)=(i:Int)+1:=by rw [IntKind.wrap_i64];omega
 go_region_law (refine kR rfl (.tmp 50) (.tmp 53) 93 93 rfl (.slice (some ⟨N,(i+1)*6,none⟩) (n+1 - (i+1)) (G - (i+1))) (.slice (some ⟨g,i*6,none⟩) (n - i) (n - i)) (by simp [Act.eval,Act.put]) (by simp [Act.eval,Act.put]) (HC2.out _ _ _) ?_);clear hw1;go_wp2_with fail;go_ret;exact HRES.out
def aTs (ve:Value)(n i:Nat)(xs us:List Value)(w:World)(e:Ending)(w':World):Prop:=∃ v',e=.returned v'∧w'.ownsRow 0 102 6 v' (n+1) (xs.take (i*6) ++ us ++ xs.drop (i*6)) ∧
 Fr (fun k=>some k=ve.ownBlock) w w'∧(v'.ownBlock=ve.ownBlock∨v'.ownBlock=some w.heap.size)
theorem aCb (ve:Value)(n vb vc:Nat)(tv:TypeId)(xs us:List Value)(w:World)(hO:w.ownsRow 0 102 6 ve n xs)(hV:Blk w vb tv us.toArray)(hu:us.length=6)(hnn:n<=100000)(h1u:∀ u ∈ us,u.oneCell'=true) :
  Calls Tryz.prog 102 #[ve,↑n,.slice (some ⟨vb,0,none⟩) 1 vc] w (aTs ve n n xs us w):=by
 obtain ⟨i0,hi0,hz0,hz1,hz2⟩:=info_parts Tryz.info102;have hS:Sl w (fun k=>k=vb) 6 (some ⟨vb,0,none⟩) 1 us:=⟨U,fun _=>⟨vb,0,rfl,rfl,fun j u hj=>by rw [Nat.zero_add];exact hV.cell' j ik⟩⟩;have hxl:=hO.1;have hxt:xs.take (n*6)=xs:=List.take_of_length_le U;have hxd:xs.drop (n*6)=[]:=List.drop_eq_nil_of_le U;have HO:=aYl hO;have HS:=aYl hS;have HI:=aYl hi0;have H1:=aYl h1u;have HXT:=aYl hxt;have HXD:=aYl hxd;have hfin:∀ v' w',w'.ownsRow 0 102 6 v' (n+1) (xs ++ us)->Fr (fun k=>some k=ve.ownBlock) w w'->(v'.ownBlock=ve.ownBlock∨v'.ownBlock=some w.heap.size)->aTs ve n n xs us w (.returned v') w':=fun v' w' a b c=>⟨v',rfl,by rw [hxt,hxd,List.append_nil];exact a,b,c⟩
 have HF:=aYl hfin
 obtain ⟨A,c,rfl,hA,hnc,hc63⟩:∃ A c,ve=.slice A n c∧(A=none->n=0∧c=0)∧n<=c∧c<=9223372036854775807:=by
  rcases hO.2 with ⟨h1,h2⟩ | ⟨g,cap,cur,h1,-,-,h4,h5,-⟩
  ·subst h2;exact ⟨none,0,h1,fun _=>⟨rfl,rfl⟩,Nat.le_refl _,U⟩
  ·exact ⟨_,cap,h1,fun h=>by simp at h,h4,ff⟩
 clear hO hV hu h1u hi0 hS hxl hxt hxd hfin;have t1:(0:Int)<=(n:Int):=by omega
 cases A with
 | none =>
  obtain ⟨rfl,rfl⟩:=hA rfl;go_enter Tryz.func102,Tryz.ntmps102;go_wp2_with (at_builtin;go_must (refine aK _ rfl (.tmp 23) (.tmp 24) 93 al 0 102 i0 _ 6 64 Tryz.underlying93 HI.out hz0 hz1 hz2 aa U (.slice none 0 0) 0 xs rfl HO.out (fun k=>k=vb) (some ⟨vb,0,none⟩) 1 vc us rfl HS.out H1.out U U U ?_);intro v1 w1 ho1 hb1 hc1;have HR:=aYl (HF.out v1 w1 ho1 hb1 hc1);clear ho1 hb1 hc1);go_ret;exact HR.out
 | some A =>
  by_cases hc:c=n
  ·subst hc
   go_enter Tryz.func102,Tryz.ntmps102;go_wp2_with (at_builtin;go_must (refine aK _ rfl (.tmp 23) (.tmp 24) 93 al 0 102 i0 _ 6 64 Tryz.underlying93 HI.out hz0 hz1 hz2 aa U (.slice (some A) c c) c xs rfl HO.out (fun k=>k=vb) (some ⟨vb,0,none⟩) 1 vc us rfl HS.out H1.out U U U ?_);intro v1 w1 ho1 hb1 hc1;have HR:=aYl (HF.out v1 w1 ho1 hb1 hc1);clear ho1 hb1 hc1);go_ret;exact HR.out
  ·go_enter Tryz.func102,Tryz.ntmps102
   go_wp2_with (at_builtin;go_must (refine aK _ rfl (.tmp 23) (.tmp 24) 93 al 0 102 i0 _ 6 64 Tryz.underlying93 HI.out hz0 hz1 hz2 aa U (.slice (some A) n c) n xs rfl HO.out (fun k=>k=vb) (some ⟨vb,0,none⟩) 1 vc us rfl HS.out H1.out U U U ?_);intro v1 w1 ho1 hb1 hc1;have HR:=aYl (HF.out v1 w1 ho1 hb1 hc1);clear ho1 hb1 hc1);go_ret;exact HR.out
theorem aCc (ve:Value)(n i vb vc:Nat)(tv:TypeId)(xs us:List Value)(w:World)(hO:w.ownsRow 0 102 6 ve n xs)(hV:Blk w vb tv us.toArray)(hne:some vb ≠ ve.ownBlock)(hu:us.length=6)(hi:i<=n)(hnn:n<=100000)
  (h1:∀ u ∈ xs,u.oneCell'=true)(h1u:∀ u ∈ us,u.oneCell'=true) :
  Calls Tryz.prog 102 #[ve,↑i,.slice (some ⟨vb,0,none⟩) 1 vc] w (aTs ve n i xs us w):=by
 by_cases hin:i=n
 ·subst hin;exact aCb ve i vb vc tv xs us w hO hV hu hnn h1u
 rcases hO with ⟨hxl,⟨h2,h3⟩ | ⟨g,cap,cur,rfl,-,h3,h4,h5,h6,h7⟩⟩
 ·omega
 have hB:Blk w g 102 cur.toList.toArray:=by unfold Blk;simpa using h3
 have hcl:cur.toList.length=cap*6:=gh
 have hgv:vb ≠ g:=fun h=>hne (by simp [Value.ownBlock,h])
 have h63:cap<=9223372036854775807:=ff
 have h1':∀ u ∈ cur.toList.take (n*6),u.oneCell'=true:=by rw [h7];exact h1
 have ht:cur.toList.take (i*6)=xs.take (i*6):=by rw [<- h7,List.take_take,Nat.min_eq_left U]
 have hlen:(xs.take (i*6) ++ us ++ xs.drop (i*6)).length=(n+1)*6:=by simp only [List.length_append,List.length_take,List.length_drop];omega
 rcases Nat.lt_or_ge n cap with hc | hc
 ·refine (yY g n cap i vb vc tv cur.toList us w hB hV hgv hu hcl hc U hnn h63 h1' h1u).mono ?_
  rintro e w' ⟨rfl,cur',hB',hl',ht',hF⟩;refine ⟨_,rfl,⟨hlen,.inr ⟨g,cap,cur'.toArray,rfl,Nat.zero_le _,hB',U,h5,by simpa using hl',?_⟩⟩,?_,.inl rfl⟩
  ·show cur'.take ((n+1)*6)=_
   rw [ht',ht,h7]
  ·exact ⟨hF.os,hF.tape,hF.output,hF.size,fun k hk hm=>hF.block k hk (fun e=>hm (by simp [Value.ownBlock,e]))⟩
 ·refine (yZ g n cap i vb vc tv cur.toList us w hB hV hu hcl U U hnn h1' h1u).mono ?_
  rintro e w' ⟨cap',rfl,hc1,hc2,cur',hB',hl',ht',hE⟩;refine ⟨_,rfl,⟨hlen,.inr ⟨_,cap',cur'.toArray,rfl,Nat.zero_le _,hB',hc1,hc2,by simpa using hl',?_⟩⟩,Fr.of_ext hE,.inr rfl⟩
  show cur'.take ((n+1)*6)=_
  rw [ht',ht,h7]
end Go.Proofs.YtkoeecdjijfjnaaGreat
