/- Contracts of functions, plain laws. Conditions: none. -/
import Derived.BigGuardPart
import Derived.Deep.RegionLaw
import Derived.Laws.IdiomCopy
import Derived.Test.YtkoeecdjijfjnaaGreatPlK
import Derived.Test.YtkoeecdjijfjnaaGreatH5
set_option maxRecDepth 100000
set_option maxHeartbeats 8000000
namespace Go.Proofs.YtkoeecdjijfjnaaGreat
open Go.RowKit
structure EAt (w:World)(P:Nat->Prop)(e:GE)(A:Option Addr)(c:Nat):Prop where
 path:bT w P (.slice A e.path.length c) e.path
 kind:I64 e.kind
 at_:I64 e.at_
 code:I64 e.code
 hits:I64 e.hits
def cG (e:GE)(A:Option Addr)(c:Nat):List Value:=[.slice A e.path.length c,.int .i64 e.kind,.int .i64 e.at_,.int .i64 e.code,.bool e.fresh,.int .i64 e.hits]
abbrev aEs (e:GE)(A:Option Addr)(c:Nat):Value:=.agg #[.slice A e.path.length c,.int .i64 e.kind,.int .i64 e.at_,.int .i64 e.code,.bool e.fresh,.int .i64 e.hits]
def REn (w:World)(P:Nat->Prop)(e:GE)(cs:List Value):Prop:=∃ A c,cs=cG e A c∧EAt w P e A c
section
variable {w w':World}{P Q:Nat->Prop}
theorem EAt.carry {e:GE}{A:Option Addr}{c:Nat}(h:EAt w P e A c)(hk:aD P w w')(hPQ:∀ b,b<w.heap.size->P b->Q b):EAt w' Q e A c:=⟨h.path.carry hk hPQ,h.kind,h.at_,h.code,h.hits⟩
theorem EAt.ext {e:GE}{A:Option Addr}{c:Nat}(h:EAt w P e A c)(hx:Ext w w'):EAt w' P e A c:=h.carry (aD.of_ext hx) (fun _ _ h=>h)
theorem fM:aOi 6 REn:=⟨fun _ _ _ _ h=>by obtain ⟨A,c,rfl,_⟩:=h;rfl,fun _ _ _ _ _ _ h hk hPQ=>by obtain ⟨A,c,e,h⟩:=h;exact ⟨A,c,e,h.carry hk hPQ⟩⟩
end
def Ens (w:World)(P:Nat->Prop)(v:Value)(L:List GE):Prop:=Lst w P 6 (REn w P) v L
section
variable {w w':World}{P Q:Nat->Prop}
theorem Ens.carry {v:Value}{L:List GE}(h:Ens w P v L)(hk:aD P w w')(hPQ:∀ b,b<w.heap.size->P b->Q b):Ens w' Q v L:=Lst.carry h (by omega) hk hPQ (fun x _ cs hx=>fM.carry _ _ _ _ _ _ hx hk hPQ)
theorem Ens.ext {v:Value}{L:List GE}(h:Ens w P v L)(hx:Ext w w'):Ens w' P v L:=h.carry (aD.of_ext hx) (fun _ _ h=>h)
theorem Ens.get {A:Option Addr}{n c:Nat}{L:List GE}(h:Ens w P (.slice A n c) L){i:Nat}(hi:i<L.length):∃ b off A' d,A=some ⟨b,off,none⟩∧P b∧EAt w P (L.getD i default) A' d∧(∀ j u,(cG (L.getD i default) A' d)[j]?=some u->w.cell? ⟨b,off+i*6+j,none⟩=some u):=by
 obtain ⟨b,off,c',cs,e,hb,_,_,⟨A',d,rfl,hv⟩,hc⟩:=Lst.at_ (fM.len w P) h default hi;injection e with e _ _;exact ⟨b,off,A',d,e,hb,hv,hc⟩
end
theorem cH {w:World}{g:Nat}{t:TypeId}{u0 u1 u2 u3 u4 u5:Value}(h:Blk w g t #[u0,u1,u2,u3,u4,u5]):w.cell? ⟨g,0,none⟩=some u0∧w.cell? ⟨g,1,none⟩=some u1∧w.cell? ⟨g,2,none⟩=some u2∧w.cell? ⟨g,3,none⟩=some u3∧w.cell? ⟨g,4,none⟩=some u4∧w.cell? ⟨g,5,none⟩=some u5:=⟨h.cell' 0 rfl,h.cell' 1 rfl,h.cell' 2 rfl,h.cell' 3 rfl,h.cell' 4 rfl,h.cell' 5 rfl⟩
theorem sH (x y:GE)(A B:Option Addr)(c d:Nat)(P Q:Nat->Prop)(w:World)(hx:EAt w P x A c)(hy:EAt w Q y B d) :
  Calls Tryz.prog 56 #[aEs x A c,aEs y B d] w (dC (.int .i64 (hU x.path y.path)) w):=by
 have HX:=aV4 hx;have HY:=aV4 hy;clear hx hy;go_enter Tryz.func56,Tryz.ntmps56;go_wp2_with fail;refine (nT x.path y.path P Q _ _ _ (HX.out.path.ext (((Ext.refl _).alloc' _).alloc' _)) (HY.out.path.ext (((Ext.refl _).alloc' _).alloc' _))).mono ?_;rintro e w1 ⟨rfl,hx1⟩;have HX1:=aV4 ((((Ext.refl w).alloc' _).alloc' _).trans' hx1);clear hx1;go_wp2_with fail;go_ret;exact ⟨rfl,HX1.out⟩
def aUt (l:List GE)(p:List Int)(W:World)(s9 s10:Value)(wr:World):Prop:=∃ i j:Nat,i<=j∧j<=l.length∧s9=.int .i64 i∧s10=.int .i64 j∧Ext W wr∧(∀ k,k<i->hU (l.getD k default).path p<0)∧(∀ k,j<=k->k<l.length->0<=hU (l.getD k default).path p)
theorem zY {l:List GE}{p:List Int}{i:Nat}(hinc:xH l)(hi:i<=l.length)(h1:∀ k,k<i->hU (l.getD k default).path p<0)(h2:∀ k,i<=k->k<l.length->¬ hU (l.getD k default).path p<0) :
  bK p l=i∧gX p l=(decide (i<l.length) && decide (hU (l.getD i default).path p=0)):=by
 have h:=nB hinc hi h1 h2;unfold gX;rw [<- h];exact ⟨rfl,rfl⟩
theorem wY (l:List GE)(x:GE)(A:Option Addr)(c:Nat)(P Q:Nat->Prop)(v:Value)(w:World)(hl:Ens w P v l)(hx:EAt w Q x A c)(hinc:xH l)(hlen:l.length<=1000000) :
  Calls Tryz.prog 107 #[v,aEs x A c,.func (.func 56) #[] #[]] w (yQ (.int .i64 (bK x.path l)) (.bool (gX x.path l)) w):=by
 have HL:=aV4 hl;have HX:=aV4 hx;have HI:=aV4 hinc;obtain ⟨Al,cl,el,h1,h2⟩:=Lst.form hl;subst el;clear hl hx hinc;go_enter Tryz.func107,Tryz.ntmps107;go_wp2_with fail;have HE:=aV4 ((Ext.refl w).alloc' (.cells #[.slice A x.path.length c,.int .i64 x.kind,.int .i64 x.at_,.int .i64 x.code,.bool x.fresh,.int .i64 x.hits] 102));have HB:=aV4 (Blk.new w 102 #[.slice A x.path.length c,.int .i64 x.kind,.int .i64 x.at_,.int .i64 x.code,.bool x.fresh,.int .i64 x.hits]);generalize w.alloc (.cells #[.slice A x.path.length c,.int .i64 x.kind,.int .i64 x.at_,.int .i64 x.code,.bool x.fresh,.int .i64 x.hits] 102)=W at *;go_loopw [9,10] (fun a b wr=>aUt l x.path W a b wr) (fun a b _=>(intOf b).toNat - (intOf a).toNat)
 case atStart=>exact ⟨0,l.length,Nat.zero_le _,Nat.le_refl _,rfl,rfl,Ext.refl _,fun k hk=>by omega,fun k hk hk'=>by omega⟩
 case round =>
  obtain ⟨i,j,hij,hj,rfl,rfl,hE,hlo,hhi⟩:=hrel;have HE1:=aV4 hE;have HLO:=aV4 hlo;have HHI:=aV4 hhi;clear hE hlo hhi
  by_cases hlt:i<j
  ·go_upto_region 5 with fail
   obtain ⟨h,hh⟩:∃ h:Nat,((i:Int)+(j:Int)) / 2=(h:Int):=⟨(((i:Int)+(j:Int)) / 2).toNat,by omega⟩;have h1':i<=h:=by omega
   have h2':h<j:=by omega
   rw [hh];clear hh;have hhl:h<l.length:=by omega
   obtain ⟨b1,o1,A1,d1,rfl,-,hv1,hgc⟩:=(HL.out.ext (HE.out.trans' HE1.out)).get hhl;have HV1:=aV4 hv1;have HMX:=aV4 (HX.out.ext (HE.out.trans' HE1.out));obtain ⟨x0,x1,x2,x3,x4,x5⟩:=cH (HB.out.ext HE1.out);have HG:=aV4 (show ∃ y,y=l.getD h default from ⟨_,rfl⟩);obtain ⟨y,hy⟩:=HG.out;have HY:=aV4 hy;rw [<- hy] at HV1 hgc;have g10:=hgc 0 _ rfl;have g11:=hgc 1 _ rfl;have g12:=hgc 2 _ rfl;have g13:=hgc 3 _ rfl;have g14:=hgc 4 _ rfl;have g15:=hgc 5 _ rfl;rw [Nat.add_zero] at g10;clear hgc;clear hv1 hy HG;have hq0:(0:Int)<=(h:Int):=by omega
   have hq1:(h:Int)<(l.length:Int):=by omega
   go_still_tail 6,(by kernel_rfl);go_wp2_with fail;refine (sH y x A1 A d1 c P Q _ (HV1.out.ext (Ext.refl _).drew') (HMX.out.ext (Ext.refl _).drew')).mono ?_;rintro e w2 ⟨rfl,hx2⟩;have HX2:=aV4 (HE1.out.trans' ((Ext.refl _).drew'.trans' hx2));clear hx2
   by_cases hz:hU y.path x.path<0
   ·have HZ:=aV4 hz
    go_wp2_with fail;go_roundw
    case rel=>exact ⟨h+1,j,by omega,hj,by go_num,rfl,HX2.out,fun k hk=>uB HI.out x.path (show k<=h by omega) hhl (by rw [<- HY.out];exact HZ.out),HHI.out⟩
    case measure=>simp [intOf];omega
   ·have HZ:=aV4 hz
    go_wp2_with fail;go_roundw
    case rel=>exact ⟨i,h,h1',by omega,rfl,rfl,HX2.out,HLO.out,fun k hk hk'=>Int.not_lt.1 (fun hc=>absurd (show hU y.path x.path<0 by rw [HY.out];exact uB HI.out x.path hk hk' hc) (Int.not_lt.2 HZ.out))⟩
    case measure=>simp [intOf];omega
  ·obtain rfl:i=j:=by omega
   have HF:=aV4 (zY (p:=x.path) HI.out hj HLO.out (fun k hk hk'=>Int.not_lt.2 (HHI.out k hk hk')));clear HLO HHI
   by_cases hn:i<l.length
   ·have hd:decide (i<l.length)=true:=aV7 hn
    have hd':decide ((i:Int)<(l.length:Int))=true:=aV7 (by omega);obtain ⟨b1,o1,A1,d1,rfl,-,hv1,hgc⟩:=(HL.out.ext (HE.out.trans' HE1.out)).get hn;have HF2:=aV4 (show gX x.path l=decide (hU (l.getD i default).path x.path=0) by rw [HF.out.2,hd];rfl);have HMX:=aV4 (HX.out.ext (HE.out.trans' HE1.out));have HV1:=aV4 hv1;obtain ⟨x0,x1,x2,x3,x4,x5⟩:=cH (HB.out.ext HE1.out);generalize l.getD i default=y at *;have g10:=hgc 0 _ rfl;have g11:=hgc 1 _ rfl;have g12:=hgc 2 _ rfl;have g13:=hgc 3 _ rfl;have g14:=hgc 4 _ rfl;have g15:=hgc 5 _ rfl;rw [Nat.add_zero] at g10;clear hgc;have hq0:(0:Int)<=(i:Int):=by omega
    have hq1:(i:Int)<(l.length:Int):=by omega
    clear hv1;go_upto_region 8 with fail
    go_region_held3 (fun w'=>w'.cell? ⟨b1,o1+i*6,none⟩=some (.slice A1 y.path.length d1)∧w'.cell? ⟨b1,o1+i*6+1,none⟩=some (.int .i64 y.kind)∧w'.cell? ⟨b1,o1+i*6+2,none⟩=some (.int .i64 y.at_)∧w'.cell? ⟨b1,o1+i*6+3,none⟩=some (.int .i64 y.code)∧w'.cell? ⟨b1,o1+i*6+4,none⟩=some (.bool y.fresh)∧w'.cell? ⟨b1,o1+i*6+5,none⟩=some (.int .i64 y.hits)∧w'.cell? ⟨w.heap.size,0,none⟩=some (.slice A x.path.length c)∧w'.cell? ⟨w.heap.size,1,none⟩=some (.int .i64 x.kind)∧w'.cell? ⟨w.heap.size,2,none⟩=some (.int .i64 x.at_)∧w'.cell? ⟨w.heap.size,3,none⟩=some (.int .i64 x.code)∧w'.cell? ⟨w.heap.size,4,none⟩=some (.bool x.fresh)∧w'.cell? ⟨w.heap.size,5,none⟩=some (.int .i64 x.hits))
     (first
      | go_keep
      | (go_split_ands
         exact ⟨aB hx2 ‹_›,aB hx2 ‹_›,aB hx2 ‹_›,aB hx2 ‹_›,aB hx2 ‹_›,aB hx2 ‹_›,aB hx2 ‹_›,aB hx2 ‹_›,aB hx2 ‹_›,aB hx2 ‹_›,aB hx2 ‹_›,aB hx2 ‹_›⟩))
     (first
      | (go_at_call 56;refine (sH y x A1 A d1 c P Q _ (HV1.out.ext (Ext.refl _).drew') (HMX.out.ext (Ext.refl _).drew')).mono ?_;rintro e w2 ⟨rfl,hx2⟩))
    have HX2:=aV4 (HE1.out.trans' ((Ext.refl _).drew'.trans' hx2));clear hx2;go_wp2_with fail;go_ret2;exact ⟨by rw [HF.out.1,HF2.out];rfl,HE.out.trans' HX2.out⟩
   ·have hd:decide (i<l.length)=false:=aV8 hn
    have hd':decide ((i:Int)<(l.length:Int))=false:=aV8 (by omega);have HF2:=aV4 (show gX x.path l=false by rw [HF.out.2,hd];rfl);go_wp2_with fail;go_quiet (fail);go_wp2_with fail;go_ret2;exact ⟨by rw [HF.out.1,HF2.out];rfl,HE.out.trans' (HE1.out.trans' (Ext.drewN _ _))⟩
theorem vZ (l:List GE)(x:GE)(A:Option Addr)(c:Nat)(P Q:Nat->Prop)(v:Value)(w:World)(hl:Ens w P v l)(hx:EAt w Q x A c)(hinc:xH l)(hlen:l.length<=1000000) :
  Calls Tryz.prog 55 #[v,aEs x A c,.func (.func 56) #[] #[]] w (yQ (.int .i64 (bK x.path l)) (.bool (gX x.path l)) w):=by
 have HC:=aV4 (fun (W:World) (h:Ext w W)=>wY l x A c P Q v W (hl.ext h) (hx.ext h) hinc hlen);obtain ⟨Al,cl,el,h1,h2⟩:=Lst.form hl;subst el;clear hl hx hinc;go_enter Tryz.func55,Tryz.ntmps55;go_wp2_with fail;refine (HC.out _ ((Ext.refl w).alloc' _)).mono ?_;rintro e w1 ⟨rfl,hx1⟩;have HX1:=aV4 (((Ext.refl w).alloc' _).trans' hx1);clear hx1;go_wp2_with fail;go_ret2;exact ⟨rfl,HX1.out⟩
theorem aAv (x:GE)(A:Option Addr)(c:Nat)(w:World)(h:x.path.length<=1000000000)(_:c<=9223372036854775807)(_:x.path.length<=c):Calls Tryz.prog 53 #[aEs x A c] w (dC (.int .i64 (wE x)) w):=by
 have HW:=aV4 (show wE x=2+(x.path.length:Int) from rfl);go_enter Tryz.func53,Tryz.ntmps53;go_wp2_with fail;go_ret;exact ⟨aM HW.out.symm,(Ext.refl _).alloc' _⟩
theorem aF9 (t:List GN)(vn:Value)(gw gs gl gf:Nat)(P:Nat->Prop)(w:World)(h:kG t vn gw gs gl gf P w)(htl:t.length<=100000) :
  Calls Tryz.prog 100 #[.pointer (some ⟨gw,0,none⟩)] w fun e w'=>e=.returned (.int .i64 ((t.length:Int) - 1))∧w=w':=by
 have c0:=h.box.cell' (u:=.pointer (some ⟨gs,0,none⟩)) 0 rfl;have c1:=h.sets;obtain ⟨An,cn,en,hn1,hn2⟩:=h.nodes.form;subst en;clear h;go_enter Tryz.func100,Tryz.ntmps100;go_wp2_with fail;go_ret;exact ⟨rfl,rfl⟩
def aJu (r:GF)(w:World)(e:Ending)(w':World):Prop:=∃ A c,e=.returned (.tuple #[eI r.val A c,.int .i64 r.at_,.bool r.good])∧VAt w' (fun _=>True) r.val A c∧Ext w w'
structure aVe (w W:World)(gw:Nat)(vp:Value):Prop where
 b0:Blk W w.heap.size 91 #[.pointer (some ⟨gw,0,none⟩)]
 b1:Blk W (w.heap.size+1) 22 #[vp]
 b2:Blk W (w.heap.size+1+1) 85 #[.int .i64 0,.int .i64 0,.string ⟨#[]⟩,.slice none 0 0]
 b3:Blk W (w.heap.size+1+1+1) 3 #[.int .i64 0]
 b4:Blk W (w.heap.size+1+1+1+1) 4 #[.bool true]
 ext:Ext w W
 sz:W.heap.size=w.heap.size+5
theorem aKa (w:World)(gw:Nat)(vp:Value):aVe w (((((w.alloc (.cells #[.pointer (some ⟨gw,0,none⟩)] 91)).alloc (.cells #[vp] 22)).alloc (.cells #[.int .i64 0,.int .i64 0,.string ⟨#[]⟩,.slice none 0 0] 85)).alloc (.cells #[.int .i64 0] 3)).alloc (.cells #[.bool true] 4)) gw vp :=
 ⟨((((Blk.new w 91 _).alloc _).alloc _).alloc _).alloc _,(((Blk.new' (w.alloc _) 22 _ (by simp)).alloc _).alloc _).alloc _,((Blk.new' ((w.alloc _).alloc _) 85 _ (by simp)).alloc _).alloc _,(Blk.new' (((w.alloc _).alloc _).alloc _) 3 _ (by simp)).alloc _,Blk.new' ((((w.alloc _).alloc _).alloc _).alloc _) 4 _ (by simp),(((((Ext.refl w).alloc' _).alloc' _).alloc' _).alloc' _).alloc' _,by simp⟩
def vfa (gw gs gl gf B:Nat):FA:=⟨gw,gs,gl,gf,B+1,B,B+1+1+1,B+1+1+1+1,fun b=>b=B+1+1⟩
theorem aF1 {t:List GN}{path:List Int}{vn vp:Value}{gw gs gl gf:Nat}{P Pp:Nat->Prop}{w W:World}(h:kG t vn gw gs gl gf P w)(hp:bT w Pp vp path)(hW:aVe w W gw vp):aCa t path vn vp (vfa gw gs gl gf w.heap.size) W∧FSt (vfa gw gs gl gf w.heap.size) 0 true W:=by
 have hQ:∀ b,b<w.heap.size->(vfa gw gs gl gf w.heap.size).Q b:=fun b hb=>⟨fun h=>by rcases h with h | h <;> (simp only [vfa] at h;omega),fun h=>by simp only [vfa] at h;omega⟩
 refine ⟨⟨h.carry (aD.of_ext hW.ext) (fun b hb _=>hQ b hb),hW.b1.cell' 0 rfl,hW.b0.cell' 0 rfl,hp.carry (aD.of_ext hW.ext) (fun b hb _=>hQ b hb),?_,?_,?_,?_⟩,hW.b3,hW.b4⟩
 ·exact ⟨fun h=>by rcases h with h | h <;> (simp only [vfa] at h;omega),fun h=>by simp only [vfa] at h;omega⟩
 ·exact ⟨fun h=>by rcases h with h | h <;> (simp only [vfa] at h;omega),fun h=>by simp only [vfa] at h;omega⟩
 ·simp only [vfa];omega
 ·intro b hb
  simp only [vfa] at hb;have:=hW.sz;omega
theorem sU (t:List GN)(path:List Int)(vn vp:Value)(gw gs gl gf i:Nat)(P Pp:Nat->Prop)(w:World)(h:kG t vn gw gs gl gf P w)(hp:bT w Pp vp path)(hg:bJ t t.length)(hi:i<t.length)(hpl:path.length<=1000000) :
  Calls Tryz.prog 101 #[.pointer (some ⟨gw,0,none⟩),.int .i64 i,vp] w (aJu (iT t path t.length i 0 true) w):=by
 have HH:=aV4 h;have HPP:=aV4 hp;have HG:=aV4 hg;obtain ⟨Ap,cp,ep,hp1,hp2⟩:=hp.form;subst ep;clear h hp hg;go_enter Tryz.func101,Tryz.ntmps101;go_wp2_with fail;have HW:=aV4 (aKa w gw (.slice Ap path.length cp));generalize ((((w.alloc (.cells #[.pointer (some ⟨gw,0,none⟩)] 91)).alloc (.cells #[.slice Ap path.length cp] 22)).alloc (.cells #[.int .i64 0,.int .i64 0,.string ⟨#[]⟩,.slice none 0 0] 85)).alloc (.cells #[.int .i64 0] 3)).alloc (.cells #[.bool true] 4)=W at *;have HEV:=aV4 (aF1 HH.out HPP.out HW.out);refine (aBt t path vn _ HG.out hpl t.length (vfa gw gs gl gf w.heap.size) i 0 true W hi hi HEV.out.1 HEV.out.2 (by omega) (by omega)).mono ?_;rintro e wu ⟨A2,d2,rfl,hv2,hfu,hsu⟩;have hX:Ext w wu:=((Fr.of_ext (M:=fun b=>w.heap.size<=b) HW.out.ext).trans (hfu.mono (fun b hb=>by rcases hb with hb | hb <;> (simp only [vfa] at hb;omega)))).new_ext (fun b hb=>hb);have hB2:=HW.out.b2.fr hfu (fun hb=>by rcases hb with hb | hb <;> (simp only [vfa] at hb;omega));generalize iT t path t.length (i:Int) 0 true=rr at *;obtain ⟨y,at2,gd2⟩:=rr;simp only at hv2 hsu;have ca:wu.cell? ⟨w.heap.size+1+1+1,0,none⟩=some (.int .i64 at2):=hsu.1.cell' 0 rfl;have cg:wu.cell? ⟨w.heap.size+1+1+1+1,0,none⟩=some (.bool gd2):=hsu.2.cell' 0 rfl
 have la:=aP ca;have lg:=aP cg;have HV2:=aV4 hv2;have HXU:=aV4 hX;have HBR:=aV4 hB2;clear hv2 hfu hsu hX hB2;go_wp2_with fail;have HXQ:=aV4 ((Ext.refl wu).alloc' (.cells #[.int .i64 y.kind,.int .i64 y.n,.string y.s,.slice A2 y.kids.length d2] 85));have HBQ:=aV4 (Blk.new wu 85 #[.int .i64 y.kind,.int .i64 y.n,.string y.s,.slice A2 y.kids.length d2]);generalize wu.alloc (.cells #[.int .i64 y.kind,.int .i64 y.n,.string y.s,.slice A2 y.kids.length d2] 85)=Wq at *;obtain ⟨y0,y1,y2,y3⟩:=aY HBQ.out;have ea:=aB HXQ.out ca;have eg:=aB HXQ.out cg;have hBQ:=HBR.out.ext HXQ.out;obtain ⟨r0,r1,r2,r3⟩:=aY hBQ;have f0:=hBQ.frozen 0;have f1:=hBQ.frozen 1;have f2:=hBQ.frozen 2;have f3:=hBQ.frozen 3;have HRQ:=aV4 hBQ;have n1:¬ wu.heap.size=w.heap.size+1+1:=by omega
 have n2:¬ w.heap.size+1+1+1=w.heap.size+1+1:=by omega
 have n3:¬ w.heap.size+1+1+1+1=w.heap.size+1+1:=by omega
 clear hBQ ca cg
 go_region_held3 (fun w'=>w'.cell? ⟨wu.heap.size,0,none⟩=some (.int .i64 y.kind)∧w'.cell? ⟨wu.heap.size,1,none⟩=some (.int .i64 y.n)∧w'.cell? ⟨wu.heap.size,2,none⟩=some (.string y.s)∧w'.cell? ⟨wu.heap.size,3,none⟩=some (.slice A2 y.kids.length d2)∧w'.cell? ⟨w.heap.size+1+1+1,0,none⟩=some (.int .i64 at2)∧w'.cell? ⟨w.heap.size+1+1+1+1,0,none⟩=some (.bool gd2))
  (first
   | with_reducible exact ⟨cK n1 y0,cK n1 y1,cK n1 y2,cK n1 y3,cK n2 ea,cK n3 eg⟩
   | with_reducible exact ⟨cS n1 y0,cS n1 y1,cS n1 y2,cS n1 y3,cS n2 ea,cS n3 eg⟩
   | go_keep)
  (first
   | fail)
 go_wp2_with fail;clear r0 r1 r2 r3;have hb:=aR (cellsOf y A2 d2) (cs:=[.int .i64 0,.int .i64 0,.string ⟨#[]⟩,.slice none 0 0]) 0 HRQ.out (by simp [cellsOf]);have e:(([.int .i64 0,.int .i64 0,.string ⟨#[]⟩,.slice none 0 0]:List Value).take 0 ++ cellsOf y A2 d2 ++ ([.int .i64 0,.int .i64 0,.string ⟨#[]⟩,.slice none 0 0]:List Value).drop (0+(cellsOf y A2 d2).length)).toArray=(cellsOf y A2 d2).toArray:=by simp [cellsOf]
 rw [e] at hb;have z0:=hb.cell' (u:=.int .i64 y.kind) 0 rfl;have z1:=hb.cell' (u:=.int .i64 y.n) 1 rfl;have z2:=hb.cell' (u:=.string y.s) 2 rfl;have z3:=hb.cell' (u:=.slice A2 y.kids.length d2) 3 rfl;have hXF:Ext w (Wq.setCells (w.heap.size+1+1) 0 (cellsOf y A2 d2)):=((Fr.of_ext (M:=fun _=>False) (HXU.out.trans' HXQ.out)).setCells _ 0 (.inr (by omega))).ext;have hVF:VAt (Wq.setCells (w.heap.size+1+1) 0 (cellsOf y A2 d2)) (fun _=>True) y A2 d2:=(HV2.out.ext HXQ.out).carry (aD.setCells (fun h=>h.2 rfl) _ 0 (fun _ _ _=>rfl)) (fun _ _ _=>trivial);have hgen:(((Wq.setCell ⟨w.heap.size+1+1,0,none⟩ (.int .i64 y.kind)).setCell ⟨w.heap.size+1+1,1,none⟩ (.int .i64 y.n)).setCell ⟨w.heap.size+1+1,2,none⟩ (.string y.s)).setCell ⟨w.heap.size+1+1,3,none⟩ (.slice A2 y.kids.length d2)=Wq.setCells (w.heap.size+1+1) 0 (cellsOf y A2 d2):=rfl;rw [hgen];generalize Wq.setCells (w.heap.size+1+1) 0 (cellsOf y A2 d2)=WF at *;exact bodyPost_ret (v:=.tuple #[eI y A2 d2,.int .i64 at2,.bool gd2]) (by simp [results,Tryz.results101,go_sem,z0,z1,z2,z3]) rfl ⟨A2,d2,rfl,hVF.ext (Ext.refl _).drew',hXF.drew'⟩
def aIl (b:Bool)(w:World)(e:Ending)(w':World):Prop:=∃ (y:GV)(A:Option Addr)(c:Nat),e=.returned (.tuple #[eI y A c,.bool b])∧Ext w w'
theorem aCk (t:List GN)(path:List Int)(vn vp:Value)(gw gs gl gf:Nat)(P Pp:Nat->Prop)(w:World)(h:kG t vn gw gs gl gf P w)(hp:bT w Pp vp path)(hg:bJ t t.length)(hpl:path.length<=1000000) :
  Calls Tryz.prog 47 #[.pointer (some ⟨gw,0,none⟩),vp] w (aIl (aU t path) w):=by
 have htl:t.length<=4096:=hg.2.1;have HRT:=aV4 (show ∀ W,Ext w W->Calls Tryz.prog 100 #[.pointer (some ⟨gw,0,none⟩)] W fun e w'=>e=.returned (.int .i64 ((t.length:Int) - 1))∧W=w' from fun W hx=>aF9 t vn gw gs gl gf P W (h.carry (aD.of_ext hx) (fun _ _ h=>h)) (by omega));have HWB:=aV4 (show aU t path=(decide (0<t.length) && (iT t path t.length ((t.length:Int) - 1) 0 true).good && decide ((iT t path t.length ((t.length:Int) - 1) 0 true).at_=path.length)) from rfl);obtain ⟨Ap,cp,ep,hp1,hp2⟩:=hp.form;subst ep
 by_cases h0:t.length=0
 ·have HF:=aV4 (show aU t path=false by rw [HWB.out,aV8 (by omega)];rfl)
  have HZ:=aV4 (show ((t.length:Int) - 1)=-1 by omega);rw [HZ.out] at HRT;clear h hp hg h0;go_enter Tryz.func47,Tryz.ntmps47;go_wp2_with fail;have HX:=aV4 ((Ext.refl w).alloc' (.cells #[.int .i64 0,.int .i64 0,.string ⟨#[]⟩,.slice none 0 0] 85));have HB:=aV4 (Blk.new w 85 #[.int .i64 0,.int .i64 0,.string ⟨#[]⟩,.slice none 0 0]);generalize w.alloc (.cells #[.int .i64 0,.int .i64 0,.string ⟨#[]⟩,.slice none 0 0] 85)=W at *;obtain ⟨r0,r1,r2,r3⟩:=aY HB.out;have f0:=HB.out.frozen 0;have f1:=HB.out.frozen 1;have f2:=HB.out.frozen 2;have f3:=HB.out.frozen 3;refine (HRT.out W HX.out).mono ?_;rintro e w1 ⟨rfl,rfl⟩;go_wp2_with fail;have hb:=aR [.int .i64 0,.int .i64 0,.string ⟨#[]⟩,.slice none 0 0] (cs:=[.int .i64 0,.int .i64 0,.string ⟨#[]⟩,.slice none 0 0]) 0 HB.out (by simp);have z0:=hb.cell' (u:=.int .i64 0) 0 rfl;have z1:=hb.cell' (u:=.int .i64 0) 1 rfl;have z2:=hb.cell' (u:=.string ⟨#[]⟩) 2 rfl;have z3:=hb.cell' (u:=.slice none 0 0) 3 rfl;have hXF:Ext w (W.setCells w.heap.size 0 [.int .i64 0,.int .i64 0,.string ⟨#[]⟩,.slice none 0 0]):=((Fr.of_ext (M:=fun _=>False) HX.out).setCells _ 0 (.inr (Nat.le_refl _))).ext;have hgen:(((W.setCell ⟨w.heap.size,0,none⟩ (.int .i64 0)).setCell ⟨w.heap.size,1,none⟩ (.int .i64 0)).setCell ⟨w.heap.size,2,none⟩ (.string ⟨#[]⟩)).setCell ⟨w.heap.size,3,none⟩ (.slice none 0 0)=W.setCells w.heap.size 0 [.int .i64 0,.int .i64 0,.string ⟨#[]⟩,.slice none 0 0]:=rfl
  rw [hgen];generalize W.setCells w.heap.size 0 [.int .i64 0,.int .i64 0,.string ⟨#[]⟩,.slice none 0 0]=WF at *;exact bodyPost_ret (v:=.tuple #[eI (.mk 0 0 ⟨#[]⟩ []) none 0,.bool false]) (by simp [results,Tryz.results47,go_sem,z0,z1,z2,z3];exact ⟨rfl,rfl,rfl,rfl⟩) rfl ⟨.mk 0 0 ⟨#[]⟩ [],none,0,by rw [HF.out],hXF⟩
 ·obtain ⟨n,hn⟩:∃ n:Nat,t.length=n+1:=⟨t.length - 1,by omega⟩
  have HZ:=aV4 (show ((t.length:Int) - 1)=(n:Int) by omega);rw [HZ.out] at HRT HWB;have HVA:=aV4 (show ∀ W,Ext w W->Calls Tryz.prog 101 #[.pointer (some ⟨gw,0,none⟩),.int .i64 n,.slice Ap path.length cp] W (aJu (iT t path t.length n 0 true) W) from fun W hx=>sU t path vn _ gw gs gl gf n P Pp W (h.carry (aD.of_ext hx) (fun _ _ h=>h)) (hp.ext hx) hg (by omega) hpl);have HF:=aV4 (show aU t path=((iT t path t.length (n:Int) 0 true).good && decide ((iT t path t.length (n:Int) 0 true).at_=path.length)) by rw [HWB.out,aV7 (by omega)];simp);generalize iT t path t.length (n:Int) 0 true=rr at *;obtain ⟨y,at2,gd2⟩:=rr;simp only at HF;clear h hp hg h0 hn;go_enter Tryz.func47,Tryz.ntmps47;go_wp2_with fail;have HX:=aV4 ((Ext.refl w).alloc' (.cells #[.int .i64 0,.int .i64 0,.string ⟨#[]⟩,.slice none 0 0] 85));have HB:=aV4 (Blk.new w 85 #[.int .i64 0,.int .i64 0,.string ⟨#[]⟩,.slice none 0 0]);generalize w.alloc (.cells #[.int .i64 0,.int .i64 0,.string ⟨#[]⟩,.slice none 0 0] 85)=W at *;refine (HRT.out W HX.out).mono ?_;rintro e w1 ⟨rfl,rfl⟩;go_wp2_with fail;refine (HRT.out W HX.out).mono ?_;rintro e w1 ⟨rfl,rfl⟩;go_wp2_with fail;refine (HVA.out W HX.out).mono ?_;rintro e w2 ⟨A2,d2,rfl,hv2,hx2⟩;have hB2:=HB.out.ext hx2
  obtain ⟨r0,r1,r2,r3⟩:=aY hB2;have f0:=hB2.frozen 0;have f1:=hB2.frozen 1;have f2:=hB2.frozen 2;have f3:=hB2.frozen 3;have lr:=hB2.lt;have HB2:=aV4 hB2;have HX2:=aV4 (HX.out.trans' hx2);clear hB2 hx2 hv2
  cases gd2
  ·have HF2:=aV4 (show aU t path=false by rw [HF.out];rfl)
   go_wp2_with fail;have hb:=aR (cellsOf y A2 d2) (cs:=[.int .i64 0,.int .i64 0,.string ⟨#[]⟩,.slice none 0 0]) 0 HB2.out (by simp [cellsOf]);have z0:=(hb.alloc (.cells #[.int .i64 y.kind,.int .i64 y.n,.string y.s,.slice A2 y.kids.length d2] 85)).cell' (u:=.int .i64 y.kind) 0 rfl;have z1:=(hb.alloc (.cells #[.int .i64 y.kind,.int .i64 y.n,.string y.s,.slice A2 y.kids.length d2] 85)).cell' (u:=.int .i64 y.n) 1 rfl;have z2:=(hb.alloc (.cells #[.int .i64 y.kind,.int .i64 y.n,.string y.s,.slice A2 y.kids.length d2] 85)).cell' (u:=.string y.s) 2 rfl;have z3:=(hb.alloc (.cells #[.int .i64 y.kind,.int .i64 y.n,.string y.s,.slice A2 y.kids.length d2] 85)).cell' (u:=.slice A2 y.kids.length d2) 3 rfl;have hXF:Ext w (w2.setCells w.heap.size 0 (cellsOf y A2 d2)):=((Fr.of_ext (M:=fun _=>False) HX2.out).setCells _ 0 (.inr (Nat.le_refl _))).ext;have hgen:(((w2.setCell ⟨w.heap.size,0,none⟩ (.int .i64 y.kind)).setCell ⟨w.heap.size,1,none⟩ (.int .i64 y.n)).setCell ⟨w.heap.size,2,none⟩ (.string y.s)).setCell ⟨w.heap.size,3,none⟩ (.slice A2 y.kids.length d2)=w2.setCells w.heap.size 0 (cellsOf y A2 d2):=rfl;rw [hgen];generalize w2.setCells w.heap.size 0 (cellsOf y A2 d2)=WF at *;exact bodyPost_ret (v:=.tuple #[eI y A2 d2,.bool false]) (by simp [results,Tryz.results47,go_sem,z0,z1,z2,z3]) rfl ⟨y,A2,d2,by rw [HF2.out],hXF.alloc' _⟩
  ·have HF2:=aV4 (show aU t path=decide (at2=path.length) by rw [HF.out];rfl)
   obtain ⟨bb,hbb⟩:∃ bb,bb=(at2 == (path.length:Int)):=⟨_,rfl⟩;have tb:(at2 == (path.length:Int))=bb:=hbb.symm;have HBB:=aV4 (show aU t path=bb by rw [HF2.out,hbb];rfl);clear hbb;go_wp2_with fail;have hb:=aR (cellsOf y A2 d2) (cs:=[.int .i64 0,.int .i64 0,.string ⟨#[]⟩,.slice none 0 0]) 0 HB2.out (by simp [cellsOf]);have z0:=(hb.alloc (.cells #[.int .i64 y.kind,.int .i64 y.n,.string y.s,.slice A2 y.kids.length d2] 85)).cell' (u:=.int .i64 y.kind) 0 rfl;have z1:=(hb.alloc (.cells #[.int .i64 y.kind,.int .i64 y.n,.string y.s,.slice A2 y.kids.length d2] 85)).cell' (u:=.int .i64 y.n) 1 rfl;have z2:=(hb.alloc (.cells #[.int .i64 y.kind,.int .i64 y.n,.string y.s,.slice A2 y.kids.length d2] 85)).cell' (u:=.string y.s) 2 rfl;have z3:=(hb.alloc (.cells #[.int .i64 y.kind,.int .i64 y.n,.string y.s,.slice A2 y.kids.length d2] 85)).cell' (u:=.slice A2 y.kids.length d2) 3 rfl;have hXF:Ext w (w2.setCells w.heap.size 0 (cellsOf y A2 d2)):=((Fr.of_ext (M:=fun _=>False) HX2.out).setCells _ 0 (.inr (Nat.le_refl _))).ext;have hgen:(((w2.setCell ⟨w.heap.size,0,none⟩ (.int .i64 y.kind)).setCell ⟨w.heap.size,1,none⟩ (.int .i64 y.n)).setCell ⟨w.heap.size,2,none⟩ (.string y.s)).setCell ⟨w.heap.size,3,none⟩ (.slice A2 y.kids.length d2)=w2.setCells w.heap.size 0 (cellsOf y A2 d2):=rfl
   rw [hgen];generalize w2.setCells w.heap.size 0 (cellsOf y A2 d2)=WF at *;exact bodyPost_ret (v:=.tuple #[eI y A2 d2,.bool bb]) (by simp [results,Tryz.results47,go_sem,z0,z1,z2,z3]) rfl ⟨y,A2,d2,by rw [HBB.out],hXF.alloc' _⟩
structure CA where
 c:Nat
 w:Nat
 s:Nat
 l:Nat
 f:Nat
structure dU (t:List GN)(vn:Value)(b:Int)(L:List GE)(g:CA)(P:Nat->Prop)(ve:Value)(w:World):Prop where
 box:Blk w g.c 95 #[vn,.pointer (some ⟨g.w,0,none⟩),.int .i64 b,ve]
 walk:kG t vn g.w g.s g.l g.f P w
 own:∃ xs,w.ownsRow 0 102 6 ve L.length xs∧RL (REn w P) L xs
 excl:∀ k,P k->k ≠ g.c∧some k ≠ ve.ownBlock
 ne:some g.c ≠ ve.ownBlock
 inc:xH L
 bI:0<=b∧b<=1099511627776
 few:L.length<=100000
 short:∀ e ∈ L,e.path.length<=1000
 good:bJ t t.length
def CA.M (g:CA)(ve:Value):Nat->Prop:=fun k=>k=g.c∨some k=ve.ownBlock
section
variable {t:List GN}{vn:Value}{b:Int}{L:List GE}{g:CA}{P Q:Nat->Prop}{ve:Value}{w w':World}
theorem dU.carry (h:dU t vn b L g P ve w)(hk:aD (fun k=>P k∨g.M ve k) w w')(hPQ:∀ k,k<w.heap.size->P k->Q k)(hQ:∀ k,Q k->k ≠ g.c∧some k ≠ ve.ownBlock):dU t vn b L g Q ve w':=by
 obtain ⟨xs,h1,h2⟩:=h.own;have hkP:aD P w w':=fun k hk' hp=>hk k hk' (.inl hp)
 refine ⟨(hk _ h.box.lt (.inr (.inl rfl))).trans h.box,h.walk.carry hkP hPQ,⟨xs,⟨h1.1,?_⟩,h2.move fM hkP hPQ⟩,hQ,h.ne,h.inc,h.bI,h.few,h.short,h.good⟩;rcases h1.2 with h3 | ⟨g',cap,cur,h4,h5,h6,h7⟩
 ·exact .inl h3
 ·exact .inr ⟨g',cap,cur,h4,h5,(hk g' (Blk.lt (t:=102) h6) (.inr (.inr (by rw [h4];rfl)))).trans h6,h7⟩
theorem dU.ext (h:dU t vn b L g P ve w)(hx:Ext w w'):dU t vn b L g P ve w':=h.carry (aD.of_ext hx) (fun _ _ h=>h) h.excl
theorem dU.ens (h:dU t vn b L g P ve w):Ens w (fun k=>P k∨some k=ve.ownBlock) ve L:=by
 obtain ⟨xs,h1,h2⟩:=h.own;exact Lst.of_own h1 (h2.move fM (fun _ _ _=>rfl) (fun _ _ h=>.inl h)) (by have:=h.few;omega) (fun k hk=>.inr hk.symm)
theorem dU.cell3 (h:dU t vn b L g P ve w):w.cell? ⟨g.c,3,none⟩=some ve:=h.box.cell' 3 rfl
end
def aSw (L:List GE)(W:World)(n i:Value)(wr:World):Prop:=∃ (k:Nat)(s:Int),k<=L.length∧i=.int .i64 k∧n=.int .i64 s∧Ext W wr∧0<=s∧s<=1002*k∧s+dE (L.drop k)=dE L
theorem qL (t:List GN)(vn:Value)(b:Int)(L:List GE)(g:CA)(P:Nat->Prop)(ve:Value)(w:World)(h:dU t vn b L g P ve w):Calls Tryz.prog 15 #[.pointer (some ⟨g.c,0,none⟩)] w (dC (.int .i64 (dE L)) w):=by
 have HE:=aV4 h.ens;have c3:=h.cell3;have HSH:=aV4 h.short;have hfw:=h.few;obtain ⟨Al,cl,el,h1,h2⟩:=Lst.form h.ens;subst el;clear h;go_enter Tryz.func15,Tryz.ntmps15;go_wp2_with fail;go_loopw [3,11] (fun n i wr=>aSw L w n i wr) (fun _ i _=>L.length - (intOf i).toNat)
 case atStart=>exact ⟨0,0,Nat.zero_le _,rfl,rfl,Ext.refl _,Int.le_refl _,by omega,by simp⟩
 case round =>
  obtain ⟨k,s,hk,rfl,rfl,hx,s0,s1,hs⟩:=hrel;have HX:=aV4 hx;have HS:=aV4 hs;clear hx hs
  by_cases hlt:k<L.length
  ·obtain ⟨b1,o1,A1,d1,rfl,-,hv1,hgc⟩:=(HE.out.ext HX.out).get hlt
   have HV1:=aV4 hv1;have hpl:=HSH.out _ (aG (d:=default) hlt);have HD:=aV4 (show s+(wE (L.getD k default)+dE (L.drop (k+1)))=dE L by rw [<- HS.out,aH default hlt];rfl);generalize L.getD k default=y at *;have g10:=hgc 0 _ rfl;have g11:=hgc 1 _ rfl;have g12:=hgc 2 _ rfl;have g13:=hgc 3 _ rfl;have g14:=hgc 4 _ rfl;have g15:=hgc 5 _ rfl;rw [Nat.add_zero] at g10;have hle:=hv1.path.le;clear hgc hv1;go_wp2_with fail;refine (aAv y A1 d1 _ (by omega) hle.2.2 hle.1).mono ?_;rintro e w2 ⟨rfl,hx2⟩;have HX2:=aV4 (HX.out.trans' (((Ext.refl _).alloc' _).trans' hx2));have hw1:wE y=2+(y.path.length:Int):=rfl;have hw2:0<=wE y:=by omega
   have hw3:wE y<=1002:=by omega
   clear hx2 hw1;generalize wE y=wy at *;go_wp2_with fail;go_roundw
   case rel=>exact ⟨k+1,s+wy,by omega,by go_num,rfl,HX2.out,by omega,by omega,by have:=HD.out;omega⟩
   case measure=>simp [intOf];omega
  ·have HF:=aV4 (show dE L=s by have:=HS.out;rw [drop_nil (by omega)] at this;simp [dE] at this;omega)
   go_wp2_with fail;go_ret;exact ⟨aM HF.out.symm,HX.out⟩
theorem yI (t:List GN)(vn:Value)(b:Int)(L:List GE)(g:CA)(P Pp:Nat->Prop)(ve vp:Value)(path:List Int)(w:World)(h:dU t vn b L g P ve w)(hp:bT w Pp vp path):Calls Tryz.prog 19 #[.pointer (some ⟨g.c,0,none⟩),vp] w (dC (.bool (gX path L)) w):=by
 obtain ⟨Ap,cp,ep,hp1,hp2⟩:=hp.form;subst ep;have c3:=h.cell3;have hfw:=h.few;have hz:I64 0:=by unfold I64;omega
 have HC:=aV4 (vZ L ⟨path,0,0,0,false,0⟩ Ap cp _ Pp ve w h.ens ⟨hp,hz,hz,hz,hz⟩ h.inc (by omega));obtain ⟨Al,cl,el,h1,h2⟩:=Lst.form h.ens;subst el;clear h hp;simp only at HC;generalize bK path L=fi at *;generalize gX path L=hb at *;go_enter Tryz.func19,Tryz.ntmps19;go_wp2_with fail;refine HC.out.mono ?_;rintro e w1 ⟨rfl,hx1⟩;have HX1:=aV4 hx1;clear hx1;go_wp2_with fail;go_ret;exact ⟨rfl,HX1.out⟩
theorem Tryz.info102:(Tryz.prog.info? 102).map (fun i=>(i.zero,i.size,i.bytes))=some (some (.agg #[.slice none 0 0,.int .i64 0,.int .i64 0,.int .i64 0,.bool false,.int .i64 0]),6,64):=by kernel_rfl
def zE:List Value:=[.slice none 0 0,.int .i64 0,.int .i64 0,.int .i64 0,.bool false,.int .i64 0]
section
variable {P:Program}
theorem vD (w:World){o:Oper}{a:Act}{K:Act->World->Prop}{Q:Exit->Act->World->Prop}(s:Operand)(t:TypeId)
  (ho:o.op=.call { callee:=.builtin .clear,args:=#[s],argTypes:=#[t] })(v:Value)(hd:a.eval s=v){v':Value}{w':World}
  (hr:(Builtin.clear_ #[t] o.type #[v]).run P w=.ok v' w')(h:K (a.put o.dst v') w'):o.wp P a w K Q:=by
 unfold Oper.wp execOp;simp only [ho,resolve,invoke,builtin,Sem.run_bind,Sem.run_pure,Result.andThen_ok,List.map_toArray,List.map_cons,List.map_nil,hd,hr];exact h
theorem jG (w:World){ops:Array Oper}{rest:List Oper}{o:Oper}{a:Act}{Q:Exit->Act->World->Prop}(hgd:o.guard=none)(s:Operand)(t:TypeId)
  (ho:o.op=.call { callee:=.builtin .clear,args:=#[s],argTypes:=#[t] })(v:Value)(hd:a.eval s=v){v':Value}{w':World}
  (hr:(Builtin.clear_ #[t] o.type #[v]).run P w=.ok v' w')(h:wpList P ops Q rest (a.put o.dst v') w'):wpList P ops Q (o :: rest) a w :=
 wpList_plain hgd fun _ hK=>vD w s t ho v hd hr (hK _ _ h)
end
theorem rS (w:World)(ty:TypeId)(g o c:Nat)(cs:List Value)(hB:Blk w g 102 cs.toArray)(ho:o+6<=cs.length) :
  (Builtin.clear_ #[93] ty #[.slice (some ⟨g,o,none⟩) 1 c]).run Tryz.prog w=.ok (.tuple #[]) (w.setCells g o zE):=by
 obtain ⟨i0,hi,hz0,hz1,hz2⟩:=info_parts Tryz.info102;have hst:=run_storeCells_cells (P:=Tryz.prog) g o zE 0 w (fun j hj=>by simp only [zE,List.length_cons,List.length_nil] at hj;rw [Nat.add_zero,hB.cell];simp;omega) (fun j hj=>by rw [Nat.add_zero];exact hB.frozen _) (by intro v hv;simp only [zE,List.mem_cons,List.not_mem_nil,or_false] at hv;rcases hv with rfl | rfl | rfl | rfl | rfl | rfl <;> rfl);rw [Nat.add_zero] at hst;have hv:∀ w,(zeroValue 102).run Tryz.prog w=.ok (.agg #[.slice none 0 0,.int .i64 0,.int .i64 0,.int .i64 0,.bool false,.int .i64 0]) w:=fun w=>by simp [zeroValue,typeInfo,hi,hz0]
 have hc:(Builtin.zeroCells (Value.agg #[.slice none 0 0,.int .i64 0,.int .i64 0,.int .i64 0,.bool false,.int .i64 0]).cells 1).toList=zE:=by kernel_rfl
 simp [Builtin.clear_,run_underlying Tryz.underlying93,hv,hc,hst]
def aSh (g n cap i:Nat)(cur:List Value)(w:World)(e:Ending)(w':World):Prop:=e=.returned (.slice (some ⟨g,0,none⟩) (n - 1) cap) ∧
 ∃ cur':List Value,Blk w' g 102 cur'.toArray∧cur'.length=cap*6∧cur'.take ((n - 1)*6)=cur.take (i*6) ++ (cur.take (n*6)).drop ((i+1)*6)∧Fr (fun k=>k=g) w w'
theorem aBw (g n cap i:Nat)(cur:List Value)(w:World)(hB:Blk w g 102 cur.toArray)(hcl:cur.length=cap*6)(hn:n<=cap)(hi:i<n)(hnn:n<=100000)(hcap:cap<=9223372036854775807)(h1:∀ u ∈ cur.take (n*6),u.oneCell'=true) :
  Calls Tryz.prog 104 #[.slice (some ⟨g,0,none⟩) n cap,.int .i64 i,.int .i64 ((i:Int)+1)] w (aSh g n cap i cur w):=by
 obtain ⟨m,rfl⟩:∃ m,n=i+1+m:=⟨n - (i+1),by omega⟩;have HB:=aV4 hB;have HCL:=aV4 hcl;obtain ⟨i0,hi0,hz0,hz1,hz2⟩:=info_parts Tryz.info102;have HI:=aV4 hi0;obtain ⟨news,hnews⟩:∃ news,news=(cur.take ((i+1+m)*6)).drop ((i+1)*6):=⟨_,rfl⟩;have HNE:=aV4 hnews;have hnl:news.length=m*6:=by rw [hnews];simp only [List.length_drop,List.length_take];omega
 have HNL:=aV4 hnl;have HN1:=aV4 (show ∀ u ∈ news,u.oneCell'=true from fun u hu=>h1 u (by rw [hnews] at hu;exact List.mem_of_mem_drop hu))
 have HNC:=aV4 (show ∀ j u,news[j]?=some u->w.cell? ⟨g,(i+1)*6+j,none⟩=some u from fun j u hu=>by
  rw [hnews,List.getElem?_drop,List.getElem?_take] at hu
  split at hu
  ·rw [hB.cell];simpa using hu
  ·cases hu)
 clear hB hcl hi0 hnews hnl h1;have t1:((i:Int) == (i:Int)+1)=false:=aV5 (by omega);have hi1:(0:Int)<=(i:Int):=by omega
 have hi2:(i:Int)+1<=((i+1+m:Nat):Int):=by omega
 have hi3:((i:Int)+1).toNat=i+1:=by omega
 have hi4:(i:Int)<=(i:Int)+1:=by omega
 have hi5:(0:Int)<=(i:Int)+1:=by omega
 have hic:i<=cap:=by omega
 have hi6:(i:Int)+1<=(i:Int)+1+(m:Int):=by omega
 have hsub:i+1+m - (i+1)=m:=by omega
 have hcells:∀ (A:Addr),(A=⟨g,(i+1)*6,none⟩∨m=0)->∀ j u,news[j]?=some u->w.drew.cell? (A.add j)=some u:=fun A hA j u hu=>by
  rcases hA with rfl | hA
  ·rw [dM];exact HNC.out j u hu
  ·have h0:=HNL.out
   rw [hA] at h0;have:news=[]:=List.eq_nil_of_length_eq_zero (by omega);rw [this] at hu;simp at hu
 have hspare:∀ j,j<news.length->(w.drew.cell? ⟨g,0+i*6+j,none⟩).isSome=true∧w.drew.frozen? ⟨g,0+i*6+j,none⟩=false:=fun j hj=>by
  have h1:=HNL.out;have h2:=HCL.out;obtain ⟨y,hy⟩:=HB.out.some_ (i:=0+i*6+j) (by omega);exact ⟨by rw [fN,hy];rfl,HB.out.frozen _⟩
 have HCE:=aV4 hcells;have HSP:=aV4 hspare;have hB1:=aR news (w:=w.drew) (i*6) HB.out.drew (by have:=HNL.out;have:=HCL.out;omega);have HB1:=aV4 hB1;have HL1:=aV4 (show (cur.take (i*6) ++ news ++ cur.drop (i*6+news.length)).length=cap*6 by have h1:=HNL.out;have h2:=HCL.out;simp only [List.length_append,List.length_take,List.length_drop];omega);clear hcells hspare hB1
 by_cases hc:cap=i+1
 ·obtain rfl:m=0:=by omega
  subst hc;have HCE0:=aV4 (HCE.out ⟨g,0,none⟩ (.inr rfl));have HNLZ:=aV4 (show news.length=0*6 from HNL.out);have HLZ:=aV4 HL1.out;clear HCE HNL HL1 hsub;go_enter Tryz.func104,Tryz.ntmps104;go_wp2_with fail;go_region_law (refine step_append_room rfl (.tmp 22) (.tmp 25) 93 rfl 102 i0 6 Tryz.underlying93 HI.out hz1 g 0 i (i+1) (by simp [Act.eval,Act.put]) ⟨g,0,none⟩ 0 0 news (by simp [Act.eval,Act.put]) (by have:=HNLZ.out;omega) HCE0.out HN1.out (by omega) HSP.out ?_)
  (try rw [Nat.zero_add])
  have HFR:=aV4 (show Fr (fun k=>k=g) w (w.drew.setCells g (i*6) news) from ((Fr.refl _ w).drew).setCells news _ (.inl rfl));generalize w.drew.setCells g (i*6) news=W1 at *;have HCLR:=aV4 (fun ty c=>rS W1 ty g (i*6) c _ HB1.out (by rw [HLZ.out];omega));have h7:¬ i+1=i:=by omega
  have h9:(i:Int)+1<=((i+1:Nat):Int):=by omega
  have h10:i+1 - i=1:=by omega
  go_wp2_with (with_reducible refine jG _ rfl (.tmp 31) 93 rfl (.slice (some ⟨g,i*6,none⟩) 1 1) rfl (HCLR.out _ _) ?_);go_ret;have hB2:=aR zE (w:=W1) (i*6) HB1.out (by rw [HLZ.out];show i*6+6<=(i+1)*6;omega);refine ⟨by rw [show i+1+0 - 1=i by omega];rfl,_,hB2,?_,?_,HFR.out.setCells zE _ (.inl rfl)⟩
  ·have h1:=HLZ.out
   generalize cur.take (i*6) ++ news ++ cur.drop (i*6+news.length)=c1 at *;simp only [List.length_append,List.length_take,List.length_drop,zE,List.length_cons,List.length_nil];omega
  ·have h2:=HNLZ.out
   have h3:=HCL.out;have h4:news=[]:=List.eq_nil_of_length_eq_zero (by omega);have h5:=HNE.out;rw [<- h5,h4];simp only [List.append_nil,List.length_nil,Nat.add_zero,List.take_append_drop];rw [show i+1 - 1=i by omega,List.append_assoc,List.take_left' (by rw [List.length_take];omega)]
 ·have hc':¬ (cap=i):=by omega
  go_enter Tryz.func104,Tryz.ntmps104;go_wp2_with fail;go_region_law (refine step_append_room rfl (.tmp 22) (.tmp 25) 93 rfl 102 i0 6 Tryz.underlying93 HI.out hz1 g 0 i cap (by simp [Act.eval,Act.put]) ⟨g,(i+1)*6,none⟩ m (cap - (i+1)) news (by simp [Act.eval,Act.put]) HNL.out (HCE.out _ (.inl rfl)) HN1.out (by omega) HSP.out ?_)
  (try rw [Nat.zero_add])
  have HFR:=aV4 (show Fr (fun k=>k=g) w (w.drew.setCells g (i*6) news) from ((Fr.refl _ w).drew).setCells news _ (.inl rfl));generalize w.drew.setCells g (i*6) news=W1 at *;have HCLR:=aV4 (fun ty c=>rS W1 ty g ((i+m)*6) c _ HB1.out (by have h1:=HL1.out;omega));have h7:¬ cap=i+m:=by omega
  have h8:(i:Int)+(m:Int)<=(i:Int)+1+(m:Int):=by omega
  have h9:(i:Int)+1+(m:Int)<=(cap:Int):=by omega
  have h10:i+1+m - (i+m)=1:=by omega
  have h11:(0:Int)<=(i:Int)+(m:Int):=by omega
  have h12:((i:Int)+1+(m:Int)).toNat=i+1+m:=by omega
  have h13:((i:Int)+(m:Int)).toNat=i+m:=by omega
  have h14:(0:Int)<=(i:Int)+1+(m:Int):=by omega
  go_wp2_with (with_reducible refine jG _ rfl (.tmp 31) 93 rfl (.slice (some ⟨g,(i+m)*6,none⟩) 1 (cap - (i+m))) rfl (HCLR.out _ _) ?_);go_ret;have hB2:=aR zE (w:=W1) ((i+m)*6) HB1.out (by rw [HL1.out];show (i+m)*6+6<=cap*6;omega);refine ⟨by rw [show i+1+m - 1=i+m by omega];rfl,_,hB2,?_,?_,HFR.out.setCells zE _ (.inl rfl)⟩
  ·have h1:=HL1.out
   generalize cur.take (i*6) ++ news ++ cur.drop (i*6+news.length)=c1 at *;simp only [List.length_append,List.length_take,List.length_drop,zE,List.length_cons,List.length_nil];omega
  ·have h1:=HL1.out
   have h2:=HNL.out;have h3:=HCL.out;rw [show i+1+m - 1=i+m by omega,List.append_assoc,List.take_left' (by rw [List.length_take];omega)];rw [List.take_append_of_le_length (by rw [List.length_append,List.length_take];omega),List.take_of_length_le (by rw [List.length_append,List.length_take];omega),HNE.out]
end Go.Proofs.YtkoeecdjijfjnaaGreat
