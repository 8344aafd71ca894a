/- The contract of slices.Delete at entries. Conditions: none. Before it: Entries of a corpus in memory; byPath, BinarySearchFunc at entries, place, weight. Conditions: none. (printed by gen/j1.py) The contracts of the walker's Root, Value and Whole. Conditions: none. A corpus in memory; the contracts of Bytes, Has, copied. Conditions: none. -/
import Derived.BigGuardPart
import Derived.Deep.RegionLaw
import Derived.Laws.IdiomCopy
import Derived.Test.YtkoeecdjijfjnaaGreatPlK
import Derived.Test.YtkoeecdjijfjnaaGreatH5
namespace Go.Proofs.YtkoeecdjijfjnaaGreat
open Go.RowKit
structure EAt (w:World)(P:Nat→Prop)(e:GE)(A:Option Addr)(c:Nat):Prop where
 path:Ints w P (.slice A e.path.length c) e.path
 kind:I64 e.kind
 at_:I64 e.at_
 code:I64 e.code
 hits:I64 e.hits
def ecells (e:GE)(A:Option Addr)(c:Nat):List Value:=[.slice A e.path.length c,.int .i64 e.kind,.int .i64 e.at_,.int .i64 e.code,.bool e.fresh,.int .i64 e.hits]
abbrev eagg (e:GE)(A:Option Addr)(c:Nat):Value:=.agg #[.slice A e.path.length c,.int .i64 e.kind,.int .i64 e.at_,.int .i64 e.code,.bool e.fresh,.int .i64 e.hits]
def REn (w:World)(P:Nat→Prop)(e:GE)(cs:List Value):Prop:=∃ A c,cs=ecells e A c∧EAt w P e A c
section
variable {w w':World}{P Q:Nat→Prop}
theorem EAt.carry {e:GE}{A:Option Addr}{c:Nat}(h:EAt w P e A c)(hk:Keeps P w w')(hPQ:∀ b,b<w.heap.size→P b→Q b):EAt w' Q e A c:=⟨h.path.carry hk hPQ,h.kind,h.at_,h.code,h.hits⟩
theorem EAt.ext {e:GE}{A:Option Addr}{c:Nat}(h:EAt w P e A c)(hx:Ext w w'):EAt w' P e A c:=h.carry (Keeps.of_ext hx) (fun _ _ h=>h)
theorem elemE:Elem 6 REn:=⟨fun _ _ _ _ h=>by obtain ⟨A,c,rfl,_⟩:=h;rfl,fun _ _ _ _ _ _ h hk hPQ=>by obtain ⟨A,c,e,h⟩:=h;exact ⟨A,c,e,h.carry hk hPQ⟩⟩
end
def Ens (w:World)(P:Nat→Prop)(v:Value)(L:List GE):Prop:=Lst w P 6 (REn w P) v L
section
variable {w w':World}{P Q:Nat→Prop}
theorem Ens.carry {v:Value}{L:List GE}(h:Ens w P v L)(hk:Keeps P w w')(hPQ:∀ b,b<w.heap.size→P b→Q b):Ens w' Q v L:=Lst.carry h (by omega) hk hPQ (fun x _ cs hx=>elemE.carry _ _ _ _ _ _ hx hk hPQ)
theorem Ens.ext {v:Value}{L:List GE}(h:Ens w P v L)(hx:Ext w w'):Ens w' P v L:=h.carry (Keeps.of_ext hx) (fun _ _ h=>h)
theorem Ens.get {A:Option Addr}{n c:Nat}{L:List GE}(h:Ens w P (.slice A n c) L){i:Nat}(hi:i<L.length):∃ b off A' d,A=some ⟨b,off,none⟩∧P b∧EAt w P (L.getD i default) A' d∧(∀ j u,(ecells (L.getD i default) A' d)[j]?=some u→w.cell? ⟨b,off+i*6+j,none⟩=some u):=by
 obtain ⟨b,off,c',cs,e,hb,_,_,⟨A',d,rfl,hv⟩,hc⟩:=Lst.at_ (elemE.len w P) h default hi
 injection e with e _ _
 exact ⟨b,off,A',d,e,hb,hv,hc⟩
end
theorem cells_of_blk6 {w:World}{g:Nat}{t:TypeId}{u0 u1 u2 u3 u4 u5:Value}(h:Blk w g t #[u0,u1,u2,u3,u4,u5]):w.cell? ⟨g,0,none⟩=some u0∧w.cell? ⟨g,1,none⟩=some u1∧w.cell? ⟨g,2,none⟩=some u2∧w.cell? ⟨g,3,none⟩=some u3∧w.cell? ⟨g,4,none⟩=some u4∧w.cell? ⟨g,5,none⟩=some u5:=⟨h.cell' 0 rfl,h.cell' 1 rfl,h.cell' 2 rfl,h.cell' 3 rfl,h.cell' 4 rfl,h.cell' 5 rfl⟩
set_option maxHeartbeats 1000000 in
theorem byPath_any (x y:GE)(A B:Option Addr)(c d:Nat)(P Q:Nat→Prop)(w:World)(hx:EAt w P x A c)(hy:EAt w Q y B d) :
  Calls Tryz.prog 56 #[eagg x A c,eagg y B d] w (RetE (.int .i64 (cmpP x.path y.path)) w):=by
 have HX:=Lib.hid hx
 have HY:=Lib.hid hy
 clear hx hy
 go_enter Tryz.func56,Tryz.ntmps56
 go_wp2_with fail
 refine (orderCompare_any x.path y.path P Q _ _ _ (HX.out.path.ext (((Ext.refl _).alloc' _).alloc' _)) (HY.out.path.ext (((Ext.refl _).alloc' _).alloc' _))).mono ?_
 rintro e w1 ⟨rfl,hx1⟩
 have HX1:=Lib.hid ((((Ext.refl w).alloc' _).alloc' _).trans' hx1)
 clear hx1
 go_wp2_with fail
 go_ret
 exact ⟨rfl,HX1.out⟩
def BeInv (l:List GE)(p:List Int)(W:World)(s9 s10:Value)(wr:World):Prop:=∃ i j:Nat,i≤j∧j≤l.length∧s9=.int .i64 i∧s10=.int .i64 j∧Ext W wr∧(∀ k,k<i→cmpP (l.getD k default).path p<0)∧(∀ k,j≤k→k<l.length→0≤cmpP (l.getD k default).path p)
theorem findE_is {l:List GE}{p:List Int}{i:Nat}(hinc:IncE l)(hi:i≤l.length)(h1:∀ k,k<i→cmpP (l.getD k default).path p<0)(h2:∀ k,i≤k→k<l.length→¬ cmpP (l.getD k default).path p<0) :
  findE p l=i∧hasE p l=(decide (i<l.length) && decide (cmpP (l.getD i default).path p=0)):=by
 have h:=findE_uniq hinc hi h1 h2
 unfold hasE
 rw [← h]
 exact ⟨rfl,rfl⟩
set_option maxRecDepth 100000 in
set_option maxHeartbeats 2000000 in
theorem bsearchE_any (l:List GE)(x:GE)(A:Option Addr)(c:Nat)(P Q:Nat→Prop)(v:Value)(w:World)(hl:Ens w P v l)(hx:EAt w Q x A c)(hinc:IncE l)(hlen:l.length≤1000000) :
  Calls Tryz.prog 107 #[v,eagg x A c,.func (.func 56) #[] #[]] w (RetE2 (.int .i64 (findE x.path l)) (.bool (hasE x.path l)) w):=by
 have HL:=Lib.hid hl
 have HX:=Lib.hid hx
 have HI:=Lib.hid hinc
 obtain ⟨Al,cl,el,h1,h2⟩:=Lst.form hl
 subst el
 clear hl hx hinc
 go_enter Tryz.func107,Tryz.ntmps107
 go_wp2_with fail
 have HE:=Lib.hid ((Ext.refl w).alloc' (.cells #[.slice A x.path.length c,.int .i64 x.kind,.int .i64 x.at_,.int .i64 x.code,.bool x.fresh,.int .i64 x.hits] 102))
 have HB:=Lib.hid (Blk.new w 102 #[.slice A x.path.length c,.int .i64 x.kind,.int .i64 x.at_,.int .i64 x.code,.bool x.fresh,.int .i64 x.hits])
 generalize w.alloc (.cells #[.slice A x.path.length c,.int .i64 x.kind,.int .i64 x.at_,.int .i64 x.code,.bool x.fresh,.int .i64 x.hits] 102)=W at *
 go_loopw [9,10] (fun a b wr=>BeInv l x.path W a b wr) (fun a b _=>(intOf b).toNat - (intOf a).toNat)
 case atStart=>exact ⟨0,l.length,Nat.zero_le _,Nat.le_refl _,rfl,rfl,Ext.refl _,fun k hk=>by omega,fun k hk hk'=>by omega⟩
 case round =>
  obtain ⟨i,j,hij,hj,rfl,rfl,hE,hlo,hhi⟩:=hrel
  have HE1:=Lib.hid hE
  have HLO:=Lib.hid hlo
  have HHI:=Lib.hid hhi
  clear hE hlo hhi
  by_cases hlt:i<j
  ·go_upto_region 5 with fail
   obtain ⟨h,hh⟩:∃ h:Nat,((i:Int)+(j:Int)) / 2=(h:Int):=⟨(((i:Int)+(j:Int)) / 2).toNat,by omega⟩
   have h1':i≤h:=by omega
   have h2':h<j:=by omega
   rw [hh]
   clear hh
   have hhl:h<l.length:=by omega
   obtain ⟨b1,o1,A1,d1,rfl,-,hv1,hgc⟩:=(HL.out.ext (HE.out.trans' HE1.out)).get hhl
   have HV1:=Lib.hid hv1
   have HMX:=Lib.hid (HX.out.ext (HE.out.trans' HE1.out))
   obtain ⟨x0,x1,x2,x3,x4,x5⟩:=cells_of_blk6 (HB.out.ext HE1.out)
   have HG:=Lib.hid (show ∃ y,y=l.getD h default from ⟨_,rfl⟩)
   obtain ⟨y,hy⟩:=HG.out
   have HY:=Lib.hid hy
   rw [← hy] at HV1 hgc
   have g10:=hgc 0 _ rfl
   have g11:=hgc 1 _ rfl
   have g12:=hgc 2 _ rfl
   have g13:=hgc 3 _ rfl
   have g14:=hgc 4 _ rfl
   have g15:=hgc 5 _ rfl
   rw [Nat.add_zero] at g10
   clear hgc
   clear hv1 hy HG
   have hq0:(0:Int)≤(h:Int):=by omega
   have hq1:(h:Int)<(l.length:Int):=by omega
   go_still_tail 6,(by kernel_rfl)
   go_wp2_with fail
   refine (byPath_any y x A1 A d1 c P Q _ (HV1.out.ext (Ext.refl _).drew') (HMX.out.ext (Ext.refl _).drew')).mono ?_
   rintro e w2 ⟨rfl,hx2⟩
   have HX2:=Lib.hid (HE1.out.trans' ((Ext.refl _).drew'.trans' hx2))
   clear hx2
   by_cases hz:cmpP y.path x.path<0
   ·have HZ:=Lib.hid hz
    go_wp2_with fail
    go_roundw
    case rel=>exact ⟨h+1,j,by omega,hj,by go_num,rfl,HX2.out,fun k hk=>inc_mono HI.out x.path (show k≤h by omega) hhl (by rw [← HY.out];exact HZ.out),HHI.out⟩
    case measure=>simp [intOf];omega
   ·have HZ:=Lib.hid hz
    go_wp2_with fail
    go_roundw
    case rel=>exact ⟨i,h,h1',by omega,rfl,rfl,HX2.out,HLO.out,fun k hk hk'=>Int.not_lt.1 (fun hc=>absurd (show cmpP y.path x.path<0 by rw [HY.out];exact inc_mono HI.out x.path hk hk' hc) (Int.not_lt.2 HZ.out))⟩
    case measure=>simp [intOf];omega
  ·obtain rfl:i=j:=by omega
   have HF:=Lib.hid (findE_is (p:=x.path) HI.out hj HLO.out (fun k hk hk'=>Int.not_lt.2 (HHI.out k hk hk')))
   clear HLO HHI
   by_cases hn:i<l.length
   ·have hd:decide (i<l.length)=true:=decide_eq_true hn
    have hd':decide ((i:Int)<(l.length:Int))=true:=decide_eq_true (by omega)
    obtain ⟨b1,o1,A1,d1,rfl,-,hv1,hgc⟩:=(HL.out.ext (HE.out.trans' HE1.out)).get hn
    have HF2:=Lib.hid (show hasE x.path l=decide (cmpP (l.getD i default).path x.path=0) by rw [HF.out.2,hd];rfl)
    have HMX:=Lib.hid (HX.out.ext (HE.out.trans' HE1.out))
    have HV1:=Lib.hid hv1
    obtain ⟨x0,x1,x2,x3,x4,x5⟩:=cells_of_blk6 (HB.out.ext HE1.out)
    generalize l.getD i default=y at *
    have g10:=hgc 0 _ rfl
    have g11:=hgc 1 _ rfl
    have g12:=hgc 2 _ rfl
    have g13:=hgc 3 _ rfl
    have g14:=hgc 4 _ rfl
    have g15:=hgc 5 _ rfl
    rw [Nat.add_zero] at g10
    clear hgc
    have hq0:(0:Int)≤(i:Int):=by omega
    have hq1:(i:Int)<(l.length:Int):=by omega
    clear hv1
    go_upto_region 8 with fail
    go_region_held3 (fun w'=>w'.cell? ⟨b1,o1+i*6,none⟩=some (.slice A1 y.path.length d1)∧w'.cell? ⟨b1,o1+i*6+1,none⟩=some (.int .i64 y.kind)∧w'.cell? ⟨b1,o1+i*6+2,none⟩=some (.int .i64 y.at_)∧w'.cell? ⟨b1,o1+i*6+3,none⟩=some (.int .i64 y.code)∧w'.cell? ⟨b1,o1+i*6+4,none⟩=some (.bool y.fresh)∧w'.cell? ⟨b1,o1+i*6+5,none⟩=some (.int .i64 y.hits)∧w'.cell? ⟨w.heap.size,0,none⟩=some (.slice A x.path.length c)∧w'.cell? ⟨w.heap.size,1,none⟩=some (.int .i64 x.kind)∧w'.cell? ⟨w.heap.size,2,none⟩=some (.int .i64 x.at_)∧w'.cell? ⟨w.heap.size,3,none⟩=some (.int .i64 x.code)∧w'.cell? ⟨w.heap.size,4,none⟩=some (.bool x.fresh)∧w'.cell? ⟨w.heap.size,5,none⟩=some (.int .i64 x.hits))
     (first
      | go_keep
      | (go_split_ands
         exact ⟨cell_ext hx2 ‹_›,cell_ext hx2 ‹_›,cell_ext hx2 ‹_›,cell_ext hx2 ‹_›,cell_ext hx2 ‹_›,cell_ext hx2 ‹_›,cell_ext hx2 ‹_›,cell_ext hx2 ‹_›,cell_ext hx2 ‹_›,cell_ext hx2 ‹_›,cell_ext hx2 ‹_›,cell_ext hx2 ‹_›⟩))
     (first
      | (go_at_call 56;refine (byPath_any y x A1 A d1 c P Q _ (HV1.out.ext (Ext.refl _).drew') (HMX.out.ext (Ext.refl _).drew')).mono ?_;rintro e w2 ⟨rfl,hx2⟩))
    have HX2:=Lib.hid (HE1.out.trans' ((Ext.refl _).drew'.trans' hx2))
    clear hx2
    go_wp2_with fail
    go_ret2
    exact ⟨by rw [HF.out.1,HF2.out];rfl,HE.out.trans' HX2.out⟩
   ·have hd:decide (i<l.length)=false:=decide_eq_false hn
    have hd':decide ((i:Int)<(l.length:Int))=false:=decide_eq_false (by omega)
    have HF2:=Lib.hid (show hasE x.path l=false by rw [HF.out.2,hd];rfl)
    go_wp2_with fail
    go_quiet (fail)
    go_wp2_with fail
    go_ret2
    exact ⟨by rw [HF.out.1,HF2.out];rfl,HE.out.trans' (HE1.out.trans' (Ext.drewN _ _))⟩
set_option maxHeartbeats 1000000 in
theorem place_any (l:List GE)(x:GE)(A:Option Addr)(c:Nat)(P Q:Nat→Prop)(v:Value)(w:World)(hl:Ens w P v l)(hx:EAt w Q x A c)(hinc:IncE l)(hlen:l.length≤1000000) :
  Calls Tryz.prog 55 #[v,eagg x A c,.func (.func 56) #[] #[]] w (RetE2 (.int .i64 (findE x.path l)) (.bool (hasE x.path l)) w):=by
 have HC:=Lib.hid (fun (W:World) (h:Ext w W)=>bsearchE_any l x A c P Q v W (hl.ext h) (hx.ext h) hinc hlen)
 obtain ⟨Al,cl,el,h1,h2⟩:=Lst.form hl
 subst el
 clear hl hx hinc
 go_enter Tryz.func55,Tryz.ntmps55
 go_wp2_with fail
 refine (HC.out _ ((Ext.refl w).alloc' _)).mono ?_
 rintro e w1 ⟨rfl,hx1⟩
 have HX1:=Lib.hid (((Ext.refl w).alloc' _).trans' hx1)
 clear hx1
 go_wp2_with fail
 go_ret2
 exact ⟨rfl,HX1.out⟩
set_option maxHeartbeats 1000000 in
theorem weight_any (x:GE)(A:Option Addr)(c:Nat)(w:World)(h:x.path.length≤1000000000)(_:c≤9223372036854775807)(_:x.path.length≤c):Calls Tryz.prog 53 #[eagg x A c] w (RetE (.int .i64 (wE x)) w):=by
 have HW:=Lib.hid (show wE x=2+(x.path.length:Int) from rfl)
 go_enter Tryz.func53,Tryz.ntmps53
 go_wp2_with fail
 go_ret
 exact ⟨ret_int HW.out.symm,(Ext.refl _).alloc' _⟩
set_option maxHeartbeats 1000000 in
theorem root_any (t:List GN)(vn:Value)(gw gs gl gf:Nat)(P:Nat→Prop)(w:World)(h:WalkAt t vn gw gs gl gf P w)(htl:t.length≤100000) :
  Calls Tryz.prog 100 #[.pointer (some ⟨gw,0,none⟩)] w fun e w'=>e=.returned (.int .i64 ((t.length:Int) - 1))∧w=w':=by
 have c0:=h.box.cell' (u:=.pointer (some ⟨gs,0,none⟩)) 0 rfl
 have c1:=h.sets
 obtain ⟨An,cn,en,hn1,hn2⟩:=h.nodes.form
 subst en
 clear h
 go_enter Tryz.func100,Tryz.ntmps100
 go_wp2_with fail
 go_ret
 exact ⟨rfl,rfl⟩
def RetVal (r:GF)(w:World)(e:Ending)(w':World):Prop:=∃ A c,e=.returned (.tuple #[vagg r.val A c,.int .i64 r.at_,.bool r.good])∧VAt w' (fun _=>True) r.val A c∧Ext w w'
structure ValW (w W:World)(gw:Nat)(vp:Value):Prop where
 b0:Blk W w.heap.size 91 #[.pointer (some ⟨gw,0,none⟩)]
 b1:Blk W (w.heap.size+1) 22 #[vp]
 b2:Blk W (w.heap.size+1+1) 85 #[.int .i64 0,.int .i64 0,.string ⟨#[]⟩,.slice none 0 0]
 b3:Blk W (w.heap.size+1+1+1) 3 #[.int .i64 0]
 b4:Blk W (w.heap.size+1+1+1+1) 4 #[.bool true]
 ext:Ext w W
 sz:W.heap.size=w.heap.size+5
theorem valw_mk (w:World)(gw:Nat)(vp:Value):ValW w (((((w.alloc (.cells #[.pointer (some ⟨gw,0,none⟩)] 91)).alloc (.cells #[vp] 22)).alloc (.cells #[.int .i64 0,.int .i64 0,.string ⟨#[]⟩,.slice none 0 0] 85)).alloc (.cells #[.int .i64 0] 3)).alloc (.cells #[.bool true] 4)) gw vp :=
 ⟨((((Blk.new w 91 _).alloc _).alloc _).alloc _).alloc _,(((Blk.new' (w.alloc _) 22 _ (by simp)).alloc _).alloc _).alloc _,((Blk.new' ((w.alloc _).alloc _) 85 _ (by simp)).alloc _).alloc _,(Blk.new' (((w.alloc _).alloc _).alloc _) 3 _ (by simp)).alloc _,Blk.new' ((((w.alloc _).alloc _).alloc _).alloc _) 4 _ (by simp),(((((Ext.refl w).alloc' _).alloc' _).alloc' _).alloc' _).alloc' _,by simp⟩
def vfa (gw gs gl gf B:Nat):FA:=⟨gw,gs,gl,gf,B+1,B,B+1+1+1,B+1+1+1+1,fun b=>b=B+1+1⟩
theorem valw_env {t:List GN}{path:List Int}{vn vp:Value}{gw gs gl gf:Nat}{P Pp:Nat→Prop}{w W:World}(h:WalkAt t vn gw gs gl gf P w)(hp:Ints w Pp vp path)(hW:ValW w W gw vp):FEnv t path vn vp (vfa gw gs gl gf w.heap.size) W∧FSt (vfa gw gs gl gf w.heap.size) 0 true W:=by
 have hQ:∀ b,b<w.heap.size→(vfa gw gs gl gf w.heap.size).Q b:=fun b hb=>⟨fun h=>by rcases h with h | h <;> (simp only [vfa] at h;omega),fun h=>by simp only [vfa] at h;omega⟩
 refine ⟨⟨h.carry (Keeps.of_ext hW.ext) (fun b hb _=>hQ b hb),hW.b1.cell' 0 rfl,hW.b0.cell' 0 rfl,hp.carry (Keeps.of_ext hW.ext) (fun b hb _=>hQ b hb),?_,?_,?_,?_⟩,hW.b3,hW.b4⟩
 ·exact ⟨fun h=>by rcases h with h | h <;> (simp only [vfa] at h;omega),fun h=>by simp only [vfa] at h;omega⟩
 ·exact ⟨fun h=>by rcases h with h | h <;> (simp only [vfa] at h;omega),fun h=>by simp only [vfa] at h;omega⟩
 ·simp only [vfa];omega
 ·intro b hb
  simp only [vfa] at hb
  have:=hW.sz
  omega
set_option maxRecDepth 100000 in
set_option maxHeartbeats 4000000 in
theorem walkValue_any (t:List GN)(path:List Int)(vn vp:Value)(gw gs gl gf i:Nat)(P Pp:Nat→Prop)(w:World)(h:WalkAt t vn gw gs gl gf P w)(hp:Ints w Pp vp path)(hg:GoodTo t t.length)(hi:i<t.length)(hpl:path.length≤1000000) :
  Calls Tryz.prog 101 #[.pointer (some ⟨gw,0,none⟩),.int .i64 i,vp] w (RetVal (folR t path t.length i 0 true) w):=by
 have HH:=Lib.hid h
 have HPP:=Lib.hid hp
 have HG:=Lib.hid hg
 obtain ⟨Ap,cp,ep,hp1,hp2⟩:=hp.form
 subst ep
 clear h hp hg
 go_enter Tryz.func101,Tryz.ntmps101
 go_wp2_with fail
 have HW:=Lib.hid (valw_mk w gw (.slice Ap path.length cp))
 generalize ((((w.alloc (.cells #[.pointer (some ⟨gw,0,none⟩)] 91)).alloc (.cells #[.slice Ap path.length cp] 22)).alloc (.cells #[.int .i64 0,.int .i64 0,.string ⟨#[]⟩,.slice none 0 0] 85)).alloc (.cells #[.int .i64 0] 3)).alloc (.cells #[.bool true] 4)=W at *
 have HEV:=Lib.hid (valw_env HH.out HPP.out HW.out)
 refine (follow_all t path vn _ HG.out hpl t.length (vfa gw gs gl gf w.heap.size) i 0 true W hi hi HEV.out.1 HEV.out.2 (by omega) (by omega)).mono ?_
 rintro e wu ⟨A2,d2,rfl,hv2,hfu,hsu⟩
 have hX:Ext w wu:=((Fr.of_ext (M:=fun b=>w.heap.size≤b) HW.out.ext).trans (hfu.mono (fun b hb=>by rcases hb with hb | hb <;> (simp only [vfa] at hb;omega)))).new_ext (fun b hb=>hb)
 have hB2:=HW.out.b2.fr hfu (fun hb=>by rcases hb with hb | hb <;> (simp only [vfa] at hb;omega))
 generalize folR t path t.length (i:Int) 0 true=rr at *
 obtain ⟨y,at2,gd2⟩:=rr
 simp only at hv2 hsu
 have ca:wu.cell? ⟨w.heap.size+1+1+1,0,none⟩=some (.int .i64 at2):=hsu.1.cell' 0 rfl
 have cg:wu.cell? ⟨w.heap.size+1+1+1+1,0,none⟩=some (.bool gd2):=hsu.2.cell' 0 rfl
 have la:=lt_of_cell ca
 have lg:=lt_of_cell cg
 have HV2:=Lib.hid hv2
 have HXU:=Lib.hid hX
 have HBR:=Lib.hid hB2
 clear hv2 hfu hsu hX hB2
 go_wp2_with fail
 have HXQ:=Lib.hid ((Ext.refl wu).alloc' (.cells #[.int .i64 y.kind,.int .i64 y.n,.string y.s,.slice A2 y.kids.length d2] 85))
 have HBQ:=Lib.hid (Blk.new wu 85 #[.int .i64 y.kind,.int .i64 y.n,.string y.s,.slice A2 y.kids.length d2])
 generalize wu.alloc (.cells #[.int .i64 y.kind,.int .i64 y.n,.string y.s,.slice A2 y.kids.length d2] 85)=Wq at *
 obtain ⟨y0,y1,y2,y3⟩:=cells_of_blk4 HBQ.out
 have ea:=cell_ext HXQ.out ca
 have eg:=cell_ext HXQ.out cg
 have hBQ:=HBR.out.ext HXQ.out
 obtain ⟨r0,r1,r2,r3⟩:=cells_of_blk4 hBQ
 have f0:=hBQ.frozen 0
 have f1:=hBQ.frozen 1
 have f2:=hBQ.frozen 2
 have f3:=hBQ.frozen 3
 have HRQ:=Lib.hid hBQ
 have n1:¬ wu.heap.size=w.heap.size+1+1:=by omega
 have n2:¬ w.heap.size+1+1+1=w.heap.size+1+1:=by omega
 have n3:¬ w.heap.size+1+1+1+1=w.heap.size+1+1:=by omega
 clear hBQ ca cg
 go_region_held3 (fun w'=>w'.cell? ⟨wu.heap.size,0,none⟩=some (.int .i64 y.kind)∧w'.cell? ⟨wu.heap.size,1,none⟩=some (.int .i64 y.n)∧w'.cell? ⟨wu.heap.size,2,none⟩=some (.string y.s)∧w'.cell? ⟨wu.heap.size,3,none⟩=some (.slice A2 y.kids.length d2)∧w'.cell? ⟨w.heap.size+1+1+1,0,none⟩=some (.int .i64 at2)∧w'.cell? ⟨w.heap.size+1+1+1+1,0,none⟩=some (.bool gd2))
  (first
   | with_reducible exact ⟨cell_res4d n1 y0,cell_res4d n1 y1,cell_res4d n1 y2,cell_res4d n1 y3,cell_res4d n2 ea,cell_res4d n3 eg⟩
   | with_reducible exact ⟨cell_res4 n1 y0,cell_res4 n1 y1,cell_res4 n1 y2,cell_res4 n1 y3,cell_res4 n2 ea,cell_res4 n3 eg⟩
   | go_keep)
  (first
   | fail)
 go_wp2_with fail
 clear r0 r1 r2 r3
 have hb:=setCells_blk (cellsOf y A2 d2) (cs:=[.int .i64 0,.int .i64 0,.string ⟨#[]⟩,.slice none 0 0]) 0 HRQ.out (by simp [cellsOf])
 have e:(([.int .i64 0,.int .i64 0,.string ⟨#[]⟩,.slice none 0 0]:List Value).take 0 ++ cellsOf y A2 d2 ++ ([.int .i64 0,.int .i64 0,.string ⟨#[]⟩,.slice none 0 0]:List Value).drop (0+(cellsOf y A2 d2).length)).toArray=(cellsOf y A2 d2).toArray:=by simp [cellsOf]
 rw [e] at hb
 have z0:=hb.cell' (u:=.int .i64 y.kind) 0 rfl
 have z1:=hb.cell' (u:=.int .i64 y.n) 1 rfl
 have z2:=hb.cell' (u:=.string y.s) 2 rfl
 have z3:=hb.cell' (u:=.slice A2 y.kids.length d2) 3 rfl
 have hXF:Ext w (Wq.setCells (w.heap.size+1+1) 0 (cellsOf y A2 d2)):=((Fr.of_ext (M:=fun _=>False) (HXU.out.trans' HXQ.out)).setCells _ 0 (.inr (by omega))).ext
 have hVF:VAt (Wq.setCells (w.heap.size+1+1) 0 (cellsOf y A2 d2)) (fun _=>True) y A2 d2:=(HV2.out.ext HXQ.out).carry (Keeps.setCells (fun h=>h.2 rfl) _ 0 (fun _ _ _=>rfl)) (fun _ _ _=>trivial)
 have hgen:(((Wq.setCell ⟨w.heap.size+1+1,0,none⟩ (.int .i64 y.kind)).setCell ⟨w.heap.size+1+1,1,none⟩ (.int .i64 y.n)).setCell ⟨w.heap.size+1+1,2,none⟩ (.string y.s)).setCell ⟨w.heap.size+1+1,3,none⟩ (.slice A2 y.kids.length d2)=Wq.setCells (w.heap.size+1+1) 0 (cellsOf y A2 d2):=rfl
 rw [hgen]
 generalize Wq.setCells (w.heap.size+1+1) 0 (cellsOf y A2 d2)=WF at *
 exact bodyPost_ret (v:=.tuple #[vagg y A2 d2,.int .i64 at2,.bool gd2]) (by simp [results,Tryz.results101,go_sem,z0,z1,z2,z3]) rfl ⟨A2,d2,rfl,hVF.ext (Ext.refl _).drew',hXF.drew'⟩
def RetWhole (b:Bool)(w:World)(e:Ending)(w':World):Prop:=∃ (y:GV)(A:Option Addr)(c:Nat),e=.returned (.tuple #[vagg y A c,.bool b])∧Ext w w'
set_option maxRecDepth 100000 in
set_option maxHeartbeats 4000000 in
theorem whole_any (t:List GN)(path:List Int)(vn vp:Value)(gw gs gl gf:Nat)(P Pp:Nat→Prop)(w:World)(h:WalkAt t vn gw gs gl gf P w)(hp:Ints w Pp vp path)(hg:GoodTo t t.length)(hpl:path.length≤1000000) :
  Calls Tryz.prog 47 #[.pointer (some ⟨gw,0,none⟩),vp] w (RetWhole (wholeB t path) w):=by
 have htl:t.length≤4096:=hg.2.1
 have HRT:=Lib.hid (show ∀ W,Ext w W→Calls Tryz.prog 100 #[.pointer (some ⟨gw,0,none⟩)] W fun e w'=>e=.returned (.int .i64 ((t.length:Int) - 1))∧W=w' from fun W hx=>root_any t vn gw gs gl gf P W (h.carry (Keeps.of_ext hx) (fun _ _ h=>h)) (by omega))
 have HWB:=Lib.hid (show wholeB t path=(decide (0<t.length) && (folR t path t.length ((t.length:Int) - 1) 0 true).good && decide ((folR t path t.length ((t.length:Int) - 1) 0 true).at_=path.length)) from rfl)
 obtain ⟨Ap,cp,ep,hp1,hp2⟩:=hp.form
 subst ep
 by_cases h0:t.length=0
 ·have HF:=Lib.hid (show wholeB t path=false by rw [HWB.out,decide_eq_false (by omega)];rfl)
  have HZ:=Lib.hid (show ((t.length:Int) - 1)=-1 by omega)
  rw [HZ.out] at HRT
  clear h hp hg h0
  go_enter Tryz.func47,Tryz.ntmps47
  go_wp2_with fail
  have HX:=Lib.hid ((Ext.refl w).alloc' (.cells #[.int .i64 0,.int .i64 0,.string ⟨#[]⟩,.slice none 0 0] 85))
  have HB:=Lib.hid (Blk.new w 85 #[.int .i64 0,.int .i64 0,.string ⟨#[]⟩,.slice none 0 0])
  generalize w.alloc (.cells #[.int .i64 0,.int .i64 0,.string ⟨#[]⟩,.slice none 0 0] 85)=W at *
  obtain ⟨r0,r1,r2,r3⟩:=cells_of_blk4 HB.out
  have f0:=HB.out.frozen 0
  have f1:=HB.out.frozen 1
  have f2:=HB.out.frozen 2
  have f3:=HB.out.frozen 3
  refine (HRT.out W HX.out).mono ?_
  rintro e w1 ⟨rfl,rfl⟩
  go_wp2_with fail
  have hb:=setCells_blk [.int .i64 0,.int .i64 0,.string ⟨#[]⟩,.slice none 0 0] (cs:=[.int .i64 0,.int .i64 0,.string ⟨#[]⟩,.slice none 0 0]) 0 HB.out (by simp)
  have z0:=hb.cell' (u:=.int .i64 0) 0 rfl
  have z1:=hb.cell' (u:=.int .i64 0) 1 rfl
  have z2:=hb.cell' (u:=.string ⟨#[]⟩) 2 rfl
  have z3:=hb.cell' (u:=.slice none 0 0) 3 rfl
  have hXF:Ext w (W.setCells w.heap.size 0 [.int .i64 0,.int .i64 0,.string ⟨#[]⟩,.slice none 0 0]):=((Fr.of_ext (M:=fun _=>False) HX.out).setCells _ 0 (.inr (Nat.le_refl _))).ext
  have hgen:(((W.setCell ⟨w.heap.size,0,none⟩ (.int .i64 0)).setCell ⟨w.heap.size,1,none⟩ (.int .i64 0)).setCell ⟨w.heap.size,2,none⟩ (.string ⟨#[]⟩)).setCell ⟨w.heap.size,3,none⟩ (.slice none 0 0)=W.setCells w.heap.size 0 [.int .i64 0,.int .i64 0,.string ⟨#[]⟩,.slice none 0 0]:=rfl
  rw [hgen]
  generalize W.setCells w.heap.size 0 [.int .i64 0,.int .i64 0,.string ⟨#[]⟩,.slice none 0 0]=WF at *
  exact bodyPost_ret (v:=.tuple #[vagg (.mk 0 0 ⟨#[]⟩ []) none 0,.bool false]) (by simp [results,Tryz.results47,go_sem,z0,z1,z2,z3];exact ⟨rfl,rfl,rfl,rfl⟩) rfl ⟨.mk 0 0 ⟨#[]⟩ [],none,0,by rw [HF.out],hXF⟩
 ·obtain ⟨n,hn⟩:∃ n:Nat,t.length=n+1:=⟨t.length - 1,by omega⟩
  have HZ:=Lib.hid (show ((t.length:Int) - 1)=(n:Int) by omega)
  rw [HZ.out] at HRT HWB
  have HVA:=Lib.hid (show ∀ W,Ext w W→Calls Tryz.prog 101 #[.pointer (some ⟨gw,0,none⟩),.int .i64 n,.slice Ap path.length cp] W (RetVal (folR t path t.length n 0 true) W) from fun W hx=>walkValue_any t path vn _ gw gs gl gf n P Pp W (h.carry (Keeps.of_ext hx) (fun _ _ h=>h)) (hp.ext hx) hg (by omega) hpl)
  have HF:=Lib.hid (show wholeB t path=((folR t path t.length (n:Int) 0 true).good && decide ((folR t path t.length (n:Int) 0 true).at_=path.length)) by rw [HWB.out,decide_eq_true (by omega)];simp)
  generalize folR t path t.length (n:Int) 0 true=rr at *
  obtain ⟨y,at2,gd2⟩:=rr
  simp only at HF
  clear h hp hg h0 hn
  go_enter Tryz.func47,Tryz.ntmps47
  go_wp2_with fail
  have HX:=Lib.hid ((Ext.refl w).alloc' (.cells #[.int .i64 0,.int .i64 0,.string ⟨#[]⟩,.slice none 0 0] 85))
  have HB:=Lib.hid (Blk.new w 85 #[.int .i64 0,.int .i64 0,.string ⟨#[]⟩,.slice none 0 0])
  generalize w.alloc (.cells #[.int .i64 0,.int .i64 0,.string ⟨#[]⟩,.slice none 0 0] 85)=W at *
  refine (HRT.out W HX.out).mono ?_
  rintro e w1 ⟨rfl,rfl⟩
  go_wp2_with fail
  refine (HRT.out W HX.out).mono ?_
  rintro e w1 ⟨rfl,rfl⟩
  go_wp2_with fail
  refine (HVA.out W HX.out).mono ?_
  rintro e w2 ⟨A2,d2,rfl,hv2,hx2⟩
  have hB2:=HB.out.ext hx2
  obtain ⟨r0,r1,r2,r3⟩:=cells_of_blk4 hB2
  have f0:=hB2.frozen 0
  have f1:=hB2.frozen 1
  have f2:=hB2.frozen 2
  have f3:=hB2.frozen 3
  have lr:=hB2.lt
  have HB2:=Lib.hid hB2
  have HX2:=Lib.hid (HX.out.trans' hx2)
  clear hB2 hx2 hv2
  cases gd2
  ·have HF2:=Lib.hid (show wholeB t path=false by rw [HF.out];rfl)
   go_wp2_with fail
   have hb:=setCells_blk (cellsOf y A2 d2) (cs:=[.int .i64 0,.int .i64 0,.string ⟨#[]⟩,.slice none 0 0]) 0 HB2.out (by simp [cellsOf])
   have z0:=(hb.alloc (.cells #[.int .i64 y.kind,.int .i64 y.n,.string y.s,.slice A2 y.kids.length d2] 85)).cell' (u:=.int .i64 y.kind) 0 rfl
   have z1:=(hb.alloc (.cells #[.int .i64 y.kind,.int .i64 y.n,.string y.s,.slice A2 y.kids.length d2] 85)).cell' (u:=.int .i64 y.n) 1 rfl
   have z2:=(hb.alloc (.cells #[.int .i64 y.kind,.int .i64 y.n,.string y.s,.slice A2 y.kids.length d2] 85)).cell' (u:=.string y.s) 2 rfl
   have z3:=(hb.alloc (.cells #[.int .i64 y.kind,.int .i64 y.n,.string y.s,.slice A2 y.kids.length d2] 85)).cell' (u:=.slice A2 y.kids.length d2) 3 rfl
   have hXF:Ext w (w2.setCells w.heap.size 0 (cellsOf y A2 d2)):=((Fr.of_ext (M:=fun _=>False) HX2.out).setCells _ 0 (.inr (Nat.le_refl _))).ext
   have hgen:(((w2.setCell ⟨w.heap.size,0,none⟩ (.int .i64 y.kind)).setCell ⟨w.heap.size,1,none⟩ (.int .i64 y.n)).setCell ⟨w.heap.size,2,none⟩ (.string y.s)).setCell ⟨w.heap.size,3,none⟩ (.slice A2 y.kids.length d2)=w2.setCells w.heap.size 0 (cellsOf y A2 d2):=rfl
   rw [hgen]
   generalize w2.setCells w.heap.size 0 (cellsOf y A2 d2)=WF at *
   exact bodyPost_ret (v:=.tuple #[vagg y A2 d2,.bool false]) (by simp [results,Tryz.results47,go_sem,z0,z1,z2,z3]) rfl ⟨y,A2,d2,by rw [HF2.out],hXF.alloc' _⟩
  ·have HF2:=Lib.hid (show wholeB t path=decide (at2=path.length) by rw [HF.out];rfl)
   obtain ⟨bb,hbb⟩:∃ bb,bb=(at2 == (path.length:Int)):=⟨_,rfl⟩
   have tb:(at2 == (path.length:Int))=bb:=hbb.symm
   have HBB:=Lib.hid (show wholeB t path=bb by rw [HF2.out,hbb];rfl)
   clear hbb
   go_wp2_with fail
   have hb:=setCells_blk (cellsOf y A2 d2) (cs:=[.int .i64 0,.int .i64 0,.string ⟨#[]⟩,.slice none 0 0]) 0 HB2.out (by simp [cellsOf])
   have z0:=(hb.alloc (.cells #[.int .i64 y.kind,.int .i64 y.n,.string y.s,.slice A2 y.kids.length d2] 85)).cell' (u:=.int .i64 y.kind) 0 rfl
   have z1:=(hb.alloc (.cells #[.int .i64 y.kind,.int .i64 y.n,.string y.s,.slice A2 y.kids.length d2] 85)).cell' (u:=.int .i64 y.n) 1 rfl
   have z2:=(hb.alloc (.cells #[.int .i64 y.kind,.int .i64 y.n,.string y.s,.slice A2 y.kids.length d2] 85)).cell' (u:=.string y.s) 2 rfl
   have z3:=(hb.alloc (.cells #[.int .i64 y.kind,.int .i64 y.n,.string y.s,.slice A2 y.kids.length d2] 85)).cell' (u:=.slice A2 y.kids.length d2) 3 rfl
   have hXF:Ext w (w2.setCells w.heap.size 0 (cellsOf y A2 d2)):=((Fr.of_ext (M:=fun _=>False) HX2.out).setCells _ 0 (.inr (Nat.le_refl _))).ext
   have hgen:(((w2.setCell ⟨w.heap.size,0,none⟩ (.int .i64 y.kind)).setCell ⟨w.heap.size,1,none⟩ (.int .i64 y.n)).setCell ⟨w.heap.size,2,none⟩ (.string y.s)).setCell ⟨w.heap.size,3,none⟩ (.slice A2 y.kids.length d2)=w2.setCells w.heap.size 0 (cellsOf y A2 d2):=rfl
   rw [hgen]
   generalize w2.setCells w.heap.size 0 (cellsOf y A2 d2)=WF at *
   exact bodyPost_ret (v:=.tuple #[vagg y A2 d2,.bool bb]) (by simp [results,Tryz.results47,go_sem,z0,z1,z2,z3]) rfl ⟨y,A2,d2,by rw [HBB.out],hXF.alloc' _⟩
structure CA where
 c:Nat
 w:Nat
 s:Nat
 l:Nat
 f:Nat
structure CorAt (t:List GN)(vn:Value)(b:Int)(L:List GE)(g:CA)(P:Nat→Prop)(ve:Value)(w:World):Prop where
 box:Blk w g.c 95 #[vn,.pointer (some ⟨g.w,0,none⟩),.int .i64 b,ve]
 walk:WalkAt t vn g.w g.s g.l g.f P w
 own:∃ xs,w.ownsRow 0 102 6 ve L.length xs∧RL (REn w P) L xs
 excl:∀ k,P k→k ≠ g.c∧some k ≠ ve.ownBlock
 ne:some g.c ≠ ve.ownBlock
 inc:IncE L
 bI:0≤b∧b≤1099511627776
 few:L.length≤100000
 short:∀ e ∈ L,e.path.length≤1000
 good:GoodTo t t.length
def CA.M (g:CA)(ve:Value):Nat→Prop:=fun k=>k=g.c∨some k=ve.ownBlock
section
variable {t:List GN}{vn:Value}{b:Int}{L:List GE}{g:CA}{P Q:Nat→Prop}{ve:Value}{w w':World}
theorem CorAt.carry (h:CorAt t vn b L g P ve w)(hk:Keeps (fun k=>P k∨g.M ve k) w w')(hPQ:∀ k,k<w.heap.size→P k→Q k)(hQ:∀ k,Q k→k ≠ g.c∧some k ≠ ve.ownBlock):CorAt t vn b L g Q ve w':=by
 obtain ⟨xs,h1,h2⟩:=h.own
 have hkP:Keeps P w w':=fun k hk' hp=>hk k hk' (.inl hp)
 refine ⟨(hk _ h.box.lt (.inr (.inl rfl))).trans h.box,h.walk.carry hkP hPQ,⟨xs,⟨h1.1,?_⟩,h2.move elemE hkP hPQ⟩,hQ,h.ne,h.inc,h.bI,h.few,h.short,h.good⟩
 rcases h1.2 with h3 | ⟨g',cap,cur,h4,h5,h6,h7⟩
 ·exact .inl h3
 ·exact .inr ⟨g',cap,cur,h4,h5,(hk g' (Blk.lt (t:=102) h6) (.inr (.inr (by rw [h4];rfl)))).trans h6,h7⟩
theorem CorAt.ext (h:CorAt t vn b L g P ve w)(hx:Ext w w'):CorAt t vn b L g P ve w':=h.carry (Keeps.of_ext hx) (fun _ _ h=>h) h.excl
theorem CorAt.ens (h:CorAt t vn b L g P ve w):Ens w (fun k=>P k∨some k=ve.ownBlock) ve L:=by
 obtain ⟨xs,h1,h2⟩:=h.own
 exact Lst.of_own h1 (h2.move elemE (fun _ _ _=>rfl) (fun _ _ h=>.inl h)) (by have:=h.few;omega) (fun k hk=>.inr hk.symm)
theorem CorAt.cell3 (h:CorAt t vn b L g P ve w):w.cell? ⟨g.c,3,none⟩=some ve:=h.box.cell' 3 rfl
end
def ByInv (L:List GE)(W:World)(n i:Value)(wr:World):Prop:=∃ (k:Nat)(s:Int),k≤L.length∧i=.int .i64 k∧n=.int .i64 s∧Ext W wr∧0≤s∧s≤1002*k∧s+bytesE (L.drop k)=bytesE L
set_option maxRecDepth 100000 in
set_option maxHeartbeats 1000000 in
theorem bytes_any (t:List GN)(vn:Value)(b:Int)(L:List GE)(g:CA)(P:Nat→Prop)(ve:Value)(w:World)(h:CorAt t vn b L g P ve w):Calls Tryz.prog 15 #[.pointer (some ⟨g.c,0,none⟩)] w (RetE (.int .i64 (bytesE L)) w):=by
 have HE:=Lib.hid h.ens
 have c3:=h.cell3
 have HSH:=Lib.hid h.short
 have hfw:=h.few
 obtain ⟨Al,cl,el,h1,h2⟩:=Lst.form h.ens
 subst el
 clear h
 go_enter Tryz.func15,Tryz.ntmps15
 go_wp2_with fail
 go_loopw [3,11] (fun n i wr=>ByInv L w n i wr) (fun _ i _=>L.length - (intOf i).toNat)
 case atStart=>exact ⟨0,0,Nat.zero_le _,rfl,rfl,Ext.refl _,Int.le_refl _,by omega,by simp⟩
 case round =>
  obtain ⟨k,s,hk,rfl,rfl,hx,s0,s1,hs⟩:=hrel
  have HX:=Lib.hid hx
  have HS:=Lib.hid hs
  clear hx hs
  by_cases hlt:k<L.length
  ·obtain ⟨b1,o1,A1,d1,rfl,-,hv1,hgc⟩:=(HE.out.ext HX.out).get hlt
   have HV1:=Lib.hid hv1
   have hpl:=HSH.out _ (getD_mem (d:=default) hlt)
   have HD:=Lib.hid (show s+(wE (L.getD k default)+bytesE (L.drop (k+1)))=bytesE L by rw [← HS.out,drop_getD default hlt];rfl)
   generalize L.getD k default=y at *
   have g10:=hgc 0 _ rfl
   have g11:=hgc 1 _ rfl
   have g12:=hgc 2 _ rfl
   have g13:=hgc 3 _ rfl
   have g14:=hgc 4 _ rfl
   have g15:=hgc 5 _ rfl
   rw [Nat.add_zero] at g10
   have hle:=hv1.path.le
   clear hgc hv1
   go_wp2_with fail
   refine (weight_any y A1 d1 _ (by omega) hle.2.2 hle.1).mono ?_
   rintro e w2 ⟨rfl,hx2⟩
   have HX2:=Lib.hid (HX.out.trans' (((Ext.refl _).alloc' _).trans' hx2))
   have hw1:wE y=2+(y.path.length:Int):=rfl
   have hw2:0≤wE y:=by omega
   have hw3:wE y≤1002:=by omega
   clear hx2 hw1
   generalize wE y=wy at *
   go_wp2_with fail
   go_roundw
   case rel=>exact ⟨k+1,s+wy,by omega,by go_num,rfl,HX2.out,by omega,by omega,by have:=HD.out;omega⟩
   case measure=>simp [intOf];omega
  ·have HF:=Lib.hid (show bytesE L=s by have:=HS.out;rw [drop_nil (by omega)] at this;simp [bytesE] at this;omega)
   go_wp2_with fail
   go_ret
   exact ⟨ret_int HF.out.symm,HX.out⟩
set_option maxRecDepth 100000 in
set_option maxHeartbeats 1000000 in
theorem has_any (t:List GN)(vn:Value)(b:Int)(L:List GE)(g:CA)(P Pp:Nat→Prop)(ve vp:Value)(path:List Int)(w:World)(h:CorAt t vn b L g P ve w)(hp:Ints w Pp vp path):Calls Tryz.prog 19 #[.pointer (some ⟨g.c,0,none⟩),vp] w (RetE (.bool (hasE path L)) w):=by
 obtain ⟨Ap,cp,ep,hp1,hp2⟩:=hp.form
 subst ep
 have c3:=h.cell3
 have hfw:=h.few
 have hz:I64 0:=by unfold I64;omega
 have HC:=Lib.hid (place_any L ⟨path,0,0,0,false,0⟩ Ap cp _ Pp ve w h.ens ⟨hp,hz,hz,hz,hz⟩ h.inc (by omega))
 obtain ⟨Al,cl,el,h1,h2⟩:=Lst.form h.ens
 subst el
 clear h hp
 simp only at HC
 generalize findE path L=fi at *
 generalize hasE path L=hb at *
 go_enter Tryz.func19,Tryz.ntmps19
 go_wp2_with fail
 refine HC.out.mono ?_
 rintro e w1 ⟨rfl,hx1⟩
 have HX1:=Lib.hid hx1
 clear hx1
 go_wp2_with fail
 go_ret
 exact ⟨rfl,HX1.out⟩
theorem Tryz.info102:(Tryz.prog.info? 102).map (fun i=>(i.zero,i.size,i.bytes))=some (some (.agg #[.slice none 0 0,.int .i64 0,.int .i64 0,.int .i64 0,.bool false,.int .i64 0]),6,64):=by kernel_rfl
def zE:List Value:=[.slice none 0 0,.int .i64 0,.int .i64 0,.int .i64 0,.bool false,.int .i64 0]
section
variable {P:Program}
theorem wp_clear_run (w:World){o:Oper}{a:Act}{K:Act→World→Prop}{Q:Exit→Act→World→Prop}(s:Operand)(t:TypeId)
  (ho:o.op=.call { callee:=.builtin .clear,args:=#[s],argTypes:=#[t] })(v:Value)(hd:a.eval s=v){v':Value}{w':World}
  (hr:(Builtin.clear_ #[t] o.type #[v]).run P w=.ok v' w')(h:K (a.put o.dst v') w'):o.wp P a w K Q:=by
 unfold Oper.wp execOp
 simp only [ho,resolve,invoke,builtin,Sem.run_bind,Sem.run_pure,Result.andThen_ok,List.map_toArray,List.map_cons,List.map_nil,hd,hr]
 exact h
theorem wpList_clear_run (w:World){ops:Array Oper}{rest:List Oper}{o:Oper}{a:Act}{Q:Exit→Act→World→Prop}(hgd:o.guard=none)(s:Operand)(t:TypeId)
  (ho:o.op=.call { callee:=.builtin .clear,args:=#[s],argTypes:=#[t] })(v:Value)(hd:a.eval s=v){v':Value}{w':World}
  (hr:(Builtin.clear_ #[t] o.type #[v]).run P w=.ok v' w')(h:wpList P ops Q rest (a.put o.dst v') w'):wpList P ops Q (o :: rest) a w :=
 wpList_plain hgd fun _ hK=>wp_clear_run w s t ho v hd hr (hK _ _ h)
end
theorem run_clearE (w:World)(ty:TypeId)(g o c:Nat)(cs:List Value)(hB:Blk w g 102 cs.toArray)(ho:o+6≤cs.length) :
  (Builtin.clear_ #[93] ty #[.slice (some ⟨g,o,none⟩) 1 c]).run Tryz.prog w=.ok (.tuple #[]) (w.setCells g o zE):=by
 obtain ⟨i0,hi,hz0,hz1,hz2⟩:=info_parts Tryz.info102
 have hst:=run_storeCells_cells (P:=Tryz.prog) g o zE 0 w (fun j hj=>by simp only [zE,List.length_cons,List.length_nil] at hj;rw [Nat.add_zero,hB.cell];simp;omega) (fun j hj=>by rw [Nat.add_zero];exact hB.frozen _) (by intro v hv;simp only [zE,List.mem_cons,List.not_mem_nil,or_false] at hv;rcases hv with rfl | rfl | rfl | rfl | rfl | rfl <;> rfl)
 rw [Nat.add_zero] at hst
 have hv:∀ w,(zeroValue 102).run Tryz.prog w=.ok (.agg #[.slice none 0 0,.int .i64 0,.int .i64 0,.int .i64 0,.bool false,.int .i64 0]) w:=fun w=>by simp [zeroValue,typeInfo,hi,hz0]
 have hc:(Builtin.zeroCells (Value.agg #[.slice none 0 0,.int .i64 0,.int .i64 0,.int .i64 0,.bool false,.int .i64 0]).cells 1).toList=zE:=by kernel_rfl
 simp [Builtin.clear_,run_underlying Tryz.underlying93,hv,hc,hst]
def RetDel (g n cap i:Nat)(cur:List Value)(w:World)(e:Ending)(w':World):Prop:=e=.returned (.slice (some ⟨g,0,none⟩) (n - 1) cap) ∧
 ∃ cur':List Value,Blk w' g 102 cur'.toArray∧cur'.length=cap*6∧cur'.take ((n - 1)*6)=cur.take (i*6) ++ (cur.take (n*6)).drop ((i+1)*6)∧Fr (fun k=>k=g) w w'
set_option maxRecDepth 100000 in
set_option maxHeartbeats 4000000 in
theorem delete_any (g n cap i:Nat)(cur:List Value)(w:World)(hB:Blk w g 102 cur.toArray)(hcl:cur.length=cap*6)(hn:n≤cap)(hi:i<n)(hnn:n≤100000)(hcap:cap≤9223372036854775807)(h1:∀ u ∈ cur.take (n*6),u.oneCell'=true) :
  Calls Tryz.prog 104 #[.slice (some ⟨g,0,none⟩) n cap,.int .i64 i,.int .i64 ((i:Int)+1)] w (RetDel g n cap i cur w):=by
 obtain ⟨m,rfl⟩:∃ m,n=i+1+m:=⟨n - (i+1),by omega⟩
 have HB:=Lib.hid hB
 have HCL:=Lib.hid hcl
 obtain ⟨i0,hi0,hz0,hz1,hz2⟩:=info_parts Tryz.info102
 have HI:=Lib.hid hi0
 obtain ⟨news,hnews⟩:∃ news,news=(cur.take ((i+1+m)*6)).drop ((i+1)*6):=⟨_,rfl⟩
 have HNE:=Lib.hid hnews
 have hnl:news.length=m*6:=by rw [hnews];simp only [List.length_drop,List.length_take];omega
 have HNL:=Lib.hid hnl
 have HN1:=Lib.hid (show ∀ u ∈ news,u.oneCell'=true from fun u hu=>h1 u (by rw [hnews] at hu;exact List.mem_of_mem_drop hu))
 have HNC:=Lib.hid (show ∀ j u,news[j]?=some u→w.cell? ⟨g,(i+1)*6+j,none⟩=some u from fun j u hu=>by
  rw [hnews,List.getElem?_drop,List.getElem?_take] at hu
  split at hu
  ·rw [hB.cell];simpa using hu
  ·cases hu)
 clear hB hcl hi0 hnews hnl h1
 have t1:((i:Int) == (i:Int)+1)=false:=beq_eq_false_iff_ne.2 (by omega)
 have hi1:(0:Int)≤(i:Int):=by omega
 have hi2:(i:Int)+1≤((i+1+m:Nat):Int):=by omega
 have hi3:((i:Int)+1).toNat=i+1:=by omega
 have hi4:(i:Int)≤(i:Int)+1:=by omega
 have hi5:(0:Int)≤(i:Int)+1:=by omega
 have hic:i≤cap:=by omega
 have hi6:(i:Int)+1≤(i:Int)+1+(m:Int):=by omega
 have hsub:i+1+m - (i+1)=m:=by omega
 have hcells:∀ (A:Addr),(A=⟨g,(i+1)*6,none⟩∨m=0)→∀ j u,news[j]?=some u→w.drew.cell? (A.add j)=some u:=fun A hA j u hu=>by
  rcases hA with rfl | hA
  ·rw [addr_add_none];exact HNC.out j u hu
  ·have h0:=HNL.out
   rw [hA] at h0
   have:news=[]:=List.eq_nil_of_length_eq_zero (by omega)
   rw [this] at hu
   simp at hu
 have hspare:∀ j,j<news.length→(w.drew.cell? ⟨g,0+i*6+j,none⟩).isSome=true∧w.drew.frozen? ⟨g,0+i*6+j,none⟩=false:=fun j hj=>by
  have h1:=HNL.out
  have h2:=HCL.out
  obtain ⟨y,hy⟩:=HB.out.some_ (i:=0+i*6+j) (by omega)
  exact ⟨by rw [cell_drew',hy];rfl,HB.out.frozen _⟩
 have HCE:=Lib.hid hcells
 have HSP:=Lib.hid hspare
 have hB1:=setCells_blk news (w:=w.drew) (i*6) HB.out.drew (by have:=HNL.out;have:=HCL.out;omega)
 have HB1:=Lib.hid hB1
 have HL1:=Lib.hid (show (cur.take (i*6) ++ news ++ cur.drop (i*6+news.length)).length=cap*6 by have h1:=HNL.out;have h2:=HCL.out;simp only [List.length_append,List.length_take,List.length_drop];omega)
 clear hcells hspare hB1
 by_cases hc:cap=i+1
 ·obtain rfl:m=0:=by omega
  subst hc
  have HCE0:=Lib.hid (HCE.out ⟨g,0,none⟩ (.inr rfl))
  have HNLZ:=Lib.hid (show news.length=0*6 from HNL.out)
  have HLZ:=Lib.hid HL1.out
  clear HCE HNL HL1 hsub
  go_enter Tryz.func104,Tryz.ntmps104
  go_wp2_with fail
  go_region_law (refine step_append_room rfl (.tmp 22) (.tmp 25) 93 rfl 102 i0 6 Tryz.underlying93 HI.out hz1 g 0 i (i+1) (by simp [Act.eval,Act.put]) ⟨g,0,none⟩ 0 0 news (by simp [Act.eval,Act.put]) (by have:=HNLZ.out;omega) HCE0.out HN1.out (by omega) HSP.out ?_)
  (try rw [Nat.zero_add])
  have HFR:=Lib.hid (show Fr (fun k=>k=g) w (w.drew.setCells g (i*6) news) from ((Fr.refl _ w).drew).setCells news _ (.inl rfl))
  generalize w.drew.setCells g (i*6) news=W1 at *
  have HCLR:=Lib.hid (fun ty c=>run_clearE W1 ty g (i*6) c _ HB1.out (by rw [HLZ.out];omega))
  have h7:¬ i+1=i:=by omega
  have h9:(i:Int)+1≤((i+1:Nat):Int):=by omega
  have h10:i+1 - i=1:=by omega
  go_wp2_with (with_reducible refine wpList_clear_run _ rfl (.tmp 31) 93 rfl (.slice (some ⟨g,i*6,none⟩) 1 1) rfl (HCLR.out _ _) ?_)
  go_ret
  have hB2:=setCells_blk zE (w:=W1) (i*6) HB1.out (by rw [HLZ.out];show i*6+6≤(i+1)*6;omega)
  refine ⟨by rw [show i+1+0 - 1=i by omega];rfl,_,hB2,?_,?_,HFR.out.setCells zE _ (.inl rfl)⟩
  ·have h1:=HLZ.out
   generalize cur.take (i*6) ++ news ++ cur.drop (i*6+news.length)=c1 at *
   simp only [List.length_append,List.length_take,List.length_drop,zE,List.length_cons,List.length_nil]
   omega
  ·have h2:=HNLZ.out
   have h3:=HCL.out
   have h4:news=[]:=List.eq_nil_of_length_eq_zero (by omega)
   have h5:=HNE.out
   rw [← h5,h4]
   simp only [List.append_nil,List.length_nil,Nat.add_zero,List.take_append_drop]
   rw [show i+1 - 1=i by omega,List.append_assoc,List.take_left' (by rw [List.length_take];omega)]
 ·have hc':¬ (cap=i):=by omega
  go_enter Tryz.func104,Tryz.ntmps104
  go_wp2_with fail
  go_region_law (refine step_append_room rfl (.tmp 22) (.tmp 25) 93 rfl 102 i0 6 Tryz.underlying93 HI.out hz1 g 0 i cap (by simp [Act.eval,Act.put]) ⟨g,(i+1)*6,none⟩ m (cap - (i+1)) news (by simp [Act.eval,Act.put]) HNL.out (HCE.out _ (.inl rfl)) HN1.out (by omega) HSP.out ?_)
  (try rw [Nat.zero_add])
  have HFR:=Lib.hid (show Fr (fun k=>k=g) w (w.drew.setCells g (i*6) news) from ((Fr.refl _ w).drew).setCells news _ (.inl rfl))
  generalize w.drew.setCells g (i*6) news=W1 at *
  have HCLR:=Lib.hid (fun ty c=>run_clearE W1 ty g ((i+m)*6) c _ HB1.out (by have h1:=HL1.out;omega))
  have h7:¬ cap=i+m:=by omega
  have h8:(i:Int)+(m:Int)≤(i:Int)+1+(m:Int):=by omega
  have h9:(i:Int)+1+(m:Int)≤(cap:Int):=by omega
  have h10:i+1+m - (i+m)=1:=by omega
  have h11:(0:Int)≤(i:Int)+(m:Int):=by omega
  have h12:((i:Int)+1+(m:Int)).toNat=i+1+m:=by omega
  have h13:((i:Int)+(m:Int)).toNat=i+m:=by omega
  have h14:(0:Int)≤(i:Int)+1+(m:Int):=by omega
  go_wp2_with (with_reducible refine wpList_clear_run _ rfl (.tmp 31) 93 rfl (.slice (some ⟨g,(i+m)*6,none⟩) 1 (cap - (i+m))) rfl (HCLR.out _ _) ?_)
  go_ret
  have hB2:=setCells_blk zE (w:=W1) ((i+m)*6) HB1.out (by rw [HL1.out];show (i+m)*6+6≤cap*6;omega)
  refine ⟨by rw [show i+1+m - 1=i+m by omega];rfl,_,hB2,?_,?_,HFR.out.setCells zE _ (.inl rfl)⟩
  ·have h1:=HL1.out
   generalize cur.take (i*6) ++ news ++ cur.drop (i*6+news.length)=c1 at *
   simp only [List.length_append,List.length_take,List.length_drop,zE,List.length_cons,List.length_nil]
   omega
  ·have h1:=HL1.out
   have h2:=HNL.out
   have h3:=HCL.out
   rw [show i+1+m - 1=i+m by omega,List.append_assoc,List.take_left' (by rw [List.length_take];omega)]
   rw [List.take_append_of_le_length (by rw [List.length_append,List.length_take];omega),List.take_of_length_le (by rw [List.length_append,List.length_take];omega),HNE.out]
end Go.Proofs.YtkoeecdjijfjnaaGreat
