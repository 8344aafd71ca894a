/- Plain laws: the program's checks of values and nodes are those of the reference. Conditions: none. Before it: The contracts of the program's Sets.find and Of. Conditions: none. The contract of the program's NewSets. Conditions: none. Contracts of the program's parts and inRange. Conditions: none. The contract of the program's inRange. Conditions: none. -/
import Derived.Test.YtkoeecdjijfjnaaGreatE5
namespace Go.Proofs.YtkoeecdjijfjnaaGreat
open Go.RowKit
theorem uniR_true {before:List GL}{bind:Bool}:∀ (zs:List Int)(k:Nat)(out:List GV),uniR before bind k out true zs=⟨[],true⟩
 | [],_,_=>by simp [uniR]
 | z :: zs,k,out=>by
  simp only [uniR]
  split
  ·exact uniR_true zs _ _
  ·simp only [Bool.true_or];exact uniR_true zs _ _
theorem uniR_uniP {before:List GL}{bind:Bool}:∀ (zs:List Int)(k:Nat)(out:List GV),(∀ z ∈ zs,LOK (before.getD z.toNat default))→Inc out→¬ (bind=true∧k=0)→uniR before bind k out false zs=uniP before out zs
 | [],_,_,_,_,_=>by simp [uniR,uniP]
 | z :: zs,k,out,hz,ho,hb=>by
  have hl:=hz z (by simp)
  simp only [uniR,uniP]
  rw [if_neg hb,mergeV_sort ho hl.inc]
  simp only [Bool.false_or]
  cases e:(before.getD z.toNat default).many
  ·simp only [Bool.false_or,Bool.false_eq_true,if_false]
   by_cases h:1024<(sortR (out ++ (before.getD z.toNat default).vals)).length
   ·rw [decide_eq_true h,uniR_true,if_pos h]
   ·rw [decide_eq_false h,if_neg h]
    exact uniR_uniP zs (k+1) _ (fun y hy=>hz y (by simp [hy])) (sortR_inc _) (by omega)
  ·simp only [Bool.true_or,if_true]
   exact uniR_true zs _ _
theorem prodP_seqR {before:List GL}{x:GN}(hz:∀ z ∈ x.kids,LOK (before.getD z.toNat default)):prodP before x=seqR x before:=by
 unfold prodP seqR
 split
 ·next h=>rw [h]
 ·next rows h =>
  rw [h]
  obtain ⟨a,_,_,_⟩:=seqRows_ok x.kids [[]] 0 hz (List.pairwise_singleton _ _) (by simp) (by simp) (by simp) rows h
  show _=GL.mk (sortR (rows.map (madeV x.name))) false
  rw [sortR_id (madeV_inc x.name a)]
theorem list_full {t:List GN}{i:Nat}(hg:GoodTo t (i+1)):(listsR t).getD i default=listR (listsR t) (t.getD i default):=by
 have hit:i<t.length:=by have:=hg.1;omega
 have hn:=(hg.at_ (j:=i) (by omega)).node
 have hk:∀ z ∈ (t.getD i default).kids,(listsR (t.take i)).getD z.toNat default=(listsR t).getD z.toNat default:=fun z hz=>lists_kid hit (hn.kids z hz)
 have hsq:∀ (zs:List Int) (rows:List (List GV)),(∀ z ∈ zs,(listsR (t.take i)).getD z.toNat default=(listsR t).getD z.toNat default)→seqRows (listsR (t.take i)) rows zs=seqRows (listsR t) rows zs:=by
  intro zs
  induction zs with
  | nil=>intro rows _;rfl
  | cons z zs ih=>intro rows h;simp only [seqRows];rw [h z (by simp)];split;rfl;exact ih _ (fun y hy=>h y (by simp [hy]))
 have hun:∀ (bind:Bool) (zs:List Int) (k:Nat) (out:List GV) (m:Bool),(∀ z ∈ zs,(listsR (t.take i)).getD z.toNat default=(listsR t).getD z.toNat default)→uniR (listsR (t.take i)) bind k out m zs=uniR (listsR t) bind k out m zs:=by
  intro bind zs
  induction zs with
  | nil=>intro k out m _;rfl
  | cons z zs ih =>
   intro k out m h
   simp only [uniR]
   rw [h z (by simp)]
   split
   ·exact ih _ _ _ (fun y hy=>h y (by simp [hy]))
   ·exact ih _ _ _ (fun y hy=>h y (by simp [hy]))
 rw [lists_get hit]
 unfold listR
 split
 ·rfl
 ·split
  ·rfl
  ·split
   ·unfold seqR
    rw [hsq _ _ hk]
   ·exact hun _ _ _ _ _ hk
theorem Ints.tail {w:World}{P:Nat→Prop}{b off c:Nat}{z:Int}{l:List Int}(h:Ints w P (.slice (some ⟨b,off,none⟩) (l.length+1) c) (z :: l)):Ints w P (.slice (some ⟨b,off+1,none⟩) l.length (c - 1)) l:=by
 obtain ⟨A,c',e,h1,h2,h3,h4⟩:=h
 injection e with e1 e2 e3
 subst e1 e3
 have h5:=h4.drop (k:=1) (by simp)
 simp only [List.length_cons,Nat.add_sub_cancel,List.map_cons,List.drop_succ_cons,List.drop_zero,Nat.one_mul] at h5
 simp only [List.length_cons] at h1 h2
 exact ⟨_,c - 1,rfl,by omega,by omega,fun y hy=>h3 y (by simp [hy]),h5⟩
def FRangeInv (lo:Int)(N:Nat)(w:World)(v n:Value)(wr:World):Prop :=
 ∃ (k:Nat) (xs:List Value),k≤N∧n=.int .i64 (lo+k)∧wr.ownsRow w.heap.size 85 4 v k xs∧RVs wr (fun _=>False) (rangeV lo k) xs∧Ext w wr
set_option maxRecDepth 100000 in
set_option maxHeartbeats 4000000 in
theorem find_step (t:List GN)(vn:Value)(f:Nat)(hO:OfSaid t vn f):FindSaid t vn (f+1):=by
 intro g i w hif hg hs
 have HG:=Lib.hid hg
 have HS:=Lib.hid hs
 have hit:i<t.length:=by have:=hg.1;omega
 have hi4:t.length≤4096:=hg.2.1
 have HOK:=Lib.hid (hg.at_ (j:=i) (by omega)).node
 have HLL:=Lib.hid (list_full hg)
 have HFEW:=Lib.hid (kids_few hg (j:=i) (by omega))
 have HLOK:=Lib.hid (show ∀ z ∈ (t.getD i default).kids,LOK ((listsR t).getD z.toNat default) from fun z hz=>by have h:=HOK.out.kids z hz;exact lists_ok hg z.toNat (by omega))
 obtain ⟨kn,ls,ms,h⟩:=hs
 have hnd:=h.nodes
 have HBX:=Lib.hid h.box
 obtain ⟨An,cn,en,hn1,hn2⟩:=hnd.form
 subst en
 obtain ⟨b1,o1,a1,rfl,hb1,ha1,hc1⟩:=hnd.get hit
 have HB1:=Lib.hid hb1
 have b0:=HBX.out.cell' (u:=.slice (some ⟨b1,o1,none⟩) t.length cn) 0 rfl
 have HA:=Lib.hid ha1
 have HC:=Lib.hid hc1
 have c0:=hc1.c0
 have hi0:(0:Int)≤(i:Int):=by omega
 have hi1:(i:Int)<(t.length:Int):=by omega
 have lb1:=hc1.lt
 clear hg hnd hc1 ha1 hb1 h
 generalize t.getD i default=x at *
 have hkd:=HOK.out.kind
 rw [HLL.out]
 by_cases k0:x.kind=0
 ·have t0:(x.kind == 0)=true:=beq_iff_eq.2 k0
  have HR:=Lib.hid (show listR (listsR t) x=⟨[x.value],false⟩ by unfold listR;rw [if_pos k0])
  have c8:=HC.out.c8
  have c9:=HC.out.c9
  have c10:=HC.out.c10
  have c11:=HC.out.c11
  clear k0
  go_enter Tryz.func181,Tryz.ntmps181
  go_wp2_with fail
  go_ret2
  rw [HR.out]
  refine ⟨some ⟨w.heap.size,0,none⟩,1,rfl,?_,Fr.of_ext ((Ext.refl w).alloc' _),HS.out.ext ((Ext.refl w).alloc' _)⟩
  refine ⟨some ⟨w.heap.size,0,none⟩,1,cellsOf x.value a1.xA a1.xc,rfl,by simp,by simp,⟨rfl,fun _=>⟨w.heap.size,0,rfl,HS.out.newQ (Nat.le_refl _),fun j u hu=>cell_new' _ _ _ _ _ _ (by simp) (by simpa [cellsOf] using hu)⟩⟩,RVs.one (HA.out.value.ext ((Ext.refl w).alloc' _)).rv⟩
 have t0:(x.kind == 0)=false:=beq_eq_false_iff_ne.2 k0
 by_cases k1:x.kind=1
 ·have t1:(x.kind == 1)=true:=beq_iff_eq.2 k1
  have HR:=Lib.hid (show listR (listsR t) x=if 1024≤x.hi - x.lo then ⟨[],true⟩ else ⟨rangeV x.lo (x.hi - x.lo+1).toNat,false⟩ by unfold listR;rw [if_neg k0,if_pos k1])
  have hnum:=numbersB_ok HOK.out.numbers
  have c2:=HC.out.c2
  have c3:=HC.out.c3
  have hwr:IntKind.i64.wrap (x.hi - x.lo)=x.hi - x.lo:=IntWalk.i64_in _ (by omega)
  clear k0 k1
  by_cases hbig:1024≤x.hi - x.lo
  ·have tb:decide (1024≤x.hi - x.lo)=true:=decide_eq_true hbig
   have HR2:=Lib.hid (HR.out.trans (if_pos hbig))
   go_enter Tryz.func181,Tryz.ntmps181
   go_wp2_with fail
   go_quiet (fail)
   go_wp2_with fail
   go_ret2
   rw [HR2.out]
   exact RetSet.none_ (Fr.of_ext ((Ext.refl w).drewN' _)) (HS.out.ext ((Ext.refl w).drewN' _))
  ·have tb:decide (1024≤x.hi - x.lo)=false:=decide_eq_false hbig
   have HR2:=Lib.hid (HR.out.trans (if_neg hbig))
   obtain ⟨N,hN⟩:∃ N:Nat,x.hi - x.lo+1=N:=⟨(x.hi - x.lo+1).toNat,by omega⟩
   have HN:=Lib.hid hN
   have hhi1:x.lo+N≤x.hi+1:=by omega
   have hhi2:x.hi+1≤x.lo+N:=by omega
   have hN2:N≤1024:=by omega
   clear hN
   obtain ⟨i0,hi,hz0,hz1,hz2⟩:=info_parts Tryz.info85
   have HI:=Lib.hid hi
   clear hi
   go_enter Tryz.func181,Tryz.ntmps181
   go_wp2_with fail
   go_quiet (fail)
   clear hwr
   go_wp2_with fail
   go_loopw [7,8] (fun v n wr=>FRangeInv x.lo N w v n wr) (fun _ n _=>(x.hi+1 - intOf n).toNat)
   case atStart=>exact ⟨0,[],Nat.zero_le _,by simp,own_none _ _ _ _,rfl,(Ext.refl w).drewN' _⟩
   case round =>
    obtain ⟨k,xs,hk,rfl,hown,hrv,hx⟩:=hrel
    have HOWN:=Lib.hid hown
    have HRV:=Lib.hid hrv
    have HX:=Lib.hid hx
    have hsz:=hx.size
    clear c0 c2 c3
    have c3:=(HC.out.ext hx).c3
    clear hown hrv hx
    by_cases hlt:k<N
    ·have tl:decide (x.lo+(k:Int)≤x.hi)=true:=decide_eq_true (by omega)
     go_wp2_with (at_builtin;go_must (refine wpList_append_new _ rfl (.tmp 50) (.tmp 53) 83 (by rfl) w.heap.size 85 i0 _ 4 56 Tryz.underlying83 HI.out hz0 hz1 hz2 rfl (by omega) u7 _ _ rfl (HOWN.out.alloc _) (fun _=>True) (some ⟨wr.heap.size,0,none⟩) 1 1 [.int .i64 0,.int .i64 (x.lo+k),.string ByteArray.empty,.slice none 0 0] rfl (Sl.new _ _ _ _ _ rfl) (by simp [Value.oneCell']) (by omega) (by omega) (by simp;omega) ?_);intro v2 w2 ho2 hbl2)
     go_roundw
     case rel =>
      have hx2:Below w.heap.size wr w2:=((Below.refl _ wr).alloc hsz _).trans hbl2
      refine ⟨k+1,_,by omega,by simp;omega,ho2,?_,HX.out.trans hx2⟩
      rw [rangeV_snoc]
      exact RVs.append (RVs.carry (fun b _ h=>h.elim) (fun _ _ h=>h) HRV.out) (RVs.one (RV_int _ _ (by unfold I64;omega)))
     case measure=>simp [intOf];omega
    ·have tl:decide (x.lo+(k:Int)≤x.hi)=false:=decide_eq_false (by omega)
     have hkN:k=N:=by omega
     have HKN:=Lib.hid hkN
     clear hkN
     obtain ⟨A2,c2,e2,-,-,-⟩:=Sl.of_own HOWN.out
     subst e2
     have HEQ:=Lib.hid (show listR (listsR t) x=⟨rangeV x.lo k,false⟩ by rw [HR2.out,HKN.out,HN.out];simp)
     go_wp2_with fail
     go_ret2
     rw [HEQ.out]
     refine ⟨A2,c2,by rw [rangeV_len];rfl,?_,Fr.of_ext HX.out,HS.out.ext HX.out⟩
     rw [rangeV_len]
     exact Vals.of_own (HOWN.out.len_cast (rangeV_len _ _).symm rfl) (RVs.carry (fun _ _ _=>rfl) (fun _ _ h=>h.elim) HRV.out) (by rw [rangeV_len];omega) (fun b hb=>HS.out.newQ (HOWN.out.block_ge hb))
 have t1:(x.kind == 1)=false:=beq_eq_false_iff_ne.2 k1
 have HGI:=Lib.hid (HG.out.mono (j:=i) (by omega))
 by_cases k3:x.kind=3
 ·have t2:(x.kind == 2)=false:=beq_eq_false_iff_ne.2 (by omega)
  have t3:(x.kind == 3)=true:=beq_iff_eq.2 k3
  have HR:=Lib.hid (show listR (listsR t) x=prodP (listsR t) x by rw [prodP_seqR HLOK.out];unfold listR;rw [if_neg k0,if_neg k1,if_pos k3])
  clear k0 k1 k3
  go_enter Tryz.func181,Tryz.ntmps181
  go_wp2_with fail
  refine (product_any t _ g f i hO x a1 b1 (o1+i*12) w HA.out HC.out HB1.out HOK.out.kids (by omega) (by have:=HFEW.out.1;omega) HGI.out HS.out).mono ?_
  rintro e w1 ⟨A,c,rfl,hv,hf,hs1⟩
  go_wp2_with fail
  go_ret2
  rw [HR.out]
  exact ⟨A,c,rfl,hv,hf,hs1⟩
 have hki:=HA.out.kids
 have c7:=HC.out.c7
 have hkc:=hki.le
 generalize a1.kA=Ak at *
 generalize a1.kc=kc at *
 by_cases k2:x.kind=2
 ·have t2:(x.kind == 2)=true:=beq_iff_eq.2 k2
  have HR:=Lib.hid (show listR (listsR t) x=uniP (listsR t) [] x.kids by rw [← uniR_uniP x.kids 0 [] HLOK.out Inc.nil (show ¬ (false=true∧0=0) by simp)];unfold listR;rw [if_neg k0,if_neg k1,if_neg k3,decide_eq_false (by omega)])
  have HKI:=Lib.hid hki
  clear k0 k1 k3 k2 hki
  go_enter Tryz.func181,Tryz.ntmps181
  go_wp2_with fail
  refine (union_any t _ g f i hO x.kids _ w HKI.out HOK.out.kids (by omega) HGI.out HS.out).mono ?_
  rintro e w1 ⟨A,c,rfl,hv,hf,hs1⟩
  go_wp2_with fail
  go_ret2
  rw [HR.out]
  exact ⟨A,c,rfl,hv,hf,hs1⟩
 have t2:(x.kind == 2)=false:=beq_eq_false_iff_ne.2 k2
 have t3:(x.kind == 3)=false:=beq_eq_false_iff_ne.2 k3
 have k4:x.kind=4:=by omega
 have hbd:=HOK.out.bind k4
 have hv1:=HFEW.out.2.2 k4
 have HKD:=Lib.hid HOK.out.kids
 have HR:=Lib.hid (show listR (listsR t) x=uniP (listsR t) [] x.kids.tail by
  have e:listR (listsR t) x=uniR (listsR t) true 0 [] false x.kids:=by unfold listR;rw [if_neg k0,if_neg k1,if_neg k3,decide_eq_true k4]
  rw [e]
  have hl:=HLOK.out
  cases hk:x.kids with
  | nil=>rw [hk] at hbd;simp at hbd
  | cons z zs =>
   rw [hk] at hl
   rw [uniR,if_pos ⟨rfl,rfl⟩]
   exact uniR_uniP zs 1 [] (fun y hy=>hl y (by simp [hy])) Inc.nil (by omega))
 obtain ⟨bk,ok,rfl,-,-,-⟩:=hki.get (i:=0) (by omega)
 have HKT:=Lib.hid (show Ints w g.Q (.slice (some ⟨bk,ok+1,none⟩) (x.kids.length - 1) (kc - 1)) x.kids.tail from by
  cases hk:x.kids with
  | nil=>rw [hk] at hbd;simp at hbd
  | cons z zs=>rw [hk] at hki;exact Ints.tail hki)
 have hkc1:¬ kc=1:=by omega
 have hkc2:1≤kc:=by omega
 have hkl1:1≤x.kids.length:=by omega
 clear k0 k1 k3 k2 k4 hki hbd hv1
 go_enter Tryz.func181,Tryz.ntmps181
 go_wp2_with fail
 refine (union_any t _ g f i hO x.kids.tail _ w HKT.out (fun z hz=>HKD.out z (List.mem_of_mem_tail hz)) (by omega) HGI.out HS.out).mono ?_
 rintro e w1 ⟨A,c,rfl,hv,hf,hs1⟩
 go_wp2_with fail
 go_ret2
 rw [HR.out]
 exact ⟨A,c,rfl,hv,hf,hs1⟩
theorem find_all (t:List GN)(vn:Value):∀ f,FindSaid t vn f
 | 0=>by intro g i w hf;omega
 | f+1=>find_step t vn f (of_step t vn f (find_all t vn f))
theorem of_any (t:List GN)(vn:Value)(g:SA)(i:Nat)(w:World)(hg:GoodTo t (i+1))(hs:SetsOK t vn g w) :
  Calls Tryz.prog 137 #[.pointer (some ⟨g.s,0,none⟩),.int .i64 i] w (RetSet t vn g ((listsR t).getD i default) w):=of_step t vn (i+1) (find_all t vn (i+1)) g i w (by omega) hg hs
theorem Tryz.info4:(Tryz.prog.info? 4).map (fun i=>(i.zero,i.size,i.bytes))=some (some (.bool false),1,1):=by kernel_rfl
theorem alloc_sz (w:World)(o:Obj):(w.alloc o).heap.size=w.heap.size+1:=by simp
theorem blk5_1 (w:World)(a o2 o3 o4:Obj)(cs:Array Value)(t:TypeId):Blk (((((w.alloc a).alloc (.cells cs t)).alloc o2).alloc o3).alloc o4).drew (w.heap.size+1) t cs :=
 ((((Blk.new' (w.alloc a) t cs (alloc_sz w a).symm).alloc _).alloc _).alloc _).drew
theorem blk5_2 (w:World)(a o2 o3 o4:Obj)(cs:Array Value)(t:TypeId):Blk (((((w.alloc a).alloc o2).alloc (.cells cs t)).alloc o3).alloc o4).drew (w.heap.size+1+1) t cs :=
 (((Blk.new' ((w.alloc a).alloc o2) t cs (by rw [alloc_sz,alloc_sz])).alloc _).alloc _).drew
theorem blk5_3 (w:World)(a o2 o3 o4:Obj)(cs:Array Value)(t:TypeId):Blk (((((w.alloc a).alloc o2).alloc o3).alloc (.cells cs t)).alloc o4).drew (w.heap.size+1+1+1) t cs :=
 ((Blk.new' (((w.alloc a).alloc o2).alloc o3) t cs (by rw [alloc_sz,alloc_sz,alloc_sz])).alloc _).drew
theorem blk5_4 (w:World)(a o2 o3 o4:Obj)(cs:Array Value)(t:TypeId):Blk (((((w.alloc a).alloc o2).alloc o3).alloc o4).alloc (.cells cs t)).drew (w.heap.size+1+1+1+1) t cs :=
 (Blk.new' ((((w.alloc a).alloc o2).alloc o3).alloc o4) t cs (by rw [alloc_sz,alloc_sz,alloc_sz,alloc_sz])).drew
def RetNS (t:List GN)(vn:Value)(X:Nat→Prop)(w:World)(e:Ending)(w':World):Prop :=
 ∃ g:SA,e=.returned (.pointer (some ⟨g.s,0,none⟩))∧g.X=X∧SetsOK t vn g w'∧Ext w w'∧w.heap.size≤g.s∧w.heap.size≤g.k∧w.heap.size≤g.l∧w.heap.size≤g.m
theorem newsets_ok {t:List GN}{vn:Value}{P X:Nat→Prop}{w w':World}{gs gk gl gm:Nat}(hx:Ext w w')(ht:Nds w P vn t)(hPX:∀ b,P b→¬ X b)(hX:∀ b,X b→b<w.heap.size)(h1:w.heap.size≤gs)(h2:w.heap.size≤gk)(h3:w.heap.size≤gl)(h4:w.heap.size≤gm)
  (n1:gs ≠ gk)(n2:gs ≠ gl)(n3:gs ≠ gm)(n4:gk ≠ gl)(n5:gk ≠ gm)(n6:gl ≠ gm)
  (hs:Blk w' gs 198 #[vn,.slice (some ⟨gk,0,none⟩) t.length t.length,.slice (some ⟨gl,0,none⟩) t.length t.length,.slice (some ⟨gm,0,none⟩) t.length t.length])
  (hk:Blk w' gk 4 (madeCells #[.bool false] t.length))(hl:Blk w' gl 83 (madeCells #[.slice none 0 0] t.length))(hm:Blk w' gm 4 (madeCells #[.bool false] t.length)) :
  RetNS t vn X w (.returned (.pointer (some ⟨gs,0,none⟩))) w':=by
 rw [madeCells_one] at hk hl hm
 have hQ:∀ b,b<w.heap.size→P b→(SA.mk gs gk gl gm X).Q b:=fun b hb hp=>⟨fun h=>by rcases h with h | h | h <;> (simp only at h;omega),hPX b hp⟩
 refine ⟨⟨gs,gk,gl,gm,X⟩,rfl,rfl,⟨List.replicate t.length false,List.replicate t.length (.slice none 0 0),List.replicate t.length false,n1,n2,n3,n4,n5,n6,by simp,by simp,by simp,hs,by rw [List.map_replicate];exact hk,hl,by rw [List.map_replicate];exact hm,fun b hb=>by have:=hX b hb;have:=hx.size;omega,ht.carry (Keeps.of_ext hx) hQ,?_,?_⟩,hx,h1,h2,h3,h4⟩
 ·intro v hv
  rw [List.eq_of_mem_replicate hv]
  exact ⟨_,_,_,rfl⟩
 ·intro j hj h
  simp [List.getD,hj] at h
set_option maxRecDepth 100000 in
set_option maxHeartbeats 4000000 in
theorem newSets_any (t:List GN)(P X:Nat→Prop)(vn:Value)(w:World)(ht:Nds w P vn t)(hPX:∀ b,P b→¬ X b)(hX:∀ b,X b→b<w.heap.size)(hlen:t.length≤100000) :
  Calls Tryz.prog 87 #[.agg #[vn]] w (RetNS t vn X w):=by
 have HT:=Lib.hid ht
 have HPX:=Lib.hid hPX
 have HX:=Lib.hid hX
 obtain ⟨An,cn,en,hn1,hn2⟩:=ht.form
 subst en
 obtain ⟨i4,hi4,hz40,hz41,hz42⟩:=info_parts Tryz.info4
 obtain ⟨i1,hi',hz0',hz1',hz2'⟩:=info_parts Tryz.info83
 have hmk1:∀ W:World,(Instr.makeSlice 196 (.int .i64 (t.length:Int)) (.int .i64 (t.length:Int))).run Tryz.prog W=.ok (.slice (some ⟨W.heap.size,0,none⟩) t.length t.length) (W.alloc (.cells (madeCells #[.slice none 0 0] t.length) 83)):=by
  intro W
  have h:=run_make (P:=Tryz.prog) W 196 83 i1 _ Tryz.underlying196 hi' hz0' .i64 .i64 (t.length:Int) (t.length:Int) (by omega) (Int.le_refl _) (by rw [hz2'];omega) (by omega)
  rw [hz1',Nat.mul_one] at h
  rw [h]
  rfl
 have hmk2:∀ W:World,(Instr.makeSlice 195 (.int .i64 (t.length:Int)) (.int .i64 (t.length:Int))).run Tryz.prog W=.ok (.slice (some ⟨W.heap.size,0,none⟩) t.length t.length) (W.alloc (.cells (madeCells #[.bool false] t.length) 4)):=by
  intro W
  have h:=run_make (P:=Tryz.prog) W 195 4 i4 _ Tryz.underlying195 hi4 hz40 .i64 .i64 (t.length:Int) (t.length:Int) (by omega) (Int.le_refl _) (by rw [hz42];omega) (by omega)
  rw [hz41,Nat.mul_one] at h
  rw [h]
  rfl
 clear ht hPX hX hi4 hi' hz40 hz41 hz42 hz0' hz1' hz2' i4 i1
 go_enter Tryz.func87,Tryz.ntmps87
 go_wp2_with fail
 go_region
 all_goals (go_wp2_with fail)
 all_goals (go_ret)
 all_goals (show RetNS _ _ _ _ (.returned (.pointer (some ⟨w.heap.size+1+1+1+1,0,none⟩))) _)
 all_goals first
  | exact newsets_ok (gs:=w.heap.size+1+1+1+1) (gk:=w.heap.size+1) (gl:=w.heap.size+1+1) (gm:=w.heap.size+1+1+1) (((((((Ext.refl w).alloc' _).alloc' _).alloc' _).alloc' _).alloc' _).drew') HT.out HPX.out HX.out (by omega) (by omega) (by omega) (by omega) (by omega) (by omega) (by omega) (by omega) (by omega) (by omega) (blk5_4 w _ _ _ _ _ _) (blk5_1 w _ _ _ _ _ _) (blk5_2 w _ _ _ _ _ _) (blk5_3 w _ _ _ _ _ _)
  | exact newsets_ok (gs:=w.heap.size+1+1+1+1) (gk:=w.heap.size+1) (gl:=w.heap.size+1+1+1) (gm:=w.heap.size+1+1) (((((((Ext.refl w).alloc' _).alloc' _).alloc' _).alloc' _).alloc' _).drew') HT.out HPX.out HX.out (by omega) (by omega) (by omega) (by omega) (by omega) (by omega) (by omega) (by omega) (by omega) (by omega) (blk5_4 w _ _ _ _ _ _) (blk5_1 w _ _ _ _ _ _) (blk5_3 w _ _ _ _ _ _) (blk5_2 w _ _ _ _ _ _)
  | exact newsets_ok (gs:=w.heap.size+1+1+1+1) (gk:=w.heap.size+1+1) (gl:=w.heap.size+1) (gm:=w.heap.size+1+1+1) (((((((Ext.refl w).alloc' _).alloc' _).alloc' _).alloc' _).alloc' _).drew') HT.out HPX.out HX.out (by omega) (by omega) (by omega) (by omega) (by omega) (by omega) (by omega) (by omega) (by omega) (by omega) (blk5_4 w _ _ _ _ _ _) (blk5_2 w _ _ _ _ _ _) (blk5_1 w _ _ _ _ _ _) (blk5_3 w _ _ _ _ _ _)
  | exact newsets_ok (gs:=w.heap.size+1+1+1+1) (gk:=w.heap.size+1+1) (gl:=w.heap.size+1+1+1) (gm:=w.heap.size+1) (((((((Ext.refl w).alloc' _).alloc' _).alloc' _).alloc' _).alloc' _).drew') HT.out HPX.out HX.out (by omega) (by omega) (by omega) (by omega) (by omega) (by omega) (by omega) (by omega) (by omega) (by omega) (blk5_4 w _ _ _ _ _ _) (blk5_2 w _ _ _ _ _ _) (blk5_3 w _ _ _ _ _ _) (blk5_1 w _ _ _ _ _ _)
  | exact newsets_ok (gs:=w.heap.size+1+1+1+1) (gk:=w.heap.size+1+1+1) (gl:=w.heap.size+1) (gm:=w.heap.size+1+1) (((((((Ext.refl w).alloc' _).alloc' _).alloc' _).alloc' _).alloc' _).drew') HT.out HPX.out HX.out (by omega) (by omega) (by omega) (by omega) (by omega) (by omega) (by omega) (by omega) (by omega) (by omega) (blk5_4 w _ _ _ _ _ _) (blk5_3 w _ _ _ _ _ _) (blk5_1 w _ _ _ _ _ _) (blk5_2 w _ _ _ _ _ _)
  | exact newsets_ok (gs:=w.heap.size+1+1+1+1) (gk:=w.heap.size+1+1+1) (gl:=w.heap.size+1+1) (gm:=w.heap.size+1) (((((((Ext.refl w).alloc' _).alloc' _).alloc' _).alloc' _).alloc' _).drew') HT.out HPX.out HX.out (by omega) (by omega) (by omega) (by omega) (by omega) (by omega) (by omega) (by omega) (by omega) (by omega) (blk5_4 w _ _ _ _ _ _) (blk5_3 w _ _ _ _ _ _) (blk5_2 w _ _ _ _ _ _) (blk5_1 w _ _ _ _ _ _)
def firstV:List GV→Int
 | []=>0
 | v :: vs=>if validV v=0 then firstV vs else validV v
def partsP (x:GN):Int:=if x.kind=0 then validV x.value else firstV x.values
def TPartsInv (l:List GV)(W:World)(k:Value)(wr:World):Prop:=∃ j:Nat,j≤l.length∧k=.int .i64 j∧Ext W wr∧firstV l=firstV (l.drop j)
set_option maxRecDepth 100000 in
set_option maxHeartbeats 1000000 in
theorem treeParts_any (x:GN)(a:NA)(b o:Nat)(P:Nat→Prop)(w:World)(hP:∀ b,P b→b<w.heap.size)(hn:NCells w b o x a)(hx:NAt w P x a) :
  Calls Tryz.prog 90 #[.pointer (some ⟨b,o,none⟩)] w (RetE (.int .i64 (partsP x)) w):=by
 have HX:=Lib.hid hx
 have HP:=Lib.hid hP
 have HS:=Lib.hid (show partsP x=if x.kind=0 then validV x.value else firstV x.values from rfl)
 have c0:=hn.c0
 have c6:=hn.c6
 have c8:=hn.c8
 have c9:=hn.c9
 have c10:=hn.c10
 have c11:=hn.c11
 obtain ⟨hvl1,hvl2⟩:=hx.values.le
 clear hx hn hP
 by_cases hk:x.kind=0
 ·have t0:(x.kind == 0)=true:=beq_iff_eq.2 hk
  have HK:=Lib.hid hk
  clear hk
  go_enter Tryz.func90,Tryz.ntmps90
  go_wp2_with fail
  refine (valuesValid_any x.value a.xA a.xc P w HP.out HX.out.value).mono ?_
  rintro e w1 ⟨rfl,hx1⟩
  have HX1:=Lib.hid hx1
  clear hx1
  go_wp2_with fail
  go_ret
  exact ⟨ret_int (by rw [HS.out,if_pos HK.out]),HX1.out⟩
 ·have t0:(x.kind == 0)=false:=beq_eq_false_iff_ne.2 hk
  have HN:=Lib.hid (HS.out.trans (if_neg hk))
  have HVL:=Lib.hid HX.out.values
  clear hk HX HS c8 c9 c10 c11
  generalize a.vA=Av at *
  generalize a.vc=cv at *
  go_enter Tryz.func90,Tryz.ntmps90
  go_wp2_with fail
  go_loopw [21] (fun k wr=>TPartsInv x.values w k wr) (fun k _=>x.values.length - (intOf k).toNat)
  case atStart=>exact ⟨0,Nat.zero_le _,rfl,Ext.refl _,rfl⟩
  case round =>
   obtain ⟨j,hj,rfl,hxr,ht⟩:=hrel
   have HT:=Lib.hid ht
   have HXR:=Lib.hid hxr
   clear ht hxr
   by_cases hlt:j<x.values.length
   ·obtain ⟨b1,o1,A1,d1,rfl,-,hv1,g10,g11,g12,g13⟩:=(HVL.out.ext HXR.out).get hlt
    have HD:=Lib.hid (show firstV x.values=if validV (x.values.getD j default)=0 then firstV (x.values.drop (j+1)) else validV (x.values.getD j default) by
     rw [HT.out,drop_getD default hlt];rfl)
    have HV1:=Lib.hid hv1
    clear hv1
    generalize x.values.getD j default=y at *
    go_wp2_with fail
    refine (valuesValid_any y A1 d1 P _ (fun b hb=>by have h1:=HP.out b hb;have h2:=HXR.out.size;simp;omega) (HV1.out.ext ((Ext.refl _).alloc' _))).mono ?_
    rintro e w4 ⟨rfl,hx4⟩
    have HX4:=Lib.hid ((HXR.out.alloc' _).trans' hx4)
    clear hx4
    by_cases hz:validV y=0
    ·have HZ:=Lib.hid hz
     have tz:(validV y != 0)=false:=by rw [bne_eq_false_iff_eq];exact hz
     clear hz
     go_wp2_with fail
     go_roundw
     case rel=>exact ⟨j+1,by omega,by go_num,HX4.out,by rw [HD.out,if_pos HZ.out]⟩
     case measure=>simp [intOf];omega
    ·have tz:(validV y != 0)=true:=bne_iff_ne.2 hz
     have HN2:=Lib.hid (show partsP x=validV y by rw [HN.out,HD.out,if_neg hz])
     clear hz
     go_wp2_with fail
     go_ret
     exact ⟨ret_int HN2.out.symm,HX4.out⟩
   ·have HN2:=Lib.hid (show partsP x=0 by rw [HN.out,HT.out,drop_nil (by omega)];rfl)
    go_wp2_with fail
    go_ret
    exact ⟨ret_int HN2.out.symm,HXR.out⟩
theorem u64_diff {h l:Int}(h1:l≤h)(h2:-4611686018427387904≤l)(h3:h≤4611686018427387904):IntKind.u64.wrap (IntKind.u64.wrap h - IntKind.u64.wrap l)=h - l:=by
 simp only [IntKind.wrap,IntKind.bits,IntKind.signed]
 simp only [Bool.false_and,Bool.false_eq_true,if_false]
 omega
def RngInv (x:GN)(W:World)(i:Value)(wr:World):Prop:=∃ k:Nat,k≤x.weights.length∧i=.int .i64 k∧W=wr∧numbersB x=(x.weights.drop k).all weighB
set_option maxRecDepth 100000 in
set_option maxHeartbeats 1000000 in
theorem inRange_any (x:GN)(a:NA)(b o:Nat)(P:Nat→Prop)(w:World)(hn:NCells w b o x a)(hx:NAt w P x a) :
  Calls Tryz.prog 91 #[.pointer (some ⟨b,o,none⟩)] w (RetE (.bool (numbersB x)) w):=by
 have HX:=Lib.hid hx
 have HU:=Lib.hid (show numbersB x=(!numA x && x.weights.all weighB) from rfl)
 obtain ⟨hl,hc⟩:=hx.weights.le
 have hi1:=hx.lo
 have hi2:=hx.hi
 have HN:=Lib.hid hn
 have c2:=hn.c2
 have c3:=hn.c3
 unfold I64 at hi1 hi2
 clear hx hn
 go_enter Tryz.func91,Tryz.ntmps91
 go_upto_region 1 with fail
 go_cut [41] (fun s wx=>s=.bool (numA x)∧Ext w wx)
 case first =>
  by_cases ha1:x.hi<x.lo
  ·have t0a1:decide (x.hi<x.lo)=true:=decide_eq_true ha1
   go_quiet (fail)
   go_wp2_with fail
   go_meet
   exact ⟨congrArg Value.bool (by unfold numA;rw [(show decide (x.hi<x.lo)=true from decide_eq_true (by omega))];try rfl),Ext.drewN _ _⟩
  ·have t0a1:decide (x.hi<x.lo)=false:=decide_eq_false ha1
   by_cases ha2:x.lo < -4611686018427387904
   ·have t0a2:decide (x.lo < -4611686018427387904)=true:=decide_eq_true ha2
    go_quiet (fail)
    go_wp2_with fail
    go_meet
    exact ⟨congrArg Value.bool (by unfold numA;rw [(show decide (x.hi<x.lo)=false from decide_eq_false (by omega)),(show decide (x.lo < -4611686018427387904)=true from decide_eq_true (by omega))];try rfl),Ext.drewN _ _⟩
   ·have t0a2:decide (x.lo < -4611686018427387904)=false:=decide_eq_false ha2
    by_cases ha3:4611686018427387904<x.hi
    ·have t0a3:decide (4611686018427387904<x.hi)=true:=decide_eq_true ha3
     go_quiet (fail)
     go_wp2_with fail
     go_meet
     exact ⟨congrArg Value.bool (by unfold numA;rw [(show decide (x.hi<x.lo)=false from decide_eq_false (by omega)),(show decide (x.lo < -4611686018427387904)=false from decide_eq_false (by omega)),(show decide (4611686018427387904<x.hi)=true from decide_eq_true (by omega))];try rfl),Ext.drewN _ _⟩
    ·have t0a3:decide (4611686018427387904<x.hi)=false:=decide_eq_false ha3
     go_quiet (fail)
     go_wp2_with fail
     go_meet
     rw [u64_diff (by omega) (by omega) (by omega)]
     refine ⟨congrArg Value.bool ?_,Ext.drewN _ _⟩
     unfold numA
     rw [(show decide (x.hi<x.lo)=false from decide_eq_false (by omega)),(show decide (x.lo < -4611686018427387904)=false from decide_eq_false (by omega)),(show decide (4611686018427387904<x.hi)=false from decide_eq_false (by omega))]
     simp only [Bool.false_or]
     exact decide_eq_decide.2 (by omega)
 case rest =>
  obtain ⟨rfl,he⟩:=hcut
  have HE:=Lib.hid he
  have hb4:=(HN.out.ext he).c4
  have HW:=Lib.hid (HX.out.weights.ext he)
  clear he c2 c3
  generalize a.wA=Aw at *
  generalize a.wc=cw at *
  generalize numA x=bn at *
  cases bn
  ·have HU2:=Lib.hid (show numbersB x=(x.weights.drop 0).all weighB by rw [HU.out];rfl)
   go_wp2_with fail
   go_loopw [47] (fun i wr=>RngInv x wc i wr) (fun i _=>x.weights.length - (intOf i).toNat)
   case atStart=>exact ⟨0,Nat.zero_le _,rfl,rfl,HU2.out⟩
   case round =>
    obtain ⟨k,hk,rfl,rfl,ht⟩:=hrel
    have HT:=Lib.hid ht
    clear ht
    by_cases hlt:k<x.weights.length
    ·obtain ⟨b1,o1,rfl,-,hv,g1⟩:=HW.out.get hlt
     have HD:=Lib.hid (show numbersB x=(weighB (x.weights.getD k 0) && (x.weights.drop (k+1)).all weighB) by rw [HT.out,drop_getD 0 hlt];rfl)
     generalize x.weights.getD k 0=z at *
     clear hv
     by_cases hz1:z<1
     ·have HN:=Lib.hid (show weighB z=false from decide_eq_false (by omega))
      have tz1:decide (z<1)=true:=decide_eq_true hz1
      go_wp2_with fail
      go_ret
      exact ⟨ret_bool (by rw [HD.out,HN.out];rfl),HE.out⟩
     ·have tz1:decide (z<1)=false:=decide_eq_false hz1
      by_cases hz2:1000<z
      ·have HN:=Lib.hid (show weighB z=false from decide_eq_false (by omega))
       go_wp2_with fail
       go_ret
       exact ⟨ret_bool (by rw [HD.out,HN.out];rfl),HE.out⟩
      ·have tz2:decide (1000<z)=false:=decide_eq_false hz2
       have HN:=Lib.hid (show weighB z=true from decide_eq_true (by omega))
       go_wp2_with fail
       go_roundw
       case rel=>exact ⟨k+1,by omega,by go_num,rfl,by rw [HD.out,HN.out];rfl⟩
       case measure=>simp [intOf];omega
    ·go_wp2_with fail
     go_ret
     exact ⟨ret_bool (by rw [HT.out,drop_nil (by omega)];rfl),HE.out⟩
  ·go_wp2_with fail
   go_ret
   exact ⟨ret_bool (by rw [HU.out];rfl),HE.out⟩
theorem wrap_add (a b c:Int):wrap64 (wrap64 (a+b)+c)=wrap64 (a+wrap64 (b+c)):=by unfold wrap64;omega
theorem wrap_I64 (a:Int):I64 (wrap64 a):=by unfold wrap64 I64;omega
theorem wrap_id {a:Int}(h:I64 a):wrap64 a=a:=by unfold I64 at h;unfold wrap64;omega
theorem rszs_shift:∀ (l:List GV)(n m:Int),rszs (wrap64 (n+m)) l=wrap64 (n+rszs m l)
 | [],n,m=>by rw [rszs_nil,rszs_nil]
 | x :: xs,n,m=>by rw [rszs_cons,rszs_cons,wrap_add,rszs_shift xs n (wrap64 (m+rsz x))]
mutual
theorem visS:∀ (x:GV)(n:Int),vis seeS n x=(wrap64 (n+rsz x),true)
 | .mk k n s l,m=>by
  rw [vis_eq,rsz_eq]
  simp only [seeS,if_true,GV.kids]
  rw [vissS l (wrap64 (m+1)),rszs_shift]
theorem vissS:∀ (l:List GV)(n:Int),viss seeS n l=(rszs n l,true)
 | [],n=>by rw [viss_nil,rszs_nil]
 | x :: xs,n=>by rw [viss_cons,visS x n];simp only [if_true];rw [vissS xs _,rszs_cons]
end
theorem size_eq (x:GV):(vis seeS 0 x).1=rsz x:=by rw [visS];show wrap64 (0+rsz x)=_;rw [Int.zero_add,wrap_id (rsz_I64 x)]
mutual
theorem visV:∀ (x:GV)(n:Int)(m:Bool),(vis seeV (n,true,m) x).2=allB formedB x∧(vis seeV (n,true,m) x).1.2.1=allB formedB x∧(allB formedB x=true→(vis seeV (n,true,m) x).1=(wrap64 (n+rsz x),true,m && allB fitsB x))
 | .mk k n s l,a,m=>by
  rw [vis_eq,allB_eq,allB_eq,rsz_eq]
  simp only [seeV,Bool.true_and,GV.kids]
  cases hf:formedB (.mk k n s l)
  ·simp
  ·simp only [if_true,Bool.true_and]
   have h:=vissV l (wrap64 (a+1)) (m && fitsB (.mk k n s l))
   refine ⟨h.1,h.2.1,fun ha=>?_⟩
   rw [h.2.2 ha,rszs_shift,Bool.and_assoc]
theorem vissV:∀ (l:List GV)(n:Int)(m:Bool),(viss seeV (n,true,m) l).2=allsB formedB l∧(viss seeV (n,true,m) l).1.2.1=allsB formedB l∧(allsB formedB l=true→(viss seeV (n,true,m) l).1=(rszs n l,true,m && allsB fitsB l))
 | [],n,m=>by simp [viss_nil,allsB_nil,rszs_nil]
 | x :: xs,n,m=>by
  have h:=visV x n m
  rw [viss_cons,allsB_cons,allsB_cons,rszs_cons]
  cases ha:allB formedB x
  ·rw [ha] at h;simp [h.1,h.2.1]
  ·rw [ha] at h
   have h3:=h.2.2 rfl
   rw [h.1,if_pos rfl,h3]
   have k:=vissV xs (wrap64 (n+rsz x)) (m && allB fitsB x)
   simp only [Bool.true_and]
   refine ⟨k.1,k.2.1,fun hb=>?_⟩
   rw [k.2.2 hb,Bool.and_assoc]
end
theorem fits_wide {x:GV}(h:formedB x=true):fitsB x=nwideB x:=by
 unfold formedB at h
 unfold fitsB nwideB
 rw [Bool.eq_iff_iff]
 by_cases h0:x.kind=0
 ·rw [if_pos h0] at h;simp at h;simp [h0,h.2]
 ·rw [if_neg h0] at h
  by_cases h1:x.kind=1
  ·rw [if_pos h1] at h;simp at h;simp [h1,h.2]
  ·rw [if_neg h1] at h
   by_cases h2:x.kind=2
   ·simp [h2]
   ·rw [if_neg h2] at h
    by_cases h3:x.kind=3
    ·simp [h3];omega
    ·rw [if_neg h3] at h;cases h
mutual
theorem allB_fits:∀ (x:GV),allB formedB x=true→allB fitsB x=allB nwideB x
 | .mk k n s l,h=>by
  rw [allB_eq] at h ⊢
  rw [allB_eq]
  simp only [Bool.and_eq_true] at h
  rw [fits_wide h.1]
  exact congrArg _ (allsB_fits l h.2)
theorem allsB_fits:∀ (l:List GV),allsB formedB l=true→allsB fitsB l=allsB nwideB l
 | [],_=>by rw [allsB_nil,allsB_nil]
 | x :: xs,h=>by
  rw [allsB_cons] at h ⊢
  rw [allsB_cons]
  simp only [Bool.and_eq_true] at h
  rw [allB_fits x h.1,allsB_fits xs h.2]
end
theorem validV_eq (x:GV):validV x=validR x:=by
 have h:=visV x 0 true
 unfold validV validR
 rw [h.2.1]
 cases ha:allB formedB x
 ·rfl
 ·rw [ha] at h
  rw [h.2.2 rfl,allB_fits x ha,Int.zero_add,wrap_id (rsz_I64 x),Bool.true_and]
theorem firstV_eq:∀ (l:List GV),firstV l=firstErr l
 | []=>rfl
 | x :: xs=>by simp only [firstV,firstErr];rw [validV_eq,firstV_eq xs]
theorem empty_toList:ByteArray.empty.toList=[]:=by rw [ByteArray.toList_eq];rfl
theorem toList_empty {s:ByteArray}(h:s.toList=[]):s=ByteArray.empty:=bytes_ext (by rw [h,empty_toList])
def cleanB (x:GN):Bool:=decide (0≤x.kind) && decide (x.kind≤4) && (decide (x.kind=0) || decide (cmpV x.value zeroGV=0)) && (decide (x.kind=1) || (decide (x.lo=0) && decide (x.hi=0))) &&
 (decide (x.kind=2) || (decide (x.weights.length=0) && decide (x.labels.length=0))) && (decide (x.kind=3) || emptyB x.name) && (decide (x.kind=4) || decide (x.values.length=0)) &&
 ((!decide (x.kind=0) && !decide (x.kind=1)) || decide (x.kids.length=0))
def shapeK (x:GN):Bool :=
 if x.kind=2 then decide (1≤x.kids.length) && decide (x.kids.length≤256) && decide (x.weights.length=x.kids.length) && (decide (x.labels.length=0) || decide (x.labels.length=x.kids.length))
 else if x.kind=3 then (if emptyB x.name then decide (x.kids.length≤256) else decide (x.kids.length≤16) && decide (validV (.mk 3 0 x.name [])=0))
 else if x.kind=4 then incB x.values && decide (x.kids.length=x.values.length+1)
 else true
def shapedB (i:Int)(x:GN):Bool:=x.kids.all (fun z=>!fmK i z) && shapeK x
theorem zeroV_eq (v:GV):zeroV v=decide (cmpV v zeroGV=0):=by
 rw [Bool.eq_iff_iff,decide_eq_true_iff]
 constructor
 ·intro h
  obtain ⟨k,n,s,l⟩:=v
  have h':(decide (k=0) && decide (n=0) && emptyB s && !decide (0<l.length))=true:=h
  simp only [Bool.and_eq_true,decide_eq_true_eq,Bool.not_eq_true',decide_eq_false_iff_not,emptyB,List.isEmpty_iff] at h'
  obtain ⟨⟨⟨rfl,rfl⟩,hs⟩,hl⟩:=h'
  rw [toList_empty hs,List.eq_nil_of_length_eq_zero (Nat.eq_zero_of_not_pos hl)]
  exact cmpV_self _
 ·intro h
  rw [cmpV_zero _ _ h]
  have h':(decide ((0:Int)=0) && decide ((0:Int)=0) && emptyB ByteArray.empty && !decide (0<([]:List GV).length))=true:=by rw [emptyB_t empty_toList];rfl
  exact h'
theorem capV_eq (s:ByteArray):decide (validV (.mk 3 0 s [])=0)=capB s:=by
 rw [validV_eq]
 unfold validR
 rw [allB_eq,allB_eq,rsz_eq]
 simp only [GV.kids,allsB_nil,rszs_nil,Bool.and_true]
 have h1:formedB (.mk 3 0 s [])=capB s:=by simp [formedB,GV.kind,GV.n,GV.s]
 have h2:nwideB (.mk 3 0 s [])=true:=by simp [nwideB,GV.kind,GV.kids]
 rw [h1,h2]
 cases capB s <;> simp
theorem form_eq (i:Int)(x:GN):(cleanB x && shapedB i x)=formedN i x:=by
 unfold cleanB shapedB formedN fmA unusedB unA unB unC fmC fmS shapeK
 rw [zeroV_eq,capV_eq]
 have hb:x.values.length=0→incB x.values=true:=fun h=>incB_short (by omega)
 generalize x.kids.all (fun z=>!fmK i z)=bk
 generalize decide (cmpV x.value zeroGV=0)=bz
 generalize emptyB x.name=be
 generalize capB x.name=bc
 generalize incB x.values=bi at *
 generalize x.weights.length=nw at *
 generalize x.labels.length=nl at *
 generalize x.values.length=nv at *
 generalize x.kids.length=nk at *
 generalize x.lo=lo at *
 generalize x.hi=hi at *
 generalize x.kind=k at *
 by_cases h4:k=4
 ·subst h4;clear hb;cases bk <;> cases bz <;> cases be <;> cases bc <;> cases bi <;> simp <;> (rw [Bool.eq_iff_iff];simp;try omega)
 by_cases h0:k=0
 ·subst h0;by_cases hv:nv=0
  ·have:=hb hv;subst this hv;cases bk <;> cases bz <;> cases be <;> cases bc <;> simp <;> (rw [Bool.eq_iff_iff];simp;try omega)
  ·cases bk <;> cases bz <;> cases be <;> cases bc <;> cases bi <;> simp [hv,show 0<nv by omega]
 by_cases h1:k=1
 ·subst h1;by_cases hv:nv=0
  ·have:=hb hv;subst this hv;cases bk <;> cases bz <;> cases be <;> cases bc <;> simp <;> (rw [Bool.eq_iff_iff];simp;try omega)
  ·cases bk <;> cases bz <;> cases be <;> cases bc <;> cases bi <;> simp [hv,show 0<nv by omega]
 by_cases h2:k=2
 ·subst h2;by_cases hv:nv=0
  ·have:=hb hv;subst this hv;cases bk <;> cases bz <;> cases be <;> cases bc <;> simp <;> (rw [Bool.eq_iff_iff];simp;try omega)
  ·cases bk <;> cases bz <;> cases be <;> cases bc <;> cases bi <;> simp [hv,show 0<nv by omega]
 by_cases h3:k=3
 ·subst h3;by_cases hv:nv=0
  ·have:=hb hv;subst this hv;cases bk <;> cases bz <;> cases be <;> cases bc <;> simp <;> (rw [Bool.eq_iff_iff];simp;try omega)
  ·cases bk <;> cases bz <;> cases be <;> cases bc <;> cases bi <;> simp [hv,show 0<nv by omega]
 ·have hk:(decide (0≤k) && decide (k≤4))=false:=by
   rw [Bool.and_eq_false_iff];simp;omega
  have hk2:(decide (k<0) || decide (4<k))=true:=by simp;omega
  rw [hk]
  simp only [Bool.false_and]
  rw [Bool.or_assoc,hk2]
  simp
theorem formed_kind0 {i:Int}{x:GN}(h:formedN i x=true)(hk:x.kind=0):x.values=[]:=by
 rw [← form_eq] at h
 unfold cleanB at h
 simp [hk] at h
 exact h.1.1.2
theorem parts_eq {i:Int}{x:GN}(h:formedN i x=true):partsP x=firstErr (ownVals x):=by
 unfold partsP ownVals
 by_cases hk:x.kind=0
 ·rw [if_pos hk,if_pos hk,formed_kind0 h hk,validV_eq]
  simp only [firstErr]
  split
  ·next h0=>exact h0
  ·rfl
 ·rw [if_neg hk,if_neg hk,firstV_eq]
theorem nodeR_prog (i:Int)(x:GN):nodeR i x=if (cleanB x && shapedB i x)=false then 1 else if partsP x=0 then (if numbersB x then 0 else 5) else partsP x:=by
 unfold nodeR
 rw [form_eq]
 cases h:formedN i x
 ·rfl
 ·rw [parts_eq h]
def Small (t:List GN):Prop:=∀ x ∈ t,gsz x.value≤1000000
mutual
theorem rsz_gsz:∀ (x:GV),gsz x≤1000000000→rsz x=gsz x
 | .mk k n s l,h=>by
  simp only [gsz] at h ⊢
  rw [rsz_eq]
  simp only [GV.kids]
  rw [rszs_gsz l 1 (by omega) (by omega)]
  omega
theorem rszs_gsz:∀ (l:List GV)(n:Int),1≤n→n+gszs l≤1000000001→rszs n l=n+gszs l
 | [],n,_,_=>by rw [rszs_nil];simp [gszs]
 | x :: xs,n,h0,h=>by
  simp only [gszs] at h ⊢
  rw [rszs_cons,rsz_gsz x (by omega),wrap_id (by unfold I64;omega),rszs_gsz xs _ (by omega) (by omega)]
  omega
end
theorem gsz_pos (x:GV):1≤gsz x:=by obtain ⟨k,n,s,l⟩:=x;simp only [gsz];omega
theorem lsumW_eq' {before:List Int}:∀ {zs:List Int}{s:Int},(∀ z ∈ zs,1≤before.getD z.toNat 0∧before.getD z.toNat 0≤1024)→0≤s→s+1024*zs.length≤1000000000→s≤lsumW before s zs
 | [],s,_,_,_=>by simp [lsumW]
 | z :: zs,s,h,h0,hs=>by
  have hz:=h z (by simp)
  simp only [List.length_cons] at hs
  simp only [lsumW]
  rw [wrap_id (by unfold I64;omega)]
  have:=lsumW_eq' (before:=before) (zs:=zs) (s:=s+before.getD z.toNat 0) (fun y hy=>h y (by simp [hy])) (by omega) (by omega)
  omega
def sizeP (before:List Int)(x:GN):Int :=
 if x.kind=0 then rsz x.value else if x.kind=3 then lsumW before 1 x.kids else if x.kind=2 then lmostW before true 0 1 x.kids else if x.kind=4 then lmostW before false 0 1 x.kids else 1
theorem lmost_one {before:List Int}{ch:Bool}:∀ (zs:List Int)(i:Nat)(m n:Int),m≤n→(n≤lmostW before ch i m zs→lmostW before ch i n zs=lmostW before ch i m zs)∧(lmostW before ch i m zs<n→lmostW before ch i n zs=n)
 | [],i,m,n,h=>by simp only [lmostW];exact ⟨fun hh=>by omega,fun _=>trivial⟩
 | z :: zs,i,m,n,h=>by
  simp only [lmostW]
  generalize before.getD z.toNat 0=y
  by_cases hc:ch=true∨0<i
  ·simp only [if_pos hc]
   by_cases h1:n<y
   ·rw [if_pos h1,if_pos (by omega:m<y)]
    have hy:=(lmostW_ge (before:=before) (ch:=ch) zs (i+1) y).1
    exact ⟨fun _=>rfl,fun hh=>by omega⟩
   ·rw [if_neg h1]
    exact lmost_one zs (i+1) _ n (by split <;> omega)
  ·simp only [if_neg hc]
   exact lmost_one zs (i+1) m n h
theorem sizes_kid {t:List GN}{j:Nat}(hj:j<t.length){z:Int}(hz:0≤z∧z<(j:Int)):(sizesR (t.take j)).getD z.toNat 0=(sizesR t).getD z.toNat 0:=by
 unfold sizesR
 rw [accL_take sizeR t j (by omega)]
 have:z.toNat<j:=by omega
 simp [List.getD,this]
theorem sizes_get {t:List GN}{j:Nat}(hj:j<t.length):(sizesR t).getD j 0=sizeR (sizesR (t.take j)) (t.getD j default):=accL_get sizeR 0 t hj
theorem sizeP_cases {before:List Int}{j:Nat}{x:GN}(hn:NodeOK j x)(hb:∀ z:Int,0≤z→z<j→1≤before.getD z.toNat 0) :
  sizeP before x=sizeR before x∨(x.kind=4∧x.values=[]∧sizeP before x=1∧sizeR before x=0):=by
 unfold sizeP sizeR
 by_cases h0:x.kind=0
 ·left;simp [h0]
 ·by_cases h1:x.kind=1
  ·left;simp [h1]
  ·by_cases h3:x.kind=3
   ·left;simp [h3]
   ·by_cases h2:x.kind=2
    ·left
     simp only [h2]
     have hc:=hn.choice h2
     have hk:=hn.kids _ (getD_mem (d:=0) (show 0<x.kids.length by omega))
     have hg:=(lmostW_ge (before:=before) (ch:=true) x.kids 0 0).2 0 (by omega) (.inl rfl)
     have h5:=hb _ hk.1 hk.2
     have:=(lmost_one (before:=before) (ch:=true) x.kids 0 0 1 (by omega)).1 (by omega)
     simpa using this
    ·have hk4:x.kind=4:=by have:=hn.kind;omega
     simp only [hk4]
     have hl:=hn.bind hk4
     by_cases hv:x.values=[]
     ·right
      rw [hv] at hl
      simp only [List.length_nil] at hl
      obtain ⟨z,hz⟩:∃ z,x.kids=[z]:=List.length_eq_one_iff.1 hl
      rw [hz]
      simp [lmostW,hv]
     ·left
      have hvl:0<x.values.length:=List.length_pos_iff.2 hv
      have hk:=hn.kids _ (getD_mem (d:=0) (show 1<x.kids.length by omega))
      have hg:=(lmostW_ge (before:=before) (ch:=false) x.kids 0 0).2 1 (by omega) (.inr (by omega))
      have h5:=hb _ hk.1 hk.2
      have:=(lmost_one (before:=before) (ch:=false) x.kids 0 0 1 (by omega)).1 (by omega)
      simpa using this
theorem sizes_ok {t:List GN}{i:Nat}(h:GoodTo t i)(hs:Small t):∀ j,j<i→1≤(sizesR t).getD j 0∧(sizesR t).getD j 0≤1024:=by
 intro j
 induction j using Nat.strongRecOn with
 | ind j ih =>
  intro hj
  have hc:=h.at_ hj
  have hlt:j<t.length:=by have:=h.1;omega
  refine ⟨?_,hc.size⟩
  have hn:=hc.node
  have hk:∀ z:Int,0≤z→z<(j:Int)→1≤(sizesR (t.take j)).getD z.toNat 0∧(sizesR (t.take j)).getD z.toNat 0≤1024:=fun z h1 h2=>by
   rw [sizes_kid hlt ⟨h1,h2⟩];exact ih z.toNat (by omega) (by omega)
  have hf:=kids_few h hj
  have hv:=hs _ (getD_mem (d:=default) hlt)
  rw [sizes_get hlt]
  generalize t.getD j default=x at *
  have hp:=sizeP_cases hn (fun z h1 h2=>(hk z h1 h2).1)
  have hne:x.kind=4→x.values ≠ []:=fun h4 hv=>by have:=hf.2.2 h4;rw [hv] at this;simp at this
  have hz:∀ z ∈ x.kids,1≤(sizesR (t.take j)).getD z.toNat 0∧(sizesR (t.take j)).getD z.toNat 0≤1024:=fun z hz=>hk z (hn.kids z hz).1 (hn.kids z hz).2
  generalize sizesR (t.take j)=before at *
  rcases hp with hp | ⟨h4,hv,_⟩
  ·rw [← hp]
   unfold sizeP
   split
   ·rw [rsz_gsz _ (by omega)];have:=gsz_pos x.value;omega
   ·split
    ·exact lsumW_eq' hz (by omega) (by omega)
    ·split
     ·exact (lmostW_ge x.kids 0 1).1
     ·split
      ·exact (lmostW_ge x.kids 0 1).1
      ·exact Int.le_refl _
  ·exact absurd hv (hne h4)
end Go.Proofs.YtkoeecdjijfjnaaGreat
