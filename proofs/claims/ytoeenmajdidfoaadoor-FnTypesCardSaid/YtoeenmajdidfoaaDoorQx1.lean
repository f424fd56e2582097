-- Written by a program of this session; it walks the functions that the law reaches.
import Derived.Test.YtoeenmajdidfoaaDoorQx0
namespace Go.Proofs.YtoeenmajdidfoaaDoor.Q
open Go.RowKit Go.Proofs.YtoeenmajdidfoaaDoorW.PrintWords Go.Proofs.YtoeenmajdidfoaaDoorW.PrintLast Go.Proofs.YtoeenmajdidfoaaDoorW.PrintMore
attribute [local go_sem] max2_int min2_int max_two min_two max_three min_three max_four min_four   -- for this text's walks alone
set_option linter.unusedVariables false
set_option linter.unusedSimpArgs false
set_option maxRecDepth 100000
set_option maxHeartbeats 8000000

theorem eqA33 (d:Nat) (w:World) (x0 y0:Int) (x1 y1:Int) (x2 y2:Int):
  (Op.equalIn (d+2) 33 (.agg #[.int .i64 x0,.int .i64 x1,.int .i64 x2]) (.agg #[.int .i64 y0,.int .i64 y1,.int .i64 y2])).run Tryd.prog w=.ok (x0==y0 && (x1==y1 && (x2==y2))) w:=by
 refine eqA_of Tryd.underlying33 (by kernel_rfl) ?_
 refine eqf_cons (by rfl) (by go_simp;rfl) (by go_simp;rfl) (by go_simp) ?_
 refine eqf_cons (by rfl) (by go_simp;rfl) (by go_simp;rfl) (by go_simp) ?_
 exact eqf_last (by rfl) (by go_simp;rfl) (by go_simp;rfl) (by go_simp)


/-! ### spec_l11Flat: function 34 (walked by hand) -/
/-- A tree of shapes at most n deep lies at block b, from cell o on. -/
def TreeAt (w:World):Nat→Nat→Nat→S43→Prop
 |0,_,_,_=>False
 |n+1,b,o,t=>w.cell? ⟨b,o,none⟩=some (.int .i64 t.f0)∧w.cell? ⟨b,o+1,none⟩=some (.int .i64 t.f1)∧t.f2.length≤8∧∃ A c,w.cell? ⟨b,o+2,none⟩=some (.slice A t.f2.length c)∧t.f2.length≤c∧∀ i x,t.f2[i]? =some x→∃ ad pb po,A=some ad∧w.cell? (ad.add i)=some (.pointer (some ⟨pb,po,none⟩))∧TreeAt w n pb po x

theorem treeAt_below {w w1:World} (hb:Below w.heap.size w w1):∀ {n b o:Nat} {t:S43},TreeAt w n b o t→TreeAt w1 n b o t
 |0,_,_,_,h=>h.elim
 |n+1,b,o,t,⟨h0,h1,hl,A,c,h2,hc,hk⟩=>
  ⟨cl_ hb h0,cl_ hb h1,hl,A,c,cl_ hb h2,hc,
   fun i x hx=>by
    obtain⟨ad,pb,po,hA,hp,hT⟩:=hk i x hx
    exact⟨ad,pb,po,hA,cl_ hb hp,treeAt_below hb hT⟩⟩

theorem fold_take {α β:Type} (f:β→α→β) (s:β) (l:List α) (j:Nat) (h:j<l.length):(l.take (j+1)).foldl f s=f ((l.take j).foldl f s) l[j]:=by
 rw[List.take_succ_eq_append_getElem h,List.foldl_append];rfl
/-! Trees of few parts. -/
def fewB:Nat→S43→Bool
 |0,_=>false
 |n+1,t=>decide (t.f2.length≤8) && t.f2.all (fewB n)
theorem fewB_kids {n:Nat} {t:S43} (h:fewB (n+1) t=true):t.f2.length≤8∧∀ x∈t.f2,fewB n x=true:=by
 rw[fewB,Bool.and_eq_true] at h
 exact⟨of_decide_eq_true h.1,fun x hx=>List.all_eq_true.1 h.2 x hx⟩
/-! The nodes of a tree, behind the row handed over. -/
def nodesN:Nat→List S33→S43→Int→List S33
 |0,l,_,_=>l
 |n+1,l,t,up=>t.f2.foldl (fun s x=>nodesN n s x (l.length:Int)) (l++[⟨t.f0,t.f1,up⟩])
theorem foldl_few_len (f:List S33→S43→List S33) (m:Nat):∀ (xs:List S43) (s:List S33),(∀ x∈xs,∀ s,(f s x).length≤s.length+m)→(xs.foldl f s).length≤s.length+xs.length*m
 |[],s,_=>by simp
 |x ::xs,s,h=>by
  have h1:=foldl_few_len f m xs (f s x) (fun y hy=>h y (List.mem_cons_of_mem _ hy))
  have h2:=h x List.mem_cons_self s
  rw[List.foldl_cons]
  rw[List.length_cons,Nat.succ_mul]
  omega
theorem nodesN_len:∀ (n:Nat) (l:List S33) (t:S43) (up:Int),fewB n t=true→(nodesN n l t up).length≤l.length+(2*8 ^ n - 1)
 |0,_,_,_,h=>by cases h
 |n+1,l,t,up,h=>by
  obtain⟨hl,hx⟩:=fewB_kids h
  have h1:=foldl_few_len (fun s x=>nodesN n s x (l.length:Int)) (2*8 ^ n - 1) t.f2 (l++[⟨t.f0,t.f1,up⟩]) (fun x hxx s=>nodesN_len n s x _ (hx x hxx))
  have hp:1≤8 ^ n:=Nat.one_le_pow _ _ (by decide)
  have hq:8 ^ (n+1)=8*8 ^ n:=by rw[Nat.pow_succ,Nat.mul_comm]
  have h8:t.f2.length*(2*8 ^ n - 1)≤8*(2*8 ^ n - 1):=Nat.mul_le_mul_right _ hl
  rw[List.length_append,List.length_singleton] at h1
  show(t.f2.foldl (fun s x=>nodesN n s x (l.length:Int)) (l++[⟨t.f0,t.f1,up⟩])).length≤_
  omega

theorem nodes_any (n:Nat):n≤12→∀ (t:S43) (A:Option Addr) (c:Nat) (up:Int) (l:List S33) (v:Value) (wb w:World),fewB n t=true→Kd.C k43 wb A t.f2.length t.f2→t.f2.length≤c→Below wb.heap.size wb w→Kd.R k33 33 w wb.heap.size (fun _=>True) v l→l.length+2*8 ^ n≤1000000000000→
  Calls Tryd.prog 34 #[v,.agg #[.int .i64 t.f0,.int .i64 t.f1,.slice A t.f2.length c],.int .i64 up] w fun e w'=>∃ v0:Value,e=.returned v0∧Kd.R k33 33 w' wb.heap.size (fun _=>True) v0 (nodesN n l t up)∧Below wb.heap.size wb w':=by
 induction n with
 |zero=>intro hn t A c up l v wb w h;cases h
 |succ n ih=>
  intro hn t A c up l v wb w hf hC hc hB hR hl
  have hu33:=Tryd.underlying33
  have hu43:=Tryd.underlying43
  have HF8:=A_ (fewB_kids hf)
  have HC:=A_ hC
  have HB:=A_ hB
  have HLN:=A_ hl
  obtain⟨Av,cv,ev⟩:=Kd.R_slice hR
  subst ev
  have HO:=A_ hR
  clear hC hf hB hR hl
  have HNE:Aside0 (∀ g,w.heap.size≤g→some g≠(Value.slice Av l.length cv).ownBlock):=⟨fun g hg h=>absurd (Kd.R_lt HO.out g h.symm) (by omega)⟩
  have HNL:Aside0 ((l.length+1)*24≤140737488355328):=⟨by have:=HLN.out;omega⟩
  have E:nodesN (n+1) l t up=t.f2.foldl (fun s x=>nodesN n s x (l.length:Int)) (l++[⟨t.f0,t.f1,up⟩]):=rfl
  rw[E];clear E
  go_enter Tryd.func34,Tryd.ntmps34
  go_wp2_with (first
   |((with_reducible refine gate_dst (N:=4) rfl ?_);refine box_event ?hg (N:=4) ?hd (cs:=#[.int .i64 t.f0,.int .i64 t.f1,.slice A t.f2.length c]) (t:=43) ?hr ?_;(case hd=>rfl);(case hg=>rfl);(case hr=>first|(go_simp;done)|(go_simp;rfl));intro g0 hg w0 hbox hb;have BK0:=A_ hbox;have n0_:=A_ (HB.out.trans (hb.mono HB.out.size));have n1_:=A_ (Kd.R_below HO.out hb);have GE0:=A_ (HNE.out g0 (Nat.le_of_eq hg.symm));clear hbox hb hg HB HO;have HB:=n0_;have HO:=n1_;clear n0_ n1_;have q0:w0.cell? ⟨g0,0,none⟩=some (.int .i64 t.f0):=(blk_cell BK0.out 0).trans rfl;have q1:w0.cell? ⟨g0,1,none⟩=some (.int .i64 t.f1):=(blk_cell BK0.out 1).trans rfl;have q2:w0.cell? ⟨g0,2,none⟩=some (.slice A t.f2.length c):=(blk_cell BK0.out 2).trans rfl)
   |((with_reducible refine gate_builtin (b:=.append) (xs:=#[.tmp 12,.tmp 19]) rfl ?_);at_builtin;refine Kd.R_append k33 (w0:=wb) wb.heap.size rfl (.tmp 12) (.tmp 19) 23 33 (.agg #[(.int .i64 0),(.int .i64 0),(.int .i64 0)]) 24 rfl Tryd.underlying23 info33 rfl (by decide) (by omega) (.slice Av l.length cv) l (⟨t.f0,t.f1,up⟩:S33) [.int .i64 t.f0,.int .i64 t.f1,.int .i64 up] (fun _=>True) (fun _=>False) rfl rfl ?aP (fun _ hk=>hk.elim) ?aF ?aO ?aB ?aS ?aL ?_;(case aP=>exact k33_mkM _ _ _ _);(case aB=>exact HB.out);(case aF=>exact(fun k_ hk=>trivial));(case aO=>exact HO.out);(case aS=>exact HB.out.size);(case aL=>exact HNL.out);intro v2 w2 ho hb hg hat;have n0_:=A_ ho;have n1_:=A_ hb;have q2':w2.cell? ⟨g0,2,none⟩=some (.slice A t.f2.length c):=(blk_cell (blk_grown BK0.out hg GE0.out) 2).trans rfl;clear ho hb hg hat HO HB q0 q1 q2 BK0 GE0;have HO:=n0_;have HB:=n1_;have q2:=q2';clear n0_ n1_ q2'))
  go_loopg [0,24] t.f2.length (fun kq v0 v24 w'=>∃ j:Nat,j+kq=t.f2.length∧v24=.int .i64 j∧Aside0 (Kd.R k33 33 w' wb.heap.size (fun _=>True) v0 ((t.f2.take j).foldl (fun s x=>nodesN n s x (l.length:Int)) (l++[⟨t.f0,t.f1,up⟩])))∧Aside0 (Below wb.heap.size wb w'))
  case atStart=>exact⟨0,by omega,rfl,⟨HO.out⟩,⟨HB.out⟩⟩
  case round=>
   clear q2 HO HB
   obtain⟨j,hj,rfl,HO,HB⟩:=hrel
   have hl8:=HF8.out.1
   by_cases hlt:j<t.f2.length
   ·
    obtain⟨ad,A2,c2,hA,hx0b,hx1b,hx2b,hl2,hiB⟩:=at_T43 HC.out (j:Int) (by omega) (by omega)
    subst hA
    have hx0:=cl_ HB.out hx0b
    have hx1:=cl_ HB.out hx1b
    have hx2:=cl_ HB.out hx2b
    clear hx0b hx1b hx2b
    have hrd:rd_T43 t.f2 (j:Int)=t.f2[j]:=by unfold rd_T43;rw[Int.toNat_natCast,List.getD_eq_getElem?_getD,List.getElem?_eq_getElem hlt];rfl
    rw[hrd] at hx0 hx1 hx2 hl2 hiB
    clear hrd
    rw[Int.toNat_natCast] at hx0 hx1 hx2
    have HFX:=A_ (HF8.out.2 _ (List.getElem_mem hlt))
    have HX:=A_ hiB
    have HCX:=A_ hl2
    have HFD:=A_ (fold_take (fun s x=>nodesN n s x (l.length:Int)) (l++[⟨t.f0,t.f1,up⟩]) t.f2 j hlt)
    have HL:=A_ (foldl_few_len (fun s x=>nodesN n s x (l.length:Int)) (2*8 ^ n - 1) (t.f2.take j) (l++[⟨t.f0,t.f1,up⟩]) (fun y hy s=>nodesN_len n s y _ (HF8.out.2 y (List.mem_of_mem_take hy))))
    clear hl2 hiB
    generalize t.f2[j]=x at hx0 hx1 hx2 HFX HX HCX HFD
    generalize (t.f2.take j).foldl (fun s x=>nodesN n s x (l.length:Int)) (l++[⟨t.f0,t.f1,up⟩])=acc at HFD HO HL
    have HN:Aside0 (acc.length+2*8 ^ n≤1000000000000):=⟨by
     have a1:=HL.out
     have a3:(t.f2.take j).length*(2*8 ^ n - 1)≤7*(2*8 ^ n - 1):=Nat.mul_le_mul_right _ (by rw[List.length_take];have:=HF8.out.1;omega)
     have a5:8 ^ (n+1)=8*8 ^ n:=by rw[Nat.pow_succ,Nat.mul_comm]
     have a6:1≤8 ^ n:=Nat.one_le_pow _ _ (by decide)
     have a7:=HLN.out
     rw[List.length_append,List.length_singleton] at a1
     omega⟩
    clear HL
    obtain⟨Ac,cc,ec⟩:=Kd.R_slice HO.out
    subst ec
    go_wp2_with (first
     |((with_reducible refine gate_dst (N:=9) rfl ?_);refine box_event ?hg (N:=9) ?hd (cs:=#[.int .i64 0,.int .i64 0,.slice none 0 0]) (t:=43) ?hr ?_;(case hd=>rfl);(case hg=>rfl);(case hr=>first|(go_simp;done)|(go_simp;rfl));intro gb hg wx hbox hb;have BK:=A_ hbox;have HBb:=A_ hb;have GE:=A_ (show wr.heap.size≤gb from Nat.le_of_eq hg.symm);clear hbox hb hg;have z0:wx.cell? ⟨gb,0,none⟩=some (.int .i64 0):=(blk_cell BK.out 0).trans rfl;have z1:wx.cell? ⟨gb,1,none⟩=some (.int .i64 0):=(blk_cell BK.out 1).trans rfl;have z2:wx.cell? ⟨gb,2,none⟩=some (.slice none 0 0):=(blk_cell BK.out 2).trans rfl;have y0:=blk_frozen BK.out 0;have y1:=blk_frozen BK.out 1;have y2:=blk_frozen BK.out 2)
     |((with_reducible refine gate_store (t:=43) (p:=9) rfl ?_);refine store_event (t:=43) (p:=9) (v:=?vo_a) (w1:=(((wx.setCell ⟨gb,0,none⟩ (.int .i64 x.f0)).setCell ⟨gb,1,none⟩ (.int .i64 x.f1)).setCell ⟨gb,2,none⟩ (.slice A2 x.f2.length c2))) ?hg ?ho ?hn ?hr ?_;(case ho=>rfl);(case hg=>rfl);(case hn=>rfl);(case hr=>first|(go_simp;done)|(go_simp;rfl));intro wc hw;have HW:=A_ (show Below wr.heap.size wr wc from by rw[hw];exact below_set (below_set (below_set HBb.out GE.out) GE.out) GE.out);have BK2:Aside0 (wc.heap[gb]? =some (.cells #[.int .i64 x.f0,.int .i64 x.f1,.slice A2 x.f2.length c2] 43 (0,0))):=⟨by rw[hw];refine blk_put (cs:=#[.int .i64 x.f0,.int .i64 x.f1,.slice none 0 0]) ?_ 2 _ rfl;refine blk_put (cs:=#[.int .i64 x.f0,.int .i64 0,.slice none 0 0]) ?_ 1 _ rfl;refine blk_put (cs:=#[.int .i64 0,.int .i64 0,.slice none 0 0]) ?_ 0 _ rfl;exact BK.out⟩;clear hw z0 z1 z2 y0 y1 y2 BK HBb;have z0:wc.cell? ⟨gb,0,none⟩=some (.int .i64 x.f0):=(blk_cell BK2.out 0).trans rfl;have z1:wc.cell? ⟨gb,1,none⟩=some (.int .i64 x.f1):=(blk_cell BK2.out 1).trans rfl;have z2:wc.cell? ⟨gb,2,none⟩=some (.slice A2 x.f2.length c2):=(blk_cell BK2.out 2).trans rfl)
     |(go_at_call 34;refine(ih (by omega) x A2 c2 (l.length:Int) acc _ wb _ HFX.out HX.out HCX.out (HB.out.trans (HW.out.mono HB.out.size)) (Kd.R_below HO.out HW.out) HN.out).mono ?_;rintro e w' ⟨v0,rfl,ho,hb⟩;rw[←HFD.out] at ho;have n0_:=A_ ho;have n1_:=A_ hb;clear HO HB HW BK2 z0 z1 z2 ho hb;have HO:=n0_;have HB:=n1_;clear n0_ n1_))
    go_roundg (t.f2.length - (j+1))
    case measure=>omega
    case rel=>exact⟨j+1,by omega,by go_num,⟨HO.out⟩,⟨HB.out⟩⟩
   obtain rfl:j=t.f2.length:=by omega
   rw[List.take_length] at HO
   go_wp2
   go_ret
   exact⟨_,rfl,HO.out,HB.out⟩
/-- The row handed over is the empty one in all the statements. -/
def spec_l11Flat.f (l0:List S33) (a1_0:Int) (a1_1:Int) (l1_2:List S43) (a2:Int):Option (List S33):=if fewB 9 ⟨a1_0,a1_1,l1_2⟩=true∧l0=[] then some (nodesN 9 [] ⟨a1_0,a1_1,l1_2⟩ a2) else none
/-- No row, or one cell and more. -/
def capN (A:Option Addr) (c:Nat):Nat:=match A with
 |none=>c
 |some _=>c+1
theorem spec_l11Flat.calls (A0:Option Addr) (c0:Nat) (l0:List (S33)) (a1_0:Int) (a1_1:Int) (A1_2:Option Addr) (c1_2:Nat) (l1_2:List (S43)) (a2:Int) (r:List (S33)) (w:World) (hr0:Kd.C k33 w A0 l0.length l0) (hc0:capN A0 c0≤0) (hr1_2:Kd.C k43 w A1_2 l1_2.length l1_2) (hc1_2:l1_2.length≤c1_2) (h:spec_l11Flat.f l0 a1_0 a1_1 l1_2 a2=some r):
  Calls Tryd.prog 34 #[.slice A0 l0.length c0,.agg #[.int .i64 a1_0,.int .i64 a1_1,.slice A1_2 l1_2.length c1_2],.int .i64 a2] w fun e w'=>∃ v0_:Value,e=.returned (v0_)∧Kd.R k33 33 w' w.heap.size (fun _=>True) v0_ r∧Below w.heap.size w w':=by
 unfold spec_l11Flat.f at h
 by_cases c:fewB 9 ⟨a1_0,a1_1,l1_2⟩=true∧l0=[]
 ·
  rw[if_pos c] at h
  obtain rfl:=Option.some.inj h
  obtain⟨c1,rfl⟩:=c
  cases A0 with
  |some ad=>exact absurd hc0 (by simp[capN])
  |none=>
   obtain rfl:c0=0:=Nat.le_zero.1 hc0
   exact nodes_any 9 (by decide) ⟨a1_0,a1_1,l1_2⟩ A1_2 c1_2 a2 [] _ w w c1 hr1_2 hc1_2 (Below.refl _ _) (Kd.R_nil _ _ _ _ _) (by decide)
 rw[if_neg c] at h;cases h

/-! ### spec_l11Shape: function 26 -/
mutual
def spec_l11Shape.j0:Nat→Int→Bool→Option (Int × Int × Int × Int)
 |0,_,_=>none
 |k+1,x6,x7=>if x7=true then (some (1,1,0,0)) else (if x6=14 then (spec_l11Shape.j1 k x6 (x6==14)) else (spec_l11Shape.j1 k x6 (x6==15)))
def spec_l11Shape.j1:Nat→Int→Bool→Option (Int × Int × Int × Int)
 |0,_,_=>none
 |k+1,x6,x10=>if x10=true then (some (1,8,0,0)) else (if x6=18 then (some (2,2,0,0)) else (if x6=16 then (some (0,0,1,32)) else (if x6=19 then (some (0,0,1,300)) else (if x6=20 then (some (0,0,0,9)) else (if x6=21 then (some (0,0,0,9)) else (some (0,0,0,0)))))))
end
def spec_l11Shape.f (k:Nat) (a0:Int):Option (Int × Int × Int × Int):=if a0=13 then (spec_l11Shape.j0 k a0 (a0==13)) else (spec_l11Shape.j0 k a0 (a0==17))
theorem spec_l11Shape.mono_l:∀ k,(∀ y0 y1,LeO (spec_l11Shape.j0 k y0 y1) (spec_l11Shape.j0 (k+1) y0 y1))∧(∀ y0 y1,LeO (spec_l11Shape.j1 k y0 y1) (spec_l11Shape.j1 (k+1) y0 y1))
 |0=>⟨fun _ _ r h=>by simp[spec_l11Shape.j0] at h,fun _ _ r h=>by simp[spec_l11Shape.j1] at h⟩
 |k+1=>by
  obtain⟨ih0,ih1⟩:=spec_l11Shape.mono_l k
  refine⟨?_,?_⟩<;>intros<;>first|unfold spec_l11Shape.j0|unfold spec_l11Shape.j1
  all_goals repeat' first
  |(with_reducible exact ih0 _ _)
  |(with_reducible exact ih1 _ _)
  |(with_reducible exact LeO.refl _)
  |(with_reducible exact LeO.none _)
  |(with_reducible refine LeO.ite ?_ ?_)
  |(with_reducible refine LeO.bind ?_ (fun _=>?_))
  |exact ih0 _ _
  |exact ih1 _ _
  |exact LeO.none _
  |refine LeO.ite ?_ ?_
  |refine LeO.bind ?_ (fun _=>?_)
theorem spec_l11Shape.mono:∀ a0 k,LeO (spec_l11Shape.f k a0) (spec_l11Shape.f (k+1) a0):=by
 intro a0 k
 obtain⟨ih0,ih1⟩:=spec_l11Shape.mono_l k
 unfold spec_l11Shape.f
 repeat' first
  |(with_reducible exact ih0 _ _)
  |(with_reducible exact ih1 _ _)
  |(with_reducible exact LeO.refl _)
  |(with_reducible exact LeO.none _)
  |(with_reducible refine LeO.ite ?_ ?_)
  |(with_reducible refine LeO.bind ?_ (fun _=>?_))
  |exact ih0 _ _
  |exact ih1 _ _
  |exact LeO.none _
  |refine LeO.ite ?_ ?_
  |refine LeO.bind ?_ (fun _=>?_)
theorem spec_l11Shape.calls (k:Nat) (a0:Int) (r1:Int) (r2:Int) (r3:Int) (r4:Int) (w:World) (h:spec_l11Shape.f k a0=some (r1,r2,r3,r4)):
  Calls Tryd.prog 26 #[.int .i64 a0] w fun e w'=>e=.returned (.tuple #[.int .i64 r1,.int .i64 r2,.int .i64 r3,.int .i64 r4])∧Drawn0 w w':=by
 have H:(if a0=13 then (spec_l11Shape.j0 k a0 (a0==13)) else (spec_l11Shape.j0 k a0 (a0==17)))=some (r1,r2,r3,r4):=h
 clear h
 have HC2:=A_ H
 clear H
 go_enter Tryd.func26,Tryd.ntmps26
 go_upto_if 7 with (fail)
 go_cut [7] (fun v7 wc=>∃ (kq:Nat) (x7_1:Bool),v7=.bool x7_1∧Aside0 (spec_l11Shape.j0 kq a0 x7_1=some (r1,r2,r3,r4))∧Aside0 (kq≤k)∧Drawn0 w wc)
 case first=>
  have H:=HC2.out
  clear HC2
  revert H
  refine iE_ (fun c3b0 c3b1 H=>?_) (fun c3 c3b0 c3b1 H=>?_)
  ·
   (first|rw[c3b0]|(simp only[i64_w,i32_w];rw[c3b0])|skip)
   have H':=A_ H
   clear H
   go_wp2
   go_meet
   case rel=>exact⟨_,((a0==13)),rs_,H',⟨by first|omega|exact Nat.le_refl _⟩,dr_⟩
  (first|rw[c3b0]|(simp only[i64_w,i32_w];rw[c3b0])|skip)
  have H':=A_ H
  clear H
  go_wp2
  go_meet
  case rel=>exact⟨_,((a0==17)),rs_,H',⟨by first|omega|exact Nat.le_refl _⟩,dr_⟩
 case rest=>
  clear HC2
  obtain⟨kq,x7_1,rfl,HA,HJ1,⟨mc1,rfl⟩⟩:=hcut
  cases kq with
  |zero=>exact absurd HA.out (by simp[spec_l11Shape.j0])
  |succ kj1=>
   have H:=HA.out
   clear HA
   simp only[spec_l11Shape.j0] at H
   revert H
   refine iB_ (fun c4 H=>?_) (fun c4 H=>?_)<;>subst c4
   ·
    simp only[Option.some.injEq,Prod.mk.injEq] at H
    obtain⟨rfl,rfl,rfl,rfl⟩:=H
    go_wp2
    refine bodyPost_ret (results_list (rs:=[.tmp 2,.tmp 3,.tmp 4,.tmp 5]) rfl (by simp) (.tmp (.tmp (.tmp (.tmp .nil))))) rfl ?_
    exact⟨rs_,dr_⟩
   have HC5:=A_ H
   clear H
   go_upto_if 10 with (fail)
   go_cut [10] (fun v10 wc=>∃ (kq:Nat) (x10_4:Bool),v10=.bool x10_4∧Aside0 (spec_l11Shape.j1 kq a0 x10_4=some (r1,r2,r3,r4))∧Aside0 (kq≤kj1)∧Drawn0 w wc)
   case first=>
    have H:=HC5.out
    clear HC5
    revert H
    refine iE_ (fun c6b0 c6b1 H=>?_) (fun c6 c6b0 c6b1 H=>?_)
    ·
     (first|rw[c6b0]|(simp only[i64_w,i32_w];rw[c6b0])|skip)
     have H':=A_ H
     clear H
     go_wp2
     go_meet
     case rel=>exact⟨_,((a0==14)),rs_,H',⟨by have:=HJ1.out;first|omega|exact Nat.le_refl _⟩,dr_⟩
    (first|rw[c6b0]|(simp only[i64_w,i32_w];rw[c6b0])|skip)
    have H':=A_ H
    clear H
    go_wp2
    go_meet
    case rel=>exact⟨_,((a0==15)),rs_,H',⟨by have:=HJ1.out;first|omega|exact Nat.le_refl _⟩,dr_⟩
   case rest=>
    clear HC5
    try clear c4
    obtain⟨kq,x10_4,rfl,HA,HJ4,⟨mc4,rfl⟩⟩:=hcut
    cases kq with
    |zero=>exact absurd HA.out (by simp[spec_l11Shape.j1])
    |succ kj4=>
     have H:=HA.out
     clear HA
     simp only[spec_l11Shape.j1] at H
     revert H
     refine iB_ (fun c7 H=>?pc7) (fun c7 H=>?nc7)<;>subst c7
     case' pc7=>
      simp only[Option.some.injEq,Prod.mk.injEq] at H
      obtain⟨rfl,rfl,rfl,rfl⟩:=H
     case' nc7=>
      revert H
      refine iE_ (fun c8b0 c8b1 H=>?pc8) (fun c8 c8b0 c8b1 H=>?nc8)
      case' pc8=>
       simp only[Option.some.injEq,Prod.mk.injEq] at H
       obtain⟨rfl,rfl,rfl,rfl⟩:=H
      case' nc8=>
       revert H
       refine iE_ (fun c9b0 c9b1 H=>?pc9) (fun c9 c9b0 c9b1 H=>?nc9)
       case' pc9=>
        simp only[Option.some.injEq,Prod.mk.injEq] at H
        obtain⟨rfl,rfl,rfl,rfl⟩:=H
       case' nc9=>
        revert H
        refine iE_ (fun c10b0 c10b1 H=>?pc10) (fun c10 c10b0 c10b1 H=>?nc10)
        case' pc10=>
         simp only[Option.some.injEq,Prod.mk.injEq] at H
         obtain⟨rfl,rfl,rfl,rfl⟩:=H
        case' nc10=>
         revert H
         refine iE_ (fun c11b0 c11b1 H=>?pc11) (fun c11 c11b0 c11b1 H=>?nc11)
         case' pc11=>
          simp only[Option.some.injEq,Prod.mk.injEq] at H
          obtain⟨rfl,rfl,rfl,rfl⟩:=H
         case' nc11=>
          revert H
          refine iE_ (fun c12b0 c12b1 H=>?pc12) (fun c12 c12b0 c12b1 H=>?nc12)
          case' pc12=>
           simp only[Option.some.injEq,Prod.mk.injEq] at H
           obtain⟨rfl,rfl,rfl,rfl⟩:=H
          case' nc12=>
           simp only[Option.some.injEq,Prod.mk.injEq] at H
           obtain⟨rfl,rfl,rfl,rfl⟩:=H
     all_goals
      go_wp2
      refine bodyPost_ret (results_list (rs:=[.tmp 2,.tmp 3,.tmp 4,.tmp 5]) rfl (by simp) (.tmp (.tmp (.tmp (.tmp .nil))))) rfl ?_
      exact⟨rs_,dr_⟩

/-- A state of type 52 at block g of W; what its slices lead to came in by w0. -/
def IsS52 (w0 W:World) (g:Nat) (f0:List Int) (f1:Int) (f2:Int):Prop:=∃ A0 c0,W.heap[g]? =some (.cells #[.slice A0 f0.length c0,.int .i64 f1,.int .u64 f2] 52 (0,0))∧w0.heap.size≤g∧Kd.C (Kd.int .u8) w0 A0 f0.length f0
section
variable {w0 W:World} {g:Nat} {f0:List Int} {f1:Int} {f2:Int}
theorem IsS52.grown {W1:World} {row:Option Nat} (h:IsS52 w0 W g f0 f1 f2) (hw:W.grownBy W1 row) (hne:some g≠row):IsS52 w0 W1 g f0 f1 f2:=by
 obtain⟨A0,c0,hb,hg,hr0⟩:=h
 exact⟨A0,c0,blk_grown hb hw hne,hg,hr0⟩
theorem IsS52.own_neN {α:Type} {d:Kd α} {e:Nat} {base:Nat} {ok:Nat→Prop} {v:Value} {xs:List α} (h:IsS52 w0 W g f0 f1 f2) (ho:Kd.N d e W base ok v xs) (ht:e≠52):some g≠v.ownBlock:=by
 obtain⟨A0,c0,hb,hg,hr0⟩:=h
 exact Kd.N_ne ho hb ht
theorem IsS52.fresh (h:IsS52 w0 W g f0 f1 f2):∀ k,W.heap.size≤k→k≠g:=by
 obtain⟨A0,c0,hb,hg,hr0⟩:=h
 exact Kd.freshB hb
theorem IsS52.kept {W1:World} {S:Nat→Prop} (h:IsS52 w0 W g f0 f1 f2) (hk:Kept W W1 S) (hne:¬S g):IsS52 w0 W1 g f0 f1 f2:=by
 obtain⟨A0,c0,hb,hg,hr0⟩:=h
 exact⟨A0,c0,blk_kept hb hk hne,hg,hr0⟩
theorem IsS52.below {W1:World} (h:IsS52 w0 W g f0 f1 f2) (hw:Below W.heap.size W W1):IsS52 w0 W1 g f0 f1 f2:=h.grown (grown_of_below hw none) (by simp)
theorem IsS52.alloc (h:IsS52 w0 W g f0 f1 f2) (o:Obj):IsS52 w0 (W.alloc o) g f0 f1 f2:=h.below (below_alloc (Below.refl _ _) o)
theorem IsS52.drewN (h:IsS52 w0 W g f0 f1 f2) (m:Nat):IsS52 w0 (W.drewN m) g f0 f1 f2:=h
theorem IsS52.drew (h:IsS52 w0 W g f0 f1 f2):IsS52 w0 W.drew g f0 f1 f2:=h
theorem IsS52.at_ {w':World} {m:Nat} (hq:W.drewN m=w') (h:IsS52 w0 W g f0 f1 f2):IsS52 w0 w' g f0 f1 f2:=by subst hq;exact IsS52.drewN h m
theorem IsS52.apart {α:Type} {d:Kd α} {e:Nat} {base:Nat} {ok:Nat→Prop} {v:Value} {xs:List α} (h:IsS52 w0 W g f0 f1 f2) (ho:d.R e W base ok v xs) (ht:∀ q,q∈e ::d.E→q≠52):d.R e W base (fun k=>ok k∧k≠g) v xs:=by
 obtain⟨A0,c0,hb,hg,hr0⟩:=h
 exact Kd.R_types ho hb ht
theorem IsS52.own_ne {α:Type} {d:Kd α} {e:Nat} {base:Nat} {ok:Nat→Prop} {v:Value} {xs:List α} (h:IsS52 w0 W g f0 f1 f2) (ho:d.R e W base ok v xs) (ht:e≠52):some g≠v.ownBlock:=by
 obtain⟨A0,c0,hb,hg,hr0⟩:=h
 exact Kd.R_ne ho hb ht
theorem IsS52.apartQ {α:Type} {d:Kd α} {e:Nat} {base:Nat} {ok:Nat→Prop} {v:Value} {xs:List α} (h:IsS52 w0 W g f0 f1 f2) (ho:d.Q e W base ok v xs) (ht:∀ q,q∈e ::d.E→q≠52):d.Q e W base (fun k=>ok k∧k≠g) v xs:=by
 obtain⟨A0,c0,hb,hg,hr0⟩:=h
 exact Kd.Q_types ho hb ht
theorem IsS52.own_neQ {α:Type} {d:Kd α} {e:Nat} {base:Nat} {ok:Nat→Prop} {v:Value} {xs:List α} (h:IsS52 w0 W g f0 f1 f2) (ho:d.Q e W base ok v xs) (ht:e≠52):some g≠v.ownBlock:=by
 obtain⟨A0,c0,hb,hg,hr0⟩:=h
 exact Kd.Q_ne ho hb ht
theorem IsS52.apartS {α:Type} {d:Kd α} {e:Nat} {base:Nat} {ok:Nat→Prop} {v:Value} {xs:List α} (h:IsS52 w0 W g f0 f1 f2) (ho:d.S e W base ok v xs) (ht:∀ q,q∈e ::d.E→q≠52):d.S e W base (fun k=>ok k∧k≠g) v xs:=by
 obtain⟨A0,c0,hb,hg,hr0⟩:=h
 exact Kd.S_types ho hb ht
theorem IsS52.own_neS {α:Type} {d:Kd α} {e:Nat} {base:Nat} {ok:Nat→Prop} {v:Value} {xs:List α} (h:IsS52 w0 W g f0 f1 f2) (ho:d.S e W base ok v xs) (ht:e≠52):some g≠v.ownBlock:=by
 obtain⟨A0,c0,hb,hg,hr0⟩:=h
 exact Kd.S_ne ho hb ht
theorem IsS52.lt (h:IsS52 w0 W g f0 f1 f2):g<W.heap.size:=by
 obtain⟨A0,c0,hb,hg,hr0⟩:=h
 exact blk_lt hb
theorem IsS52.ge (h:IsS52 w0 W g f0 f1 f2):w0.heap.size≤g:=by
 obtain⟨A0,c0,hb,hg,hr0⟩:=h
 exact hg
theorem IsS52.ne_blk {a:Nat} {cs:Array Value} {t:TypeId} {fr:Nat × Nat} (h:IsS52 w0 W g f0 f1 f2) (hb2:W.heap[a]? =some (.cells cs t fr)) (ht:t≠52):g≠a:=by
 obtain⟨A0,c0,hb,hg,hr0⟩:=h
 rintro rfl
 rw[hb] at hb2
 injection hb2 with hb2
 injection hb2 with _ ht2
 exact ht ht2.symm
theorem IsS52.far {p:Addr} (h:IsS52 w0 W g f0 f1 f2) (hne:g≠p.block) (u:Value):IsS52 w0 (W.setCell p u) g f0 f1 f2:=by
 obtain⟨A0,c0,hb,hg,hr0⟩:=h
 exact⟨A0,c0,blk_far hb hne u,hg,hr0⟩
end
section
variable {W:World} {g:Nat} {A0:Option Addr} {c0:Nat} {f0:List Int} {f1:Int} {f2:Int}
theorem cellS52_0 (h:W.heap[g]? =some (.cells #[.slice A0 f0.length c0,.int .i64 f1,.int .u64 f2] 52 (0,0))):W.cell? ⟨g,0,none⟩=some (.slice A0 f0.length c0):=(blk_cell h 0).trans rfl
theorem cellS52_1 (h:W.heap[g]? =some (.cells #[.slice A0 f0.length c0,.int .i64 f1,.int .u64 f2] 52 (0,0))):W.cell? ⟨g,1,none⟩=some (.int .i64 f1):=(blk_cell h 1).trans rfl
end
theorem IsS52.set_1 {w0 W:World} {g:Nat} {f0:List Int} {f1:Int} {f2:Int} (h:IsS52 w0 W g f0 f1 f2) (x:Int):IsS52 w0 (W.setCell ⟨g,1,none⟩ (.int .i64 x)) g f0 x f2:=by
 obtain⟨A0,c0,hb,hg,hr0⟩:=h
 exact⟨A0,c0,by simpa using blk_set hb 1 (.int .i64 x),hg,hr0⟩
theorem cellS52_2 {W:World} {g:Nat} {A0:Option Addr} {c0:Nat} {f0:List Int} {f1:Int} {f2:Int} (h:W.heap[g]? =some (.cells #[.slice A0 f0.length c0,.int .i64 f1,.int .u64 f2] 52 (0,0))):W.cell? ⟨g,2,none⟩=some (.int .u64 f2):=(blk_cell h 2).trans rfl
theorem IsS52.set_2 {w0 W:World} {g:Nat} {f0:List Int} {f1:Int} {f2:Int} (h:IsS52 w0 W g f0 f1 f2) (x:Int):IsS52 w0 (W.setCell ⟨g,2,none⟩ (.int .u64 x)) g f0 f1 x:=by
 obtain⟨A0,c0,hb,hg,hr0⟩:=h
 exact⟨A0,c0,by simpa using blk_set hb 2 (.int .u64 x),hg,hr0⟩
theorem IsS52.new (w0 W:World) (A0:Option Addr) (c0:Nat) (f0:List Int) (f1:Int) (f2:Int) (hB:Below w0.heap.size w0 W) (hr0:Kd.C (Kd.int .u8) w0 A0 f0.length f0):IsS52 w0 (W.alloc (.cells #[.slice A0 f0.length c0,.int .i64 f1,.int .u64 f2] 52)) W.heap.size f0 f1 f2:=⟨A0,c0,by simpa using heap_alloc_new W _,hB.size,hr0⟩

theorem y0 {p q:Prop} (x:q) (h:q→p:=by intro h;repeat (first|(with_reducible first|exact h|apply below_alloc|apply pw_below_drewN|apply below_drew1|refine below_set ?_ (IsS52.ge (Aside0.out (by assumption))))|exact h)):p:=h x
theorem y1 {p q:Prop} (x:q) (h:q→p:=by intro h;repeat (first|(with_reducible first|exact h|apply IsS52.alloc|apply IsS52.drewN|apply IsS52.drew|apply IsS52.set_1|apply IsS52.set_2)|exact h)):p:=h x
theorem y4 {p q:Prop} (x:q) (h:q→p:=by intro h;repeat (first|(with_reducible first|exact h|apply IsS52.alloc|apply IsS52.drewN|apply IsS52.drew|apply IsS52.set_1|apply IsS52.set_2|refine IsS52.far ?_ (Aside0.out (by assumption)) _)|exact h)):p:=h x
theorem y5 {p q:Prop} (x:q) (h:q→p:=by intro h;repeat (first|(with_reducible first|exact h|apply below_alloc|apply pw_below_drewN|apply below_drew1|refine below_set ?_ (IsS52.ge (Aside0.out (by assumption)))|refine below_set ?_ (Aside0.out (by assumption)))|exact h)):p:=h x
/-! ### spec_l1Cur_next: function 47 -/
def spec_l1Cur_next.f (s0_0:List Int) (s0_1:Int) (s0_2:Int):Option (Int × Int × Int):=if s0_1<(s0_0.length:Int) then (if 0≤s0_1 then (if (wrap64 (s0_1+1))≤(s0_0.length:Int) then (some (wrap64 (rd s0_0 s0_1),wrap64 (s0_1+1),IntKind.u64.wrap ((IntKind.u64.wrap ((IntKind.u64.wrap (s0_2*6364136223846793005))+(IntKind.u64.wrap (wrap64 (rd s0_0 s0_1)))))+1442695040888963407))) else (some (wrap64 (Go.bits .and .u64 ((IntKind.u64.wrap ((IntKind.u64.wrap ((IntKind.u64.wrap (s0_2*6364136223846793005))+(IntKind.u64.wrap (wrap64 (rd s0_0 s0_1)))))+1442695040888963407)) / 1099511627776) 255),wrap64 (s0_1+1),IntKind.u64.wrap ((IntKind.u64.wrap ((IntKind.u64.wrap (s0_2*6364136223846793005))+(IntKind.u64.wrap (wrap64 (rd s0_0 s0_1)))))+1442695040888963407)))) else (none)) else (if (wrap64 (s0_1+1))≤(s0_0.length:Int) then (some (0,wrap64 (s0_1+1),IntKind.u64.wrap ((IntKind.u64.wrap (IntKind.u64.wrap (s0_2*6364136223846793005)))+1442695040888963407))) else (some (wrap64 (Go.bits .and .u64 ((IntKind.u64.wrap ((IntKind.u64.wrap (IntKind.u64.wrap (s0_2*6364136223846793005)))+1442695040888963407)) / 1099511627776) 255),wrap64 (s0_1+1),IntKind.u64.wrap ((IntKind.u64.wrap (IntKind.u64.wrap (s0_2*6364136223846793005)))+1442695040888963407))))
theorem spec_l1Cur_next.calls (g:Nat) (s0_0:List Int) (s0_1:Int) (s0_2:Int) (r1:Int) (r2:Int) (r3:Int) (w0 w:World) (hI:IsS52 w0 w g s0_0 s0_1 s0_2) (hB:Below w0.heap.size w0 w) (h:spec_l1Cur_next.f s0_0 s0_1 s0_2=some (r1,r2,r3)):
  Calls Tryd.prog 47 #[.pointer (some ⟨g,0,none⟩)] w fun e w'=>e=.returned (.int .i64 r1)∧IsS52 w0 w' g s0_0 r2 r3∧Below w0.heap.size w0 w'∧KeepBut w w' g none:=by
 have HI0:=A_ hI
 have HK:=A_ (KeepBut.refl w g none)
 have HL:=A_ hB.size
 clear hI
 have HW0:=A_ hB.size
 have HB:=A_ hB
 clear hB
 have H:(if s0_1<(s0_0.length:Int) then (if 0≤s0_1 then (if (wrap64 (s0_1+1))≤(s0_0.length:Int) then (some (wrap64 (rd s0_0 s0_1),wrap64 (s0_1+1),IntKind.u64.wrap ((IntKind.u64.wrap ((IntKind.u64.wrap (s0_2*6364136223846793005))+(IntKind.u64.wrap (wrap64 (rd s0_0 s0_1)))))+1442695040888963407))) else (some (wrap64 (Go.bits .and .u64 ((IntKind.u64.wrap ((IntKind.u64.wrap ((IntKind.u64.wrap (s0_2*6364136223846793005))+(IntKind.u64.wrap (wrap64 (rd s0_0 s0_1)))))+1442695040888963407)) / 1099511627776) 255),wrap64 (s0_1+1),IntKind.u64.wrap ((IntKind.u64.wrap ((IntKind.u64.wrap (s0_2*6364136223846793005))+(IntKind.u64.wrap (wrap64 (rd s0_0 s0_1)))))+1442695040888963407)))) else (none)) else (if (wrap64 (s0_1+1))≤(s0_0.length:Int) then (some (0,wrap64 (s0_1+1),IntKind.u64.wrap ((IntKind.u64.wrap (IntKind.u64.wrap (s0_2*6364136223846793005)))+1442695040888963407))) else (some (wrap64 (Go.bits .and .u64 ((IntKind.u64.wrap ((IntKind.u64.wrap (IntKind.u64.wrap (s0_2*6364136223846793005)))+1442695040888963407)) / 1099511627776) 255),wrap64 (s0_1+1),IntKind.u64.wrap ((IntKind.u64.wrap (IntKind.u64.wrap (s0_2*6364136223846793005)))+1442695040888963407)))))=some (r1,r2,r3):=h
 clear h
 revert H
 refine iL_ (fun c2b0 H=>?pc2) (fun c2b0 H=>?nc2)
 case' pc2=>
  replace H:=id_ H
  obtain⟨c3b0,H⟩:=H
  revert H
  refine iL_ (fun c4b0 H=>?pc4) (fun c4b0 H=>?nc4)
  case' pc4=>
   simp only[Option.some.injEq,Prod.mk.injEq] at H
   obtain⟨rfl,rfl,rfl⟩:=H
   obtain⟨ASz5_0,cSz5_0,HGz5,hgz5,HSz5_0⟩:=HI0.out
   have hcz5_0:=cellS52_0 HGz5
   have hcz5_1:=cellS52_1 HGz5
   have hcz5_2:=cellS52_2 HGz5
   have hfz5_1:=blk_frozen HGz5 1
   have hfz5_2:=blk_frozen HGz5 2
   clear HGz5 hgz5
   have p101:0≤(s0_1:Int):=od_
   have q101:s0_1<(s0_0.length:Int):=od_
   obtain⟨ad101,e101,hx101_0⟩:=Kd.at_int HSz5_0 s0_1 p101 q101
   cases e101
   replace hx101_0:=pw_cell_below HB.out hx101_0
   replace p101:=eq_true p101
   replace q101:=eq_true q101
  case' nc4=>
   simp only[Option.some.injEq,Prod.mk.injEq] at H
   obtain⟨rfl,rfl,rfl⟩:=H
   obtain⟨ASz6_0,cSz6_0,HGz6,hgz6,HSz6_0⟩:=HI0.out
   have hcz6_0:=cellS52_0 HGz6
   have hcz6_1:=cellS52_1 HGz6
   have hcz6_2:=cellS52_2 HGz6
   have hfz6_1:=blk_frozen HGz6 1
   have hfz6_2:=blk_frozen HGz6 2
   clear HGz6 hgz6
   have p101:0≤(s0_1:Int):=od_
   have q101:s0_1<(s0_0.length:Int):=od_
   obtain⟨ad101,e101,hx101_0⟩:=Kd.at_int HSz6_0 s0_1 p101 q101
   cases e101
   replace hx101_0:=pw_cell_below HB.out hx101_0
   replace p101:=eq_true p101
   replace q101:=eq_true q101
 case' nc2=>
  revert H
  refine iL_ (fun c7b0 H=>?pc7) (fun c7b0 H=>?nc7)
  case' pc7=>
   simp only[Option.some.injEq,Prod.mk.injEq] at H
   obtain⟨rfl,rfl,rfl⟩:=H
   obtain⟨ASz8_0,cSz8_0,HGz8,hgz8,HSz8_0⟩:=HI0.out
   have hcz8_0:=cellS52_0 HGz8
   have hcz8_1:=cellS52_1 HGz8
   have hcz8_2:=cellS52_2 HGz8
   have hfz8_1:=blk_frozen HGz8 1
   have hfz8_2:=blk_frozen HGz8 2
   clear HGz8 hgz8
  case' nc7=>
   simp only[Option.some.injEq,Prod.mk.injEq] at H
   obtain⟨rfl,rfl,rfl⟩:=H
   obtain⟨ASz9_0,cSz9_0,HGz9,hgz9,HSz9_0⟩:=HI0.out
   have hcz9_0:=cellS52_0 HGz9
   have hcz9_1:=cellS52_1 HGz9
   have hcz9_2:=cellS52_2 HGz9
   have hfz9_1:=blk_frozen HGz9 1
   have hfz9_2:=blk_frozen HGz9 2
   clear HGz9 hgz9
 all_goals
  go_enter Tryd.func47,Tryd.ntmps47
  go_wp2
  repeat (go_quiet (fail);try go_wp2)
  go_ret
  exact⟨rr_,y1 HI0.out,y0 HB.out,y2 HK.out⟩

/-! ### spec_l1Cur_pick: function 36 -/
def spec_l1Cur_pick.f (s0_0:List Int) (s0_1:Int) (s0_2:Int) (a1:Int):Option (Int × Int × Int):=if a1≤1 then (some (0,s0_1,s0_2)) else ((spec_l1Cur_next.f s0_0 s0_1 s0_2).bind fun bt102=>(if a1 > 200 then ((spec_l1Cur_next.f s0_0 bt102.2.1 bt102.2.2).bind fun bt105=>(if a1=0 then (none) else (some (Int.tmod (wrap64 ((wrap64 (bt102.1*256))+bt105.1)) a1,bt105.2.1,bt105.2.2)))) else (if a1=0 then (none) else (some (Int.tmod bt102.1 a1,bt102.2.1,bt102.2.2)))))
theorem spec_l1Cur_pick.calls (g:Nat) (s0_0:List Int) (s0_1:Int) (s0_2:Int) (a1:Int) (r1:Int) (r2:Int) (r3:Int) (w0 w:World) (hI:IsS52 w0 w g s0_0 s0_1 s0_2) (hB:Below w0.heap.size w0 w) (h:spec_l1Cur_pick.f s0_0 s0_1 s0_2 a1=some (r1,r2,r3)):
  Calls Tryd.prog 36 #[.pointer (some ⟨g,0,none⟩),.int .i64 a1] w fun e w'=>e=.returned (.int .i64 r1)∧IsS52 w0 w' g s0_0 r2 r3∧Below w0.heap.size w0 w'∧KeepBut w w' g none:=by
 have HI0:=A_ hI
 have HK:=A_ (KeepBut.refl w g none)
 have HL:=A_ hB.size
 clear hI
 have HW0:=A_ hB.size
 have HB:=A_ hB
 clear hB
 have H:(if a1≤1 then (some (0,s0_1,s0_2)) else ((spec_l1Cur_next.f s0_0 s0_1 s0_2).bind fun bt102=>(if a1 > 200 then ((spec_l1Cur_next.f s0_0 bt102.2.1 bt102.2.2).bind fun bt105=>(if a1=0 then (none) else (some (Int.tmod (wrap64 ((wrap64 (bt102.1*256))+bt105.1)) a1,bt105.2.1,bt105.2.2)))) else (if a1=0 then (none) else (some (Int.tmod bt102.1 a1,bt102.2.1,bt102.2.2))))))=some (r1,r2,r3):=h
 clear h
 revert H
 refine iL_ (fun c3b0 H=>?pc3) (fun c3b0 H=>?nc3)
 case' pc3=>
  simp only[Option.some.injEq,Prod.mk.injEq] at H
  obtain⟨rfl,rfl,rfl⟩:=H
 case' nc3=>
  replace H:=Option.bind_eq_some_iff.mp H
  obtain⟨⟨t102,t103,t104⟩,A40,H⟩:=H
  try dsimp only at H
  have A4:=A_ A40
  clear A40
  revert H
  refine iL_ (fun c5b0 H=>?pc5) (fun c5b0 H=>?nc5)
  case' pc5=>
   replace H:=Option.bind_eq_some_iff.mp H
   obtain⟨⟨t105,t106,t107⟩,A60,H⟩:=H
   try dsimp only at H
   have A6:=A_ A60
   clear A60
   by_cases c7:a1=0
   ·
    rw[if_pos c7] at H
    exact absurd H (by simp)
   rw[if_neg c7] at H
   obtain⟨c7b0,c7b1⟩:=eF_ c7
   simp only[Option.some.injEq,Prod.mk.injEq] at H
   obtain⟨rfl,rfl,rfl⟩:=H
  case' nc5=>
   by_cases c10:a1=0
   ·
    rw[if_pos c10] at H
    exact absurd H (by simp)
   rw[if_neg c10] at H
   obtain⟨c10b0,c10b1⟩:=eF_ c10
   simp only[Option.some.injEq,Prod.mk.injEq] at H
   obtain⟨rfl,rfl,rfl⟩:=H
 all_goals
  go_enter Tryd.func36,Tryd.ntmps36
  go_wp2_with (first|((with_reducible refine gc_ 47 rfl ?_);refine goesL_ (some 9) rfl rfl Tryd.func47 (by kernel_rfl) rfl #[.pointer (some ⟨g,0,none⟩)] rfl ar ?_;(with_reducible refine(spec_l1Cur_next.calls g s0_0 s0_1 s0_2 t102 t103 t104 w0 _ ?side1 ?side2 A4.out).mono ?_);(case side1=>repeat (first|(with_reducible first|exact HI0.out|apply IsS52.alloc|apply IsS52.drewN|apply IsS52.drew|apply IsS52.set_1|apply IsS52.set_2)|exact HI0.out));(case side2=>repeat (first|(with_reducible first|exact HB.out|apply below_alloc|apply pw_below_drewN|apply below_drew1|refine below_set ?_ (IsS52.ge HI0.out))|exact HB.out));rintro e w8 ⟨rfl,hi,hb,hk⟩;refine⟨_,rfl,?_⟩;replace HK:=A_ (KeepBut.trans (y2 HK.out) hk (.inl rfl));replace HB:=A_ (hb);replace HI0:=A_ (hi);(try clear hb);(try clear hb2);(try clear hk);(try clear hi))|((with_reducible refine gc_ 47 rfl ?_);refine goesL_ (some 15) rfl rfl Tryd.func47 (by kernel_rfl) rfl #[.pointer (some ⟨g,0,none⟩)] rfl ar ?_;(with_reducible refine(spec_l1Cur_next.calls g s0_0 t103 t104 t105 t106 t107 w0 _ ?side1 ?side2 A6.out).mono ?_);(case side1=>repeat (first|(with_reducible first|exact HI0.out|apply IsS52.alloc|apply IsS52.drewN|apply IsS52.drew|apply IsS52.set_1|apply IsS52.set_2)|exact HI0.out));(case side2=>repeat (first|(with_reducible first|exact HB.out|apply below_alloc|apply pw_below_drewN|apply below_drew1|refine below_set ?_ (IsS52.ge HI0.out))|exact HB.out));rintro e w9 ⟨rfl,hi,hb,hk⟩;refine⟨_,rfl,?_⟩;replace HK:=A_ (KeepBut.trans (y2 HK.out) hk (.inl rfl));replace HB:=A_ (hb);replace HI0:=A_ (hi);(try clear hb);(try clear hb2);(try clear hk);(try clear hi)))
  go_ret
  exact⟨rr_,y1 HI0.out,y0 HB.out,y2 HK.out⟩

/-! ### spec_l1Cur_one: function 37 -/
def spec_l1Cur_one.f (s0_0:List Int) (s0_1:Int) (s0_2:Int) (a1:Int):Option (Bool × Int × Int):=(spec_l1Cur_pick.f s0_0 s0_1 s0_2 a1).bind fun bt108=>(some ((bt108.1==0),bt108.2.1,bt108.2.2))
theorem spec_l1Cur_one.calls (g:Nat) (s0_0:List Int) (s0_1:Int) (s0_2:Int) (a1:Int) (r1:Bool) (r2:Int) (r3:Int) (w0 w:World) (hI:IsS52 w0 w g s0_0 s0_1 s0_2) (hB:Below w0.heap.size w0 w) (h:spec_l1Cur_one.f s0_0 s0_1 s0_2 a1=some (r1,r2,r3)):
  Calls Tryd.prog 37 #[.pointer (some ⟨g,0,none⟩),.int .i64 a1] w fun e w'=>e=.returned (.bool r1)∧IsS52 w0 w' g s0_0 r2 r3∧Below w0.heap.size w0 w'∧KeepBut w w' g none:=by
 have HI0:=A_ hI
 have HK:=A_ (KeepBut.refl w g none)
 have HL:=A_ hB.size
 clear hI
 have HW0:=A_ hB.size
 have HB:=A_ hB
 clear hB
 have H:((spec_l1Cur_pick.f s0_0 s0_1 s0_2 a1).bind fun bt108=>(some ((bt108.1==0),bt108.2.1,bt108.2.2)))=some (r1,r2,r3):=h
 clear h
 replace H:=Option.bind_eq_some_iff.mp H
 obtain⟨⟨t108,t109,t110⟩,A30,H⟩:=H
 try dsimp only at H
 have A3:=A_ A30
 clear A30
 simp only[Option.some.injEq,Prod.mk.injEq] at H
 obtain⟨rfl,rfl,rfl⟩:=H
 go_enter Tryd.func37,Tryd.ntmps37
 go_wp2_with (first|((with_reducible refine gc_ 36 rfl ?_);refine goesL_ (some 7) rfl rfl Tryd.func36 (by kernel_rfl) rfl #[.pointer (some ⟨g,0,none⟩),.int .i64 a1] rfl ar ?_;(with_reducible refine(spec_l1Cur_pick.calls g s0_0 s0_1 s0_2 a1 t108 t109 t110 w0 _ ?side1 ?side2 A3.out).mono ?_);(case side1=>repeat (first|(with_reducible first|exact HI0.out|apply IsS52.alloc|apply IsS52.drewN|apply IsS52.drew|apply IsS52.set_1|apply IsS52.set_2)|exact HI0.out));(case side2=>repeat (first|(with_reducible first|exact HB.out|apply below_alloc|apply pw_below_drewN|apply below_drew1|refine below_set ?_ (IsS52.ge HI0.out))|exact HB.out));rintro e w4 ⟨rfl,hi,hb,hk⟩;refine⟨_,rfl,?_⟩;replace HK:=A_ (KeepBut.trans (y2 HK.out) hk (.inl rfl));replace HB:=A_ (hb);replace HI0:=A_ (hi);(try clear hb);(try clear hb2);(try clear hk);(try clear hi)))
 go_ret
 exact⟨rr_,y1 HI0.out,y0 HB.out,y2 HK.out⟩
end Go.Proofs.YtoeenmajdidfoaaDoor.Q

