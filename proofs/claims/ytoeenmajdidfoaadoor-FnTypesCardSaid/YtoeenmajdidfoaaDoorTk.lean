/- The program's tree of a type is the reference's. -/
import Derived.Test.YtoeenmajdidfoaaDoorTy
import Derived.Test.YtoeenmajdidfoaaDoorQx5
import Derived.Test.YtoeenmajdidfoaaDoorQx8
namespace Go.Proofs.YtoeenmajdidfoaaDoor.Ty
open Go.RowKit Go.Proofs.YtoeenmajdidfoaaDoor.Q Go.Proofs.YtoeenmajdidfoaaDoorW.PrintWords Go.Proofs.YtoeenmajdidfoaaDoorW.PrintLast Go.Proofs.YtoeenmajdidfoaaDoorW.PrintMore Go.Proofs.YtoeenmajdidfoaaDoor.Mb
set_option linter.unusedSimpArgs false
set_option linter.unusedVariables false
set_option linter.unusedSectionVars false

section
variable (l:List S33)
def K (i:Nat):Int:=(rd_T33 l (i:Int)).f0
def Nn (i:Nat):Int:=(rd_T33 l (i:Int)).f1
def rows (n:Nat):List S62:=(List.range l.length).map (fun j=>if j<n then (⟨K l j,Nn l j,pre l l.length j⟩:S62) else z62)
def dl (n:Nat):List Int:=(List.range l.length).map (fun j=>if j<n then (deep l j:Int) else 0)
def uz (n:Nat):List Int:=(List.range l.length).map (fun j=>if j<n then U l j else 0)
theorem rows_len (n:Nat):(rows l n).length=l.length:=by unfold rows;simp
theorem dl_len (n:Nat):(dl l n).length=l.length:=by unfold dl;simp
theorem uz_len (n:Nat):(uz l n).length=l.length:=by unfold uz;simp
def bN (i:Nat):Bool:=decide (deep l i≤8) && ok (K l i) (Nn l i) ((pre l l.length i).length:Int)
def bFrom:Nat→Nat→Bool
  |0,_=>true
  |d+1,i=>bN l i && bFrom d (i+1)
theorem good_split (d:Nat):∀ i,goodFrom l d i=(upFrom l d i && bFrom l d i):=by
  induction d with
  |zero=>intro i;rfl
  |succ d ih=>
    intro i
    rw[goodFrom,upFrom,bFrom,ih,okN,bN]
    show(up l i && decide (deep l i≤8) && ok (K l i) (Nn l i) _ && _)=_
    cases up l i<;>cases decide (deep l i≤8)<;>cases upFrom l d (i+1)<;>simp
theorem upFrom_ups (d:Nat):∀ i,ups l i→upFrom l d i=true→ups l (i+d):=by
  induction d with
  |zero=>intro i h _;exact h
  |succ d ih=>
    intro i h hd
    rw[upFrom,Bool.and_eq_true] at hd
    have:=ih (i+1) (fun j hj=>by
      by_cases e:j=i
      · rw[e];exact hd.1
      · exact h j (by omega)) hd.2
    rwa [show i+1+d=i+(d+1) by omega] at this
theorem bFrom_at (d:Nat):∀ i,bFrom l d i=true→∀ j,i≤j→j<i+d→bN l j=true:=by
  induction d with
  |zero=>intro i _ j h1 h2;omega
  |succ d ih=>
    intro i h j h1 h2
    rw[bFrom,Bool.and_eq_true] at h
    by_cases e:j=i
    · rw[e];exact h.1
    · exact ih (i+1) h.2 j (by omega) (by omega)
end

theorem rep_range {α:Type} (n:Nat) (c:α):List.replicate n c=(List.range n).map (fun _=>c):=by rw[List.map_const',List.length_range]
theorem rd_set81 {xs:List S62} {i:Nat} (h:i<xs.length) (s:S62):rd_T62 (xs.set i s) (i:Int)=s:=by
  unfold rd_T62
  rw[Int.toNat_natCast,List.getD_eq_getElem?_getD,List.getElem?_set_self (by simpa using h)]
  rfl
theorem take_rd (P:List Int) (j:Nat) (h:j<P.length):P.take j++[rd P (j:Int)]=P.take (j+1):=by
  rw[List.take_succ_eq_append_getElem h]
  unfold rd
  rw[Int.toNat_natCast,List.getD_eq_getElem?_getD,List.getElem?_eq_getElem h]
  rfl
section
variable (l:List S33) (hl:l.length≤40)
include hl
theorem shape_l2 (i:Nat) (hi:i<l.length) (r:List S62 × Bool) (dd:List Int)
    (h:Ev (fun k=>impl_shapeT.l1 k (kl l l.length) (rows l (i+1)) dd l (l.length:Int) ((i+1:Nat):Int)) r) (d:Nat):∀ j:Nat,j+d=(pre l l.length i).length→
    Ev (fun k=>impl_shapeT.l2 k (kl l l.length) ((rows l i).set i ⟨K l i,Nn l i,(pre l l.length i).take j⟩) dd (i:Int) l (l.length:Int) (i:Int) (pre l l.length i) ((pre l l.length i).length:Int) (j:Int)) r:=by
  have hpl:=pre_len (l:=l) l.length i
  induction d with
  |zero=>
    intro j hj
    obtain rfl:j=(pre l l.length i).length:=by omega
    refine Ev.step (fun k=>?_) h
    simp only[impl_shapeT.l2]
    have e:(rows l i).set i ⟨K l i,Nn l i,(pre l l.length i).take (pre l l.length i).length⟩=rows l (i+1):=by
      rw[List.take_length]
      unfold rows
      refine set_range _ _ _ _ (by rw[if_pos (by omega)]) (fun q hq hne=>?_)
      by_cases c:q<i
      · rw[if_pos c,if_pos (by omega)]
      · rw[if_neg c,if_neg (by omega)]
    rw[if_neg (by omega),e,w64 (n:=(i:Int)+1) (by omega) (by omega)]
    rfl
  |succ d ih=>
    intro j hj
    have hlt:j<(pre l l.length i).length:=by omega
    have hm:rd (pre l l.length i) (j:Int)∈pre l l.length i:=by
      unfold rd
      rw[Int.toNat_natCast,List.getD_eq_getElem?_getD,List.getElem?_eq_getElem hlt]
      exact List.getElem_mem hlt
    obtain⟨q,hq,hq2,_⟩:=pre_mem _ _ _ hm
    refine Ev.step (fun k=>?_) (ih (j+1) (by omega))
    simp only[impl_shapeT.l2]
    have hr:=rd_set81 (xs:=rows l i) (i:=i) (by rw[rows_len];exact hi) ⟨K l i,Nn l i,(pre l l.length i).take j⟩
    rw[if_pos (show(j:Int)<((pre l l.length i).length:Int) by omega),if_pos (show(0:Int)≤(j:Int) by omega),if_pos (show(j:Int)<((pre l l.length i).length:Int) by omega),if_pos (show(0:Int)≤(i:Int) by omega),List.length_set,rows_len,
      if_pos (show(i:Int)<(l.length:Int) by omega),hr,if_pos ⟨by omega,by omega,by rw[List.length_take];omega⟩,Int.toNat_natCast,List.set_set,take_rd _ _ hlt,w64 (n:=(j:Int)+1) (by omega) (by omega)]
    rfl
theorem shape_l1 (hus:ups l l.length) (h0:0<l.length) (d:Nat):∀ i:Nat,i+d=l.length→
    Ev (fun k=>impl_shapeT.l1 k (kl l l.length) (rows l i) (dl l i) l (l.length:Int) (i:Int)) (if bFrom l d i=true then (rows l l.length,true) else ([],false)):=by
  induction d with
  |zero=>
    intro i hi
    obtain rfl:i=l.length:=by omega
    refine Ev.step (f:=fun _=>some (rows l l.length,true)) (fun k=>?_) (Ev.now _)
    simp only[impl_shapeT.l1]
    rw[if_neg (by omega),rows_len,if_pos h0]
  |succ d ih=>
    intro i hi
    have hil:i<l.length:=by omega
    have hbd:=up_bd (hus i hil)
    have hdp:=deep_le (l:=l) i
    have key:Ev (fun k=>impl_shapeT.j3 k (kl l l.length) (rows l i) (dl l (i+1)) (i:Int) l (l.length:Int) (i:Int) (K l i) (Nn l i) (U l i)) (if bFrom l (d+1) i=true then (rows l l.length,true) else ([],false)):=by
      have hrd:rd (dl l (i+1)) (i:Int)=(deep l i:Int):=by
        have:=rd_range (L:=l.length) (fun j=>if j<i+1 then (deep l j:Int) else 0) i hil
        rw[if_pos (by omega)] at this
        exact this
      have hkl:rd_L4 (kl l l.length) (i:Int)=pre l l.length i:=rd_rangeL (L:=l.length) (pre l l.length) i hil
      have no:∀ X Y Z,Ev (fun k=>impl_shapeT.j4 k (kl l l.length) (rows l i) (dl l (i+1)) (i:Int) l (l.length:Int) (i:Int) true X Y Z) (([]:List S62),false):=fun X Y Z=>Ev.step (f:=fun _=>some ([],false)) (fun k=>by simp only[impl_shapeT.j4,if_true]) (Ev.now _)
      refine Ev.step (f:=fun k=>if (deep l i:Int) > 8 then impl_shapeT.j4 k (kl l l.length) (rows l i) (dl l (i+1)) (i:Int) l (l.length:Int) (i:Int) true (K l i) (Nn l i) (U l i) else (impl_nodeOk.f k (K l i) (Nn l i) (U l i) ((pre l l.length i).length:Int)).bind fun t151=>impl_shapeT.j4 k (kl l l.length) (rows l i) (dl l (i+1)) (i:Int) l (l.length:Int) (i:Int) (!t151) (K l i) (Nn l i) (U l i)) (fun k=>?_) ?_
      · simp only[impl_shapeT.j3]
        rw[if_pos (show(0:Int)≤(i:Int) by omega),dl_len,if_pos (show(i:Int)<(l.length:Int) by omega),hrd,kl_len,if_pos (show(i:Int)<(l.length:Int) by omega),hkl]
      · by_cases c:deep l i≤8
        · refine Ev.congr (fun k=>by rw[if_neg (show ¬(deep l i:Int) > 8 by omega)]) ?_
          refine Ev.bind (a:=ok (K l i) (Nn l i) ((pre l l.length i).length:Int)) ⟨5,fun k hk=>node_ok _ _ _ _ (by omega) hk⟩ ?_
          have hb:bN l i=ok (K l i) (Nn l i) ((pre l l.length i).length:Int):=by rw[bN,decide_eq_true c,Bool.true_and]
          rw[bFrom,hb]
          cases hok:ok (K l i) (Nn l i) ((pre l l.length i).length:Int) with
          |false=>exact no _ _ _
          |true=>
            rw[Bool.true_and]
            have:=shape_l2 l hl i hil _ (dl l (i+1)) (ih (i+1) (by omega)) (pre l l.length i).length 0 (by omega)
            rw[List.take_zero] at this
            refine Ev.step (fun k=>?_) this
            simp only[impl_shapeT.j4]
            rw[if_neg (by decide),if_pos (show(0:Int)≤(i:Int) by omega),rows_len,if_pos (show(i:Int)<(l.length:Int) by omega),kl_len,if_pos (show(i:Int)<(l.length:Int) by omega),hkl,Int.toNat_natCast]
            rfl
        · have hb:bN l i=false:=by rw[bN,decide_eq_false c,Bool.false_and]
          rw[bFrom,hb,Bool.false_and,if_neg (by decide)]
          exact Ev.congr (fun k=>by rw[if_pos (show(deep l i:Int) > 8 by omega)]) (no _ _ _)
    have e1:(dl l i).set i 1=(List.range l.length).map (fun j=>if j<i then (deep l j:Int) else if j=i then 1 else 0):=by
      unfold dl
      refine set_range _ _ _ _ (by rw[if_neg (by omega),if_pos rfl]) (fun q hq hne=>?_)
      by_cases c:q<i
      · rw[if_pos c,if_pos c]
      · rw[if_neg c,if_neg c,if_neg hne]
    refine Ev.step (f:=fun k=>impl_shapeT.j3 k (kl l l.length) (rows l i) (dl l (i+1)) (i:Int) l (l.length:Int) (i:Int) (K l i) (Nn l i) (U l i)) (fun k=>?_) key
    simp only[impl_shapeT.l1]
    rw[if_pos (show(i:Int)<(l.length:Int) by omega),if_pos (show(0:Int)≤(i:Int) by omega),if_pos (show(i:Int)<(l.length:Int) by omega),dl_len,if_pos (show(i:Int)<(l.length:Int) by omega)]
    simp only[Option.bind_some]
    rcases hbd with h|h
    · obtain⟨h1,h2⟩:=h
      have hd:deep l i=1:=by unfold deep;rw[dif_neg (by omega)]
      have e2:(dl l i).set i 1=dl l (i+1):=by
        rw[e1];unfold dl
        refine List.map_congr_left (fun q _=>?_)
        by_cases c:q<i
        · rw[if_pos c,if_pos (by omega)]
        · rw[if_neg c]
          by_cases e:q=i
          · rw[if_pos e,if_pos (by omega),e,hd];rfl
          · rw[if_neg e,if_neg (by omega)]
      rw[if_neg (by omega),Int.toNat_natCast,e2]
      rfl
    · obtain⟨h1,h2,h3⟩:=h
      have hd:deep l i=deep l (U l i).toNat+1:=by rw[deep,dif_pos ⟨h2,h3⟩]
      have hru:rd ((dl l i).set i 1) (U l i)=(deep l (U l i).toNat:Int):=by
        rw[e1]
        have:=rd_range (L:=l.length) (fun j=>if j<i then (deep l j:Int) else if j=i then 1 else 0) (U l i).toNat (by omega)
        rw[if_pos (by omega),show (((U l i).toNat:Nat):Int)=U l i by omega] at this
        exact this
      have e2:((dl l i).set i 1).set i ((deep l (U l i).toNat:Int)+1)=dl l (i+1):=by
        rw[List.set_set]
        unfold dl
        refine set_range _ _ _ _ (by rw[if_pos (by omega),hd];rfl) (fun q hq hne=>?_)
        by_cases c:q<i
        · rw[if_pos c,if_pos (by omega)]
        · rw[if_neg c,if_neg (by omega)]
      have hdu:=deep_le (l:=l) (U l i).toNat
      show(if (i:Int) > 0 then (if 0≤U l i then (if U l i<(l.length:Int) then _ else _) else _) else _)=_
      rw[if_pos (by omega),if_pos h2,if_pos (by omega),Int.toNat_natCast]
      show impl_shapeT.j3 k (kl l l.length) (rows l i) (((dl l i).set i 1).set i (wrap64 (rd ((dl l i).set i 1) (U l i)+1))) _ _ _ _ _ _ _=_
      rw[hru,w64 (by omega) (by omega),e2]
      rfl
theorem shape_l0 (h0:0<l.length) (d:Nat):∀ i:Nat,i+d=l.length→
    Ev (fun k=>impl_shapeT.l0 k l (uz l i) l (l.length:Int) (i:Int)) (if (upFrom l l.length 0 && bFrom l l.length 0)=true then (rows l l.length,true) else ([],false)):=by
  induction d with
  |zero=>
    intro i hi
    obtain rfl:i=l.length:=by omega
    have eu:uz l l.length=ul l:=by
      unfold uz ul
      refine List.map_congr_left (fun q hq=>?_)
      rw[if_pos (by simpa using hq)]
    refine Ev.step (fun k=>by simp only[impl_shapeT.l0];rw[if_neg (by omega),eu]) (Ev.bind (kin_ok l (by omega)) ?_)
    cases hu:upFrom l l.length 0 with
    |false=>
      simp only[Bool.false_and,Bool.false_eq_true,if_false]
      exact Ev.now _
    |true=>
      simp only[if_true,Bool.true_and]
      have:=shape_l1 l hl (by have:=upFrom_ups l l.length 0 (fun j hj=>by omega) hu;rwa [Nat.zero_add] at this) h0 l.length 0 (by omega)
      refine Ev.congr (fun k=>?_) this
      rw[if_pos (by omega),if_pos (by simp;omega),if_pos (by simp;omega),Int.toNat_natCast]
      have e1:List.replicate l.length z62=rows l 0:=by
        unfold rows
        simp only[Nat.not_lt_zero,if_false]
        exact rep_range _ _
      have e2:List.replicate l.length (0:Int)=dl l 0:=by
        unfold dl
        simp only[Nat.not_lt_zero,if_false]
        exact rep_range _ _
      rw[e1,e2]
      rfl
  |succ d ih=>
    intro i hi
    refine Ev.step (fun k=>?_) (ih (i+1) (by omega))
    simp only[impl_shapeT.l0]
    have e:(uz l i).set i (U l i)=uz l (i+1):=by
      unfold uz
      refine set_range _ _ _ _ (by rw[if_pos (by omega)]) (fun q hq hne=>?_)
      by_cases c:q<i
      · rw[if_pos c,if_pos (by omega)]
      · rw[if_neg c,if_neg (by omega)]
    rw[if_pos (show(i:Int)<(l.length:Int) by omega),if_pos (show(0:Int)≤(i:Int) by omega),if_pos (show(i:Int)<(l.length:Int) by omega),uz_len,if_pos (show(i:Int)<(l.length:Int) by omega),Int.toNat_natCast,w64 (n:=(i:Int)+1) (by omega) (by omega)]
    show impl_shapeT.l0 k l ((uz l i).set i (U l i)) l _ _=_
    rw[e]
    rfl
end
/-- The program's rows of a type. -/
theorem shape_ok (l:List S33):Ev (fun k=>impl_shapeT.f k l) (if good l=true then (rows l l.length,true) else ([],false)):=by
  unfold good
  by_cases c:1≤l.length∧l.length≤40
  · rw[decide_eq_true c,Bool.true_and,good_split]
    refine Ev.congr (fun k=>by unfold impl_shapeT.f;rw[if_neg (show ¬(l.length:Int)<1 by omega),decide_eq_false (show ¬(l.length:Int) > 40 by omega)]) ?_
    have:=shape_l0 l c.2 (by omega) l.length 0 (by omega)
    refine Ev.step (fun k=>?_) this
    simp only[impl_shapeT.j0]
    have e:List.replicate l.length (0:Int)=uz l 0:=by
      unfold uz
      simp only[Nat.not_lt_zero,if_false]
      exact rep_range _ _
    rw[if_neg (by decide),if_pos (by omega),if_pos (by simp;omega),Int.toNat_natCast,e]
    rfl
  · rw[decide_eq_false c,Bool.false_and,if_neg (by decide)]
    have no:Ev (fun k=>impl_shapeT.j0 k l true) (([]:List S62),false):=Ev.step (f:=fun _=>some ([],false)) (fun k=>by simp only[impl_shapeT.j0,if_true]) (Ev.now _)
    refine Ev.congr (fun k=>?_) no
    unfold impl_shapeT.f
    by_cases c1:(l.length:Int)<1
    · rw[if_pos c1]
    · rw[if_neg c1,decide_eq_true (by omega)]

/-! ### The tree -/
theorem eta52 (t:S43):(⟨t.f0,t.f1,t.f2⟩:S43)=t:=by cases t;rfl
def tr (l:List S33):Nat→Int→S43
  |0,i=>⟨K l i.toNat,Nn l i.toNat,[]⟩
  |m+1,i=>⟨K l i.toNat,Nn l i.toNat,(pre l l.length i.toNat).map (tr l m)⟩
theorem tr_kind (l:List S33) (m:Nat) (i:Int):(tr l m i).f0=K l i.toNat:=by cases m<;>rfl
theorem sh_top:∀ x:Fin 22,(sh ((x.val:Nat):Int)).2.1≤8:=by decide+kernel
theorem ok_few {x n c:Int} (h:ok x n c=true):c≤8∧1≤x∧x≤21:=by
  have h2:=of_decide_eq_true h
  obtain⟨y,rfl⟩:=Int.eq_ofNat_of_zero_le (show 0≤x by omega)
  have:=sh_top ⟨y,by omega⟩
  simp only at this
  omega
theorem mapO_all {α β:Type} (f:α→Option β) (g:α→β):∀ xs:List α,(∀ x∈xs,f x=some (g x))→mapO f xs=some (xs.map g)
  |[],_=>rfl
  |x ::xs,h=>by
    rw[mapO,h x List.mem_cons_self,Option.bind_some,mapO_all f g xs (fun y hy=>h y (List.mem_cons_of_mem _ hy)),Option.bind_some]
    rfl
section
variable (l:List S33) (hg:good l=true)
include hg
theorem good_len:1≤l.length∧l.length≤40:=by
  unfold good at hg
  rw[Bool.and_eq_true] at hg
  exact of_decide_eq_true hg.1
theorem good_ups:ups l l.length:=by
  unfold good at hg
  rw[Bool.and_eq_true,good_split,Bool.and_eq_true] at hg
  have:=upFrom_ups l l.length 0 (fun j hj=>by omega) hg.2.1
  rwa [Nat.zero_add] at this
theorem good_bN (i:Nat) (hi:i<l.length):bN l i=true:=by
  unfold good at hg
  rw[Bool.and_eq_true,good_split,Bool.and_eq_true] at hg
  exact bFrom_at l l.length 0 hg.2.2 i (by omega) (by omega)
theorem good_node (i:Nat) (hi:i<l.length):deep l i≤8∧ok (K l i) (Nn l i) ((pre l l.length i).length:Int)=true:=by
  have:=good_bN l hg i hi
  rw[bN,Bool.and_eq_true] at this
  exact⟨of_decide_eq_true this.1,this.2⟩
/-- A part of node i. -/
theorem part_at (i:Nat) (x:Int) (hx:x∈pre l l.length i):∃ j:Nat,x=(j:Int)∧i<j∧j<l.length∧deep l j=deep l i+1:=by
  obtain⟨j,hj,h1,h2⟩:=pre_mem _ _ _ hx
  have hb:=up_bd (good_ups l hg j h1)
  refine⟨j,hj,by omega,h1,?_⟩
  rw[deep,dif_pos (by omega),h2,Int.toNat_natCast]
theorem no_parts (i:Nat) (hi:i<l.length) (h:8≤deep l i):pre l l.length i=[]:=by
  cases e:pre l l.length i with
  |nil=>rfl
  |cons x xs=>
    obtain⟨j,_,_,h1,h2⟩:=part_at l hg i x (by rw[e];exact List.mem_cons_self)
    have:=(good_node l hg j h1).1
    omega
theorem rows_at (i:Nat) (hi:i<l.length):rd_T62 (rows l l.length) (i:Int)=⟨K l i,Nn l i,pre l l.length i⟩:=by
  unfold rd_T62 rows
  rw[Int.toNat_natCast,List.getD_eq_getElem?_getD,List.getElem?_map,List.getElem?_range hi]
  simp only[Option.map_some,Option.getD_some]
  rw[if_pos hi]
theorem tree_impl (m:Nat):∀ i:Nat,i<l.length→8≤deep l i+m→treeA (m+1) (rows l l.length) (i:Int)=some (tr l m (i:Int)):=by
  induction m with
  |zero=>
    intro i hi hd
    rw[treeA,if_pos ⟨by omega,by rw[rows_len];omega⟩,rows_at l hg i hi]
    simp only
    rw[no_parts l hg i hi (by omega)]
    simp only[mapO,Option.bind_some,List.length_nil]
    rw[if_pos (by omega),tr,Int.toNat_natCast]
  |succ m ih=>
    intro i hi hd
    have hn:=good_node l hg i hi
    have hf:=ok_few hn.2
    rw[treeA,if_pos ⟨by omega,by rw[rows_len];omega⟩,rows_at l hg i hi]
    simp only
    rw[if_pos (by omega),mapO_all (treeA (m+1) (rows l l.length)) (tr l m) _ (fun x hx=>by
      obtain⟨j,rfl,h1,h2,h3⟩:=part_at l hg i x hx
      exact ih j h2 (by omega)),Option.bind_some,tr,Int.toNat_natCast]
/-- The reference's tree. -/
theorem tree_l0 (i:Nat) (m:Nat) (ih:∀ j:Nat,j<l.length→8≤deep l j+m→Ev (fun k=>spec_l11Tree.f k l (j:Int)) ((tr l m (j:Int)).f0,(tr l m (j:Int)).f1,(tr l m (j:Int)).f2)) (hd:8≤deep l i+(m+1)) (d:Nat):∀ j:Nat,j+d=(pre l l.length i).length→
    Ev (fun k=>spec_l11Tree.l0 k l (pre l l.length i) ((pre l l.length i).length:Int) (j:Int) (K l i) (Nn l i) (((pre l l.length i).take j).map (tr l m))) (K l i,Nn l i,(pre l l.length i).map (tr l m)):=by
  have hpl:=pre_len (l:=l) l.length i
  have hll:=good_len l hg
  induction d with
  |zero=>
    intro j hj
    obtain rfl:j=(pre l l.length i).length:=by omega
    rw[List.take_length]
    exact Ev.step (f:=fun _=>some _) (fun k=>by simp only[spec_l11Tree.l0];rw[if_neg (by omega)]) (Ev.now _)
  |succ d ihd=>
    intro j hj
    have hlt:j<(pre l l.length i).length:=by omega
    have hm:rd (pre l l.length i) (j:Int)∈pre l l.length i:=by
      unfold rd
      rw[Int.toNat_natCast,List.getD_eq_getElem?_getD,List.getElem?_eq_getElem hlt]
      exact List.getElem_mem hlt
    obtain⟨q,hq,h1,h2,h3⟩:=part_at l hg i _ hm
    have h:=ih q h2 (by omega)
    rw[←hq] at h
    refine Ev.step (f:=fun k=>(spec_l11Tree.f k l (rd (pre l l.length i) (j:Int))).bind fun bt133=>spec_l11Tree.l0 k l (pre l l.length i) ((pre l l.length i).length:Int) ((j+1:Nat):Int) (K l i) (Nn l i) (((pre l l.length i).take j).map (tr l m)++[(⟨bt133.1,bt133.2.1,bt133.2.2⟩:S43)])) (fun k=>?_) (Ev.bind h ?_)
    · simp only[spec_l11Tree.l0]
      rw[if_pos (show(j:Int)<((pre l l.length i).length:Int) by omega),if_pos (show(0:Int)≤(j:Int) by omega),if_pos (show(j:Int)<((pre l l.length i).length:Int) by omega),w64 (n:=(j:Int)+1) (by omega) (by omega)]
      have hlen:(List.map (tr l m) (List.take j (pre l l.length i))).length<3518437208883:=by rw[List.length_map,List.length_take];omega
      simp only[hlen,if_true]
      rfl
    · have:=ihd (j+1) (by omega)
      rw[←take_rd _ _ hlt,List.map_append] at this
      show Ev (fun n=>spec_l11Tree.l0 n l (pre l l.length i) ((pre l l.length i).length:Int) ((j+1:Nat):Int) (K l i) (Nn l i) (List.map (tr l m) (List.take j (pre l l.length i))++[(⟨(tr l m (rd (pre l l.length i) (j:Int))).f0,(tr l m (rd (pre l l.length i) (j:Int))).f1,(tr l m (rd (pre l l.length i) (j:Int))).f2⟩:S43)])) _
      rw[eta52]
      exact this
theorem tree_spec (m:Nat):∀ i:Nat,i<l.length→8≤deep l i+m→Ev (fun k=>spec_l11Tree.f k l (i:Int)) ((tr l m (i:Int)).f0,(tr l m (i:Int)).f1,(tr l m (i:Int)).f2):=by
  have hll:=good_len l hg
  have stp:∀ i:Nat,i<l.length→∀ k,spec_l11Tree.f (k+1) l (i:Int)=(spec_l11Parts.f k l (i:Int)).bind fun t129=>spec_l11Tree.l0 k l t129 (t129.length:Int) 0 (K l i) (Nn l i) []:=by
    intro i hi k
    simp only[spec_l11Tree.f]
    rw[if_pos (show(0:Int)≤(i:Int) by omega),if_pos (show(i:Int)<(l.length:Int) by omega)]
    rfl
  induction m with
  |zero=>
    intro i hi hd
    refine Ev.step (stp i hi) (Ev.bind (parts_ok l (by omega) i hi (fun j hj=>good_ups l hg j (by omega))) ?_)
    rw[no_parts l hg i hi (by omega),tr,Int.toNat_natCast]
    exact Ev.step (f:=fun _=>some _) (fun k=>by simp only[spec_l11Tree.l0];rw[if_neg (by simp)]) (Ev.now _)
  |succ m ih=>
    intro i hi hd
    refine Ev.step (stp i hi) (Ev.bind (parts_ok l (by omega) i hi (fun j hj=>good_ups l hg j (by omega))) ?_)
    have:=tree_l0 l hg i m ih hd (pre l l.length i).length 0 (by omega)
    rw[List.take_zero] at this
    rw[tr,Int.toNat_natCast]
    exact this
end
/-- The tree of a good type. -/
def tree (l:List S33):S43:=tr l 8 0
theorem shape_tree (l:List S33):Ev (fun k=>shapeF k l) (if good l=true then some (tree l) else none):=by
  unfold shapeF
  refine Ev.bind (shape_ok l) ?_
  cases hg:good l with
  |false=>
    simp only[Bool.false_eq_true,if_false]
    exact Ev.now _
  |true=>
    have hl:=good_len l hg
    have hd:deep l 0=1:=by
      have:=up_bd (good_ups l hg 0 (by omega))
      unfold deep
      rw[dif_neg (by omega)]
    have:=tree_impl l hg 8 0 (by omega) (by omega)
    simp only[if_true]
    refine Ev.congr (fun k=>?_) (Ev.now (some (tree l)))
    show(treeA 9 (rows l l.length) ((0:Nat):Int)).bind _=_
    rw[this]
    rfl
theorem spec_tree (l:List S33) (hg:good l=true):Ev (fun k=>spec_l11Tree.f k l 0) ((tree l).f0,(tree l).f1,(tree l).f2):=by
  have hl:=good_len l hg
  have hd:deep l 0=1:=by
    have:=up_bd (good_ups l hg 0 (by omega))
    unfold deep
    rw[dif_neg (by omega)]
  exact tree_spec l hg 8 0 (by omega) (by omega)
/-- All kinds of a tree are some. -/
def NZ:Nat→S43→Prop
  |0,t=>t.f0≠0∧t.f2=[]
  |m+1,t=>t.f0≠0∧t.f2.length≤8∧∀ x∈t.f2,NZ m x
theorem tr_nz (l:List S33) (hg:good l=true) (m:Nat):∀ i:Nat,i<l.length→NZ m (tr l m (i:Int)):=by
  induction m with
  |zero=>
    intro i hi
    have:=ok_few (good_node l hg i hi).2
    exact⟨by rw[tr,Int.toNat_natCast];show K l i≠0;omega,rfl⟩
  |succ m ih=>
    intro i hi
    have:=ok_few (good_node l hg i hi).2
    refine⟨by rw[tr,Int.toNat_natCast];show K l i≠0;omega,by rw[tr,Int.toNat_natCast];show(List.map _ _).length≤8;rw[List.length_map];omega,fun x hx=>?_⟩
    rw[tr,Int.toNat_natCast] at hx
    obtain⟨y,hy,rfl⟩:=List.mem_map.1 hx
    obtain⟨j,rfl,h1,h2,_⟩:=part_at l hg i y hy
    exact ih j h2
theorem tree_nz (l:List S33) (hg:good l=true):NZ 8 (tree l):=tr_nz l hg 8 0 (by have:=good_len l hg;omega)
end Go.Proofs.YtoeenmajdidfoaaDoor.Ty
