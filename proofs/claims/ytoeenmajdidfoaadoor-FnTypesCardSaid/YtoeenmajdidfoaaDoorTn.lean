/- A good row of nodes is the row of its tree: the nodes stand in the order in which the tree is walked. -/
import Derived.Test.YtoeenmajdidfoaaDoorTk
import Derived.Test.YtoeenmajdidfoaaDoorQx1
namespace Go.Proofs.YtoeenmajdidfoaaDoor.Ty
open Go.RowKit Go.Proofs.YtoeenmajdidfoaaDoor.Q Go.Proofs.YtoeenmajdidfoaaDoorW.PrintWords Go.Proofs.YtoeenmajdidfoaaDoorW.PrintLast Go.Proofs.YtoeenmajdidfoaaDoorW.PrintMore Go.Proofs.YtoeenmajdidfoaaDoor.Mb
set_option linter.unusedSimpArgs false
set_option linter.unusedVariables false
set_option linter.unusedSectionVars false
section
variable {l:List S33}
theorem hit_self (a:Nat):hit l (a:Int) a=true:=by unfold hit;rw[if_pos rfl]
theorem hit_step {u:Int} {a:Nat} (h:hit l u a=true) (hn:(a:Int)≠u):(0≤U l a∧U l a<a)∧hit l u (U l a).toNat=true:=by
  unfold hit at h
  rw[if_neg hn] at h
  by_cases c:0≤U l a∧U l a<a
  · rw[dif_pos c] at h;exact⟨c,h⟩
  · rw[dif_neg c] at h;cases h
theorem hit_over {u:Int} {a:Nat} (c:0≤U l a∧U l a<a) (h:hit l u (U l a).toNat=true):hit l u a=true:=by
  unfold hit
  by_cases e:(a:Int)=u
  · rw[if_pos e]
  · rw[if_neg e,dif_pos c];exact h
theorem hit_trans {i u:Nat} (k:Nat):hit l (i:Int) u=true→hit l (u:Int) k=true→hit l (i:Int) k=true:=by
  induction k using Nat.strongRecOn with
  |_ k ih=>
    intro h1 h2
    by_cases e:(k:Int)=(u:Int)
    · obtain rfl:k=u:=by omega
      exact h1
    · obtain⟨c,h3⟩:=hit_step h2 e
      exact hit_over c (ih _ (by omega) h1 h3)
theorem hit_two {u v:Nat} (a:Nat):hit l (u:Int) a=true→hit l (v:Int) a=true→u≤v→hit l (u:Int) v=true:=by
  induction a using Nat.strongRecOn with
  |_ a ih=>
    intro h1 h2 hle
    by_cases e:(a:Int)=(v:Int)
    · obtain rfl:a=v:=by omega
      exact h1
    · have hv:=hit_bd _ h2
      obtain⟨c,h3⟩:=hit_step h2 e
      obtain⟨_,h4⟩:=hit_step h1 (by omega)
      exact ih _ (by omega) h4 h3 hle
/-- The places from a on, ahead of n, below node i. -/
def kf (l:List S33) (i a n:Nat):List Nat:=(List.range' a (n - a)).filter (fun k=>U l k==(i:Int))
theorem kf_split (i:Nat) {a b n:Nat} (h1:a≤b) (h2:b≤n):kf l i a n=kf l i a b++kf l i b n:=by
  unfold kf
  rw[←List.filter_append]
  congr 1
  have e:n - a=(b - a)+(n - b):=by omega
  have e2:b=a+1*(b - a):=by omega
  rw[e,←List.range'_append (s:=a) (m:=b - a) (n:=n - b) (step:=1),←e2]
theorem kf_none (i:Nat) {a b:Nat} (h:∀ k,a≤k→k<b→U l k≠(i:Int)):kf l i a b=[]:=by
  unfold kf
  rw[List.filter_eq_nil_iff]
  intro k hk
  rw[List.mem_range'_1] at hk
  simpa using h k hk.1 (by omega)
theorem kf_one (i a:Nat) (h:U l a=(i:Int)):kf l i a (a+1)=[a]:=by
  unfold kf
  rw[Nat.add_sub_cancel_left]
  simp[h]
theorem pre_kf (i:Nat) (n:Nat):pre l n i=(kf l i 0 n).map (fun k:Nat=>(k:Int)):=by
  induction n with
  |zero=>rfl
  |succ n ih=>
    rw[pre,ih,kf_split i (Nat.zero_le n) (Nat.le_succ n),List.map_append]
    congr 1
    by_cases c:U l n=(i:Int)
    · rw[if_pos c,kf_one i n c];rfl
    · rw[if_neg c,kf_none i (fun k h1 h2=>(show k=n by omega)▸c)];rfl
theorem take_node {i:Nat} (hi:i<l.length):l.take i++[(⟨K l i,Nn l i,U l i⟩:S33)]=l.take (i+1):=by
  rw[List.take_succ_eq_append_getElem hi]
  congr 2
  unfold K Nn U rd_T33
  rw[Int.toNat_natCast,List.getD_eq_getElem?_getD,List.getElem?_eq_getElem hi]
  rfl
section
variable (hus:ups l l.length)
include hus
theorem up_some {k:Nat} (hk:k<l.length) (h0:0<k):0≤U l k∧U l k<k∧hit l (U l k) (k - 1)=true:=by
  have h:=hus k hk
  have hb:=up_bd h
  unfold up at h
  rw[if_neg (by omega)] at h
  exact⟨by omega,by omega,h⟩
theorem hit_back {i k:Nat} (hk:k+1<l.length) (hik:i≤k) (h:hit l (i:Int) (k+1)=true):hit l (i:Int) k=true:=by
  obtain⟨h0,h1,h2⟩:=up_some hus hk (by omega)
  obtain⟨_,h3⟩:=hit_step h (by omega)
  obtain⟨u,hu⟩:=Int.eq_ofNat_of_zero_le h0
  rw[hu] at h2 h3
  exact hit_trans k h3 h2
theorem hit_gone {i e:Nat} (hie:i<e) (he:¬hit l (i:Int) e=true):∀ k,e≤k→k<l.length→¬hit l (i:Int) k=true:=by
  intro k hek
  induction hek with
  |refl=>intro _;exact he
  |step h ih=>intro hk h1;exact ih (by omega) (hit_back hus hk (Nat.le_trans (Nat.le_of_lt hie) h) h1)
theorem fold_kids (m i:Nat) (ih:∀ j,j<l.length→i<j→U l j=(i:Int)→∃ e,j<e∧e≤l.length∧(∀ k,j≤k→k<e→hit l (j:Int) k=true)∧(e<l.length→¬hit l (j:Int) e=true)∧nodesN (m+1) (l.take j) (tr l m (j:Int)) (U l j)=l.take e)
    (d:Nat):∀ j,l.length - j≤d→i<j→j≤l.length→(∀ k,i≤k→k<j→hit l (i:Int) k=true)→(j<l.length→U l j=(i:Int)∨¬hit l (i:Int) j=true)→
      ∃ e,j≤e∧e≤l.length∧(∀ k,i≤k→k<e→hit l (i:Int) k=true)∧(e<l.length→¬hit l (i:Int) e=true)∧
        ((kf l i j l.length).map (fun k:Nat=>tr l m (k:Int))).foldl (fun s x=>nodesN (m+1) s x (i:Int)) (l.take j)=l.take e:=by
  induction d with
  |zero=>
    intro j hd hij hj hb _
    obtain rfl:j=l.length:=by omega
    refine⟨_,Nat.le_refl _,Nat.le_refl _,hb,fun h=>absurd h (Nat.lt_irrefl _),?_⟩
    rw[kf_none i (fun k h1 h2=>by omega)]
    rfl
  |succ d ihd=>
    intro j hd hij hj hb hbd
    by_cases hjl:j<l.length
    · by_cases hu:U l j=(i:Int)
      · obtain⟨e,h1,h2,h3,h4,h5⟩:=ih j hjl hij hu
        have hihj:hit l (i:Int) j=true:=hit_over (by omega) (by rw[hu,Int.toNat_natCast];exact hit_self i)
        have hin:∀ k,j+1≤k→k<e→U l k≠(i:Int):=by
          intro k hk1 hk2 hk3
          obtain⟨_,h6⟩:=hit_step (h3 k (by omega) hk2) (by omega)
          have:=hit_bd _ h6
          omega
        have hbn:∀ k,i≤k→k<e→hit l (i:Int) k=true:=by
          intro k hk1 hk2
          by_cases hkj:k<j
          · exact hb k hk1 hkj
          · exact hit_trans k hihj (h3 k (by omega) hk2)
        obtain⟨e',g1,g2,g3,g4,g5⟩:=ihd e (by omega) (by omega) h2 hbn (by
          intro hel
          by_cases hh:hit l (i:Int) e=true
          · refine .inl ?_
            obtain⟨u0,u1,u2⟩:=up_some hus hel (by omega)
            obtain⟨_,h6⟩:=hit_step hh (by omega)
            obtain⟨u,hu'⟩:=Int.eq_ofNat_of_zero_le u0
            rw[hu'] at u2 h6 ⊢
            rw[Int.toNat_natCast] at h6
            have h7:=h3 (e - 1) (by omega) (by omega)
            have h8:=hit_bd _ h6
            by_cases hju:j≤u
            · exact absurd (hit_over (by omega) (by rw[hu',Int.toNat_natCast];exact hit_two _ h7 u2 hju)) (h4 hel)
            · have h9:=hit_two _ u2 h7 (by omega)
              obtain⟨_,h10⟩:=hit_step h9 (by omega)
              rw[hu,Int.toNat_natCast] at h10
              have:=hit_bd _ h10
              omega
          · exact .inr hh)
        refine⟨e',by omega,g2,g3,g4,?_⟩
        rw[kf_split i (Nat.le_succ j) hjl,kf_one i j hu,kf_split i (show j+1≤e by omega) h2,kf_none i hin,List.nil_append,List.map_append,List.foldl_append,List.map_cons,List.map_nil,List.foldl_cons,List.foldl_nil,←hu,h5,hu]
        exact g5
      · have hno:=(hbd hjl).resolve_left hu
        refine⟨j,Nat.le_refl _,hj,hb,fun _=>hno,?_⟩
        rw[kf_none i (fun k h1 h2 h3=>hit_gone hus hij hno k h1 h2 (hit_over (by omega) (by rw[h3,Int.toNat_natCast];exact hit_self i)))]
        rfl
    · obtain rfl:j=l.length:=by omega
      refine⟨_,Nat.le_refl _,Nat.le_refl _,hb,fun h=>absurd h (Nat.lt_irrefl _),?_⟩
      rw[kf_none i (fun k h1 h2=>by omega)]
      rfl
end
variable (hg:good l=true)
include hg
theorem nodes_tr (m:Nat):∀ i,i<l.length→8≤deep l i+m→∃ e,i<e∧e≤l.length∧(∀ k,i≤k→k<e→hit l (i:Int) k=true)∧(e<l.length→¬hit l (i:Int) e=true)∧nodesN (m+1) (l.take i) (tr l m (i:Int)) (U l i)=l.take e:=by
  have hus:=good_ups l hg
  have first:∀ i,i<l.length→(i+1<l.length→U l (i+1)=(i:Int)∨¬hit l (i:Int) (i+1)=true):=by
    intro i hi h1
    by_cases hh:hit l (i:Int) (i+1)=true
    · refine .inl ?_
      obtain⟨c,h6⟩:=hit_step hh (by omega)
      have:=hit_bd _ h6
      omega
    · exact .inr hh
  have one:∀ i k:Nat,i≤k→k<i+1→hit l (i:Int) k=true:=fun i k h1 h2=>(show i=k by omega)▸hit_self i
  have low:∀ i,i<l.length→pre l l.length i=(kf l i (i+1) l.length).map (fun k:Nat=>(k:Int)):=by
    intro i hi
    rw[pre_kf,kf_split i (Nat.zero_le (i+1)) hi,kf_none i (fun k _ h2 h3=>by
      rcases up_bd (hus k (by omega)) with ⟨_,h⟩|⟨_,_,h⟩<;>omega),List.nil_append]
  induction m with
  |zero=>
    intro i hi hd
    have hp:=no_parts l hg i hi (by omega)
    refine⟨i+1,by omega,hi,one i,fun h=>?_,?_⟩
    · rcases first i hi h with h1|h1
      · rw[low i hi,kf_split i (Nat.le_succ (i+1)) h,kf_one i (i+1) h1] at hp
        simp at hp
      · exact h1
    · rw[tr,Int.toNat_natCast]
      exact take_node hi
  |succ m ih=>
    intro i hi hd
    obtain⟨e,h1,h2,h3,h4,h5⟩:=fold_kids hus m i (fun j hj hij hu=>ih j hj (by
      have:deep l j=deep l i+1:=by rw[deep,dif_pos (by omega),hu,Int.toNat_natCast]
      omega)) l.length (i+1) (by omega) (by omega) hi (one i) (first i hi)
    refine⟨e,by omega,h2,h3,h4,?_⟩
    rw[tr,Int.toNat_natCast,low i hi,List.map_map]
    show(List.map _ _).foldl (fun s x=>nodesN (m+1) s x ((l.take i).length:Int)) (l.take i++[(⟨K l i,Nn l i,U l i⟩:S33)])=_
    rw[take_node hi,List.length_take,Nat.min_eq_left (by omega)]
    exact h5
/-- A good row is the row of its tree. -/
theorem nodes_tree:nodesN 9 [] (tree l) (-1)=l:=by
  have hl:=good_len l hg
  obtain⟨e,h1,h2,h3,h4,h5⟩:=nodes_tr hg 8 0 (by omega) (by omega)
  have hus:=good_ups l hg
  have hu0:U l 0=-1:=by
    rcases up_bd (hus 0 (by omega)) with ⟨_,h⟩|⟨h,_⟩
    · exact h
    · omega
  have all:∀ k,k<l.length→hit l ((0:Nat):Int) k=true:=by
    intro k
    induction k using Nat.strongRecOn with
    |_ k ih=>
      intro hk
      by_cases h0:k=0
      · subst h0;exact hit_self 0
      · obtain⟨a,b,_⟩:=up_some hus hk (by omega)
        exact hit_over ⟨a,b⟩ (ih _ (by omega) (by omega))
  have he:e=l.length:=by
    rcases Nat.lt_or_ge e l.length with h|h
    · exact absurd (all e h) (h4 h)
    · omega
  rw[hu0,he,List.take_length] at h5
  exact h5
end
end Go.Proofs.YtoeenmajdidfoaaDoor.Ty
