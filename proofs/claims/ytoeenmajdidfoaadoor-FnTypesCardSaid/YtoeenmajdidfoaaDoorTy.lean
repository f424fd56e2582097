/- Types as rows of nodes: both texts know the same good ones. Numbers of nodes are taken as they come, of 64 bits; a row has at most 40 nodes. -/
import Derived.Test.YtoeenmajdidfoaaDoorMb
import Derived.Test.YtoeenmajdidfoaaDoorQx6
import Derived.Test.YtoeenmajdidfoaaDoorQx1
import Derived.Test.YtoeenmajdidfoaaDoorQx3
import Derived.Test.YtoeenmajdidfoaaDoorQx4
namespace Go.Proofs.YtoeenmajdidfoaaDoor.Ty
open Go.RowKit Go.Proofs.YtoeenmajdidfoaaDoor.Q Go.Proofs.YtoeenmajdidfoaaDoorW.PrintWords Go.Proofs.YtoeenmajdidfoaaDoorW.PrintLast Go.Proofs.YtoeenmajdidfoaaDoorW.PrintMore Go.Proofs.YtoeenmajdidfoaaDoor.Mb
set_option linter.unusedSimpArgs false
set_option linter.unusedVariables false
set_option linter.unusedSectionVars false

theorem in_ok (a x y:Int):spec_l1In.f a x y=some (decide (x≤a∧a≤y)):=by
  unfold spec_l1In.f
  by_cases c:a≥x
  · rw[if_pos c];congr 2;exact propext ⟨fun h=>⟨c,h⟩,fun h=>h.2⟩
  · rw[if_neg c,decide_eq_false (fun h=>c h.1)]

/-! ### A node of its kind -/
def sh (x:Int):Int × Int × Int × Int:=(spec_l11Shape.f 5 x).getD (0,0,0,0)
theorem sh_all:∀ x:Fin 22,spec_l11Shape.f 5 ((x.val:Nat):Int)=some (sh ((x.val:Nat):Int)):=by decide+kernel
theorem sh_ok {x:Int} (h0:0≤x) (h1:x≤21) {k:Nat} (hk:5≤k):spec_l11Shape.f k x=some (sh x):=by
  obtain⟨n,rfl⟩:=Int.eq_ofNat_of_zero_le h0
  exact at_rounds (g:=fun k=>spec_l11Shape.f k (n:Int)) (fun k=>spec_l11Shape.mono _ k) hk (sh_all ⟨n,by omega⟩)
/-- May a node of this kind and number have so many parts? -/
def ok (x n c:Int):Bool:=decide (1≤x∧x≤21∧(sh x).1≤c∧c≤(sh x).2.1∧(sh x).2.2.1≤n∧n≤(sh x).2.2.2)
theorem node_ok (x n u c:Int) (hc:0≤c) {k:Nat} (hk:5≤k):impl_nodeOk.f k x n u c=some (ok x n c):=by
  obtain⟨k,rfl⟩:∃ j,k=j+3:=⟨k - 3,by omega⟩
  by_cases h:1≤x∧x≤21
  · have hx:x=1∨x=2∨x=3∨x=4∨x=5∨x=6∨x=7∨x=8∨x=9∨x=10∨x=11∨x=12∨x=13∨x=14∨x=15∨x=16∨x=17∨x=18∨x=19∨x=20∨x=21:=by omega
    rcases hx with e|e|e|e|e|e|e|e|e|e|e|e|e|e|e|e|e|e|e|e|e<;>subst e
    · have e:sh 1=(0,0,0,0):=by decide+kernel
      simp only[ok,e,impl_nodeOk.f,impl_nodeOk.j0,impl_nodeOk.j1]
      simp only[if_true,if_false,show ∀ a b:Int,(a==b)=decide (a=b) from fun _ _=>rfl,reduceIte,Int.reduceEq,decide_true,decide_false,Bool.false_eq_true,Int.reduceLE,ge_iff_le]
      repeat' split
      all_goals (refine congrArg some ?_;rw[Bool.eq_iff_iff];simp only[decide_eq_true_eq,Bool.false_eq_true,false_iff,true_and];omega)
    · have e:sh 2=(0,0,0,0):=by decide+kernel
      simp only[ok,e,impl_nodeOk.f,impl_nodeOk.j0,impl_nodeOk.j1]
      simp only[if_true,if_false,show ∀ a b:Int,(a==b)=decide (a=b) from fun _ _=>rfl,reduceIte,Int.reduceEq,decide_true,decide_false,Bool.false_eq_true,Int.reduceLE,ge_iff_le]
      repeat' split
      all_goals (refine congrArg some ?_;rw[Bool.eq_iff_iff];simp only[decide_eq_true_eq,Bool.false_eq_true,false_iff,true_and];omega)
    · have e:sh 3=(0,0,0,0):=by decide+kernel
      simp only[ok,e,impl_nodeOk.f,impl_nodeOk.j0,impl_nodeOk.j1]
      simp only[if_true,if_false,show ∀ a b:Int,(a==b)=decide (a=b) from fun _ _=>rfl,reduceIte,Int.reduceEq,decide_true,decide_false,Bool.false_eq_true,Int.reduceLE,ge_iff_le]
      repeat' split
      all_goals (refine congrArg some ?_;rw[Bool.eq_iff_iff];simp only[decide_eq_true_eq,Bool.false_eq_true,false_iff,true_and];omega)
    · have e:sh 4=(0,0,0,0):=by decide+kernel
      simp only[ok,e,impl_nodeOk.f,impl_nodeOk.j0,impl_nodeOk.j1]
      simp only[if_true,if_false,show ∀ a b:Int,(a==b)=decide (a=b) from fun _ _=>rfl,reduceIte,Int.reduceEq,decide_true,decide_false,Bool.false_eq_true,Int.reduceLE,ge_iff_le]
      repeat' split
      all_goals (refine congrArg some ?_;rw[Bool.eq_iff_iff];simp only[decide_eq_true_eq,Bool.false_eq_true,false_iff,true_and];omega)
    · have e:sh 5=(0,0,0,0):=by decide+kernel
      simp only[ok,e,impl_nodeOk.f,impl_nodeOk.j0,impl_nodeOk.j1]
      simp only[if_true,if_false,show ∀ a b:Int,(a==b)=decide (a=b) from fun _ _=>rfl,reduceIte,Int.reduceEq,decide_true,decide_false,Bool.false_eq_true,Int.reduceLE,ge_iff_le]
      repeat' split
      all_goals (refine congrArg some ?_;rw[Bool.eq_iff_iff];simp only[decide_eq_true_eq,Bool.false_eq_true,false_iff,true_and];omega)
    · have e:sh 6=(0,0,0,0):=by decide+kernel
      simp only[ok,e,impl_nodeOk.f,impl_nodeOk.j0,impl_nodeOk.j1]
      simp only[if_true,if_false,show ∀ a b:Int,(a==b)=decide (a=b) from fun _ _=>rfl,reduceIte,Int.reduceEq,decide_true,decide_false,Bool.false_eq_true,Int.reduceLE,ge_iff_le]
      repeat' split
      all_goals (refine congrArg some ?_;rw[Bool.eq_iff_iff];simp only[decide_eq_true_eq,Bool.false_eq_true,false_iff,true_and];omega)
    · have e:sh 7=(0,0,0,0):=by decide+kernel
      simp only[ok,e,impl_nodeOk.f,impl_nodeOk.j0,impl_nodeOk.j1]
      simp only[if_true,if_false,show ∀ a b:Int,(a==b)=decide (a=b) from fun _ _=>rfl,reduceIte,Int.reduceEq,decide_true,decide_false,Bool.false_eq_true,Int.reduceLE,ge_iff_le]
      repeat' split
      all_goals (refine congrArg some ?_;rw[Bool.eq_iff_iff];simp only[decide_eq_true_eq,Bool.false_eq_true,false_iff,true_and];omega)
    · have e:sh 8=(0,0,0,0):=by decide+kernel
      simp only[ok,e,impl_nodeOk.f,impl_nodeOk.j0,impl_nodeOk.j1]
      simp only[if_true,if_false,show ∀ a b:Int,(a==b)=decide (a=b) from fun _ _=>rfl,reduceIte,Int.reduceEq,decide_true,decide_false,Bool.false_eq_true,Int.reduceLE,ge_iff_le]
      repeat' split
      all_goals (refine congrArg some ?_;rw[Bool.eq_iff_iff];simp only[decide_eq_true_eq,Bool.false_eq_true,false_iff,true_and];omega)
    · have e:sh 9=(0,0,0,0):=by decide+kernel
      simp only[ok,e,impl_nodeOk.f,impl_nodeOk.j0,impl_nodeOk.j1]
      simp only[if_true,if_false,show ∀ a b:Int,(a==b)=decide (a=b) from fun _ _=>rfl,reduceIte,Int.reduceEq,decide_true,decide_false,Bool.false_eq_true,Int.reduceLE,ge_iff_le]
      repeat' split
      all_goals (refine congrArg some ?_;rw[Bool.eq_iff_iff];simp only[decide_eq_true_eq,Bool.false_eq_true,false_iff,true_and];omega)
    · have e:sh 10=(0,0,0,0):=by decide+kernel
      simp only[ok,e,impl_nodeOk.f,impl_nodeOk.j0,impl_nodeOk.j1]
      simp only[if_true,if_false,show ∀ a b:Int,(a==b)=decide (a=b) from fun _ _=>rfl,reduceIte,Int.reduceEq,decide_true,decide_false,Bool.false_eq_true,Int.reduceLE,ge_iff_le]
      repeat' split
      all_goals (refine congrArg some ?_;rw[Bool.eq_iff_iff];simp only[decide_eq_true_eq,Bool.false_eq_true,false_iff,true_and];omega)
    · have e:sh 11=(0,0,0,0):=by decide+kernel
      simp only[ok,e,impl_nodeOk.f,impl_nodeOk.j0,impl_nodeOk.j1]
      simp only[if_true,if_false,show ∀ a b:Int,(a==b)=decide (a=b) from fun _ _=>rfl,reduceIte,Int.reduceEq,decide_true,decide_false,Bool.false_eq_true,Int.reduceLE,ge_iff_le]
      repeat' split
      all_goals (refine congrArg some ?_;rw[Bool.eq_iff_iff];simp only[decide_eq_true_eq,Bool.false_eq_true,false_iff,true_and];omega)
    · have e:sh 12=(0,0,0,0):=by decide+kernel
      simp only[ok,e,impl_nodeOk.f,impl_nodeOk.j0,impl_nodeOk.j1]
      simp only[if_true,if_false,show ∀ a b:Int,(a==b)=decide (a=b) from fun _ _=>rfl,reduceIte,Int.reduceEq,decide_true,decide_false,Bool.false_eq_true,Int.reduceLE,ge_iff_le]
      repeat' split
      all_goals (refine congrArg some ?_;rw[Bool.eq_iff_iff];simp only[decide_eq_true_eq,Bool.false_eq_true,false_iff,true_and];omega)
    · have e:sh 13=(1,1,0,0):=by decide+kernel
      simp only[ok,e,impl_nodeOk.f,impl_nodeOk.j0,impl_nodeOk.j1]
      simp only[if_true,if_false,show ∀ a b:Int,(a==b)=decide (a=b) from fun _ _=>rfl,reduceIte,Int.reduceEq,decide_true,decide_false,Bool.false_eq_true,Int.reduceLE,ge_iff_le]
      repeat' split
      all_goals (refine congrArg some ?_;rw[Bool.eq_iff_iff];simp only[decide_eq_true_eq,Bool.false_eq_true,false_iff,true_and];omega)
    · have e:sh 14=(1,8,0,0):=by decide+kernel
      simp only[ok,e,impl_nodeOk.f,impl_nodeOk.j0,impl_nodeOk.j1]
      simp only[if_true,if_false,show ∀ a b:Int,(a==b)=decide (a=b) from fun _ _=>rfl,reduceIte,Int.reduceEq,decide_true,decide_false,Bool.false_eq_true,Int.reduceLE,ge_iff_le]
      repeat' split
      all_goals (refine congrArg some ?_;rw[Bool.eq_iff_iff];simp only[decide_eq_true_eq,Bool.false_eq_true,false_iff,true_and];omega)
    · have e:sh 15=(1,8,0,0):=by decide+kernel
      simp only[ok,e,impl_nodeOk.f,impl_nodeOk.j0,impl_nodeOk.j1]
      simp only[if_true,if_false,show ∀ a b:Int,(a==b)=decide (a=b) from fun _ _=>rfl,reduceIte,Int.reduceEq,decide_true,decide_false,Bool.false_eq_true,Int.reduceLE,ge_iff_le]
      repeat' split
      all_goals (refine congrArg some ?_;rw[Bool.eq_iff_iff];simp only[decide_eq_true_eq,Bool.false_eq_true,false_iff,true_and];omega)
    · have e:sh 16=(0,0,1,32):=by decide+kernel
      simp only[ok,e,impl_nodeOk.f,impl_nodeOk.j0,impl_nodeOk.j1]
      simp only[if_true,if_false,show ∀ a b:Int,(a==b)=decide (a=b) from fun _ _=>rfl,reduceIte,Int.reduceEq,decide_true,decide_false,Bool.false_eq_true,Int.reduceLE,ge_iff_le]
      repeat' split
      all_goals (refine congrArg some ?_;rw[Bool.eq_iff_iff];simp only[decide_eq_true_eq,Bool.false_eq_true,false_iff,true_and];omega)
    · have e:sh 17=(1,1,0,0):=by decide+kernel
      simp only[ok,e,impl_nodeOk.f,impl_nodeOk.j0,impl_nodeOk.j1]
      simp only[if_true,if_false,show ∀ a b:Int,(a==b)=decide (a=b) from fun _ _=>rfl,reduceIte,Int.reduceEq,decide_true,decide_false,Bool.false_eq_true,Int.reduceLE,ge_iff_le]
      repeat' split
      all_goals (refine congrArg some ?_;rw[Bool.eq_iff_iff];simp only[decide_eq_true_eq,Bool.false_eq_true,false_iff,true_and];omega)
    · have e:sh 18=(2,2,0,0):=by decide+kernel
      simp only[ok,e,impl_nodeOk.f,impl_nodeOk.j0,impl_nodeOk.j1]
      simp only[if_true,if_false,show ∀ a b:Int,(a==b)=decide (a=b) from fun _ _=>rfl,reduceIte,Int.reduceEq,decide_true,decide_false,Bool.false_eq_true,Int.reduceLE,ge_iff_le]
      repeat' split
      all_goals (refine congrArg some ?_;rw[Bool.eq_iff_iff];simp only[decide_eq_true_eq,Bool.false_eq_true,false_iff,true_and];omega)
    · have e:sh 19=(0,0,1,300):=by decide+kernel
      simp only[ok,e,impl_nodeOk.f,impl_nodeOk.j0,impl_nodeOk.j1]
      simp only[if_true,if_false,show ∀ a b:Int,(a==b)=decide (a=b) from fun _ _=>rfl,reduceIte,Int.reduceEq,decide_true,decide_false,Bool.false_eq_true,Int.reduceLE,ge_iff_le]
      repeat' split
      all_goals (refine congrArg some ?_;rw[Bool.eq_iff_iff];simp only[decide_eq_true_eq,Bool.false_eq_true,false_iff,true_and];omega)
    · have e:sh 20=(0,0,0,9):=by decide+kernel
      simp only[ok,e,impl_nodeOk.f,impl_nodeOk.j0,impl_nodeOk.j1]
      simp only[if_true,if_false,show ∀ a b:Int,(a==b)=decide (a=b) from fun _ _=>rfl,reduceIte,Int.reduceEq,decide_true,decide_false,Bool.false_eq_true,Int.reduceLE,ge_iff_le]
      repeat' split
      all_goals (refine congrArg some ?_;rw[Bool.eq_iff_iff];simp only[decide_eq_true_eq,Bool.false_eq_true,false_iff,true_and];omega)
    · have e:sh 21=(0,0,0,9):=by decide+kernel
      simp only[ok,e,impl_nodeOk.f,impl_nodeOk.j0,impl_nodeOk.j1]
      simp only[if_true,if_false,show ∀ a b:Int,(a==b)=decide (a=b) from fun _ _=>rfl,reduceIte,Int.reduceEq,decide_true,decide_false,Bool.false_eq_true,Int.reduceLE,ge_iff_le]
      repeat' split
      all_goals (refine congrArg some ?_;rw[Bool.eq_iff_iff];simp only[decide_eq_true_eq,Bool.false_eq_true,false_iff,true_and];omega)
  · have hf:ok x n c=false:=decide_eq_false (fun h2=>h ⟨h2.1,h2.2.1⟩)
    rw[hf]
    have e1:¬x=13:=by omega
    have e2:¬x=14:=by omega
    have e3:¬x=15:=by omega
    have e4:¬x=16:=by omega
    have e5:¬x=17:=by omega
    have e6:¬x=18:=by omega
    have e7:¬x=19:=by omega
    have e8:¬x=20:=by omega
    have e9:¬x=21:=by omega
    simp only[impl_nodeOk.f,impl_nodeOk.j0,impl_nodeOk.j1]
    simp[e1,e2,e3,e4,e5,e6,e7,e8,e9]
    intro h1 h2
    omega

/-! ### Nodes above -/
section
variable (l:List S33)
def U (i:Nat):Int:=(rd_T33 l (i:Int)).f2
/-- Does the way up from a come by u? -/
def hit (u:Int) (a:Nat):Bool:=
  if (a:Int)=u then true else if h:0≤U l a∧U l a<a then hit u (U l a).toNat else false
termination_by a
decreasing_by omega
def deep (i:Nat):Nat:=if h:0≤U l i∧U l i<i then deep (U l i).toNat+1 else 1
termination_by i
decreasing_by omega
def up (i:Nat):Bool:=if i=0 then U l i==-1 else hit l (U l i) (i - 1)
def ups (n:Nat):Prop:=∀ j,j<n→up l j=true
/-- The nodes ahead of n below node i. -/
def pre:Nat→Nat→List Int
  |0,_=>[]
  |n+1,i=>pre n i++(if U l n=(i:Int) then [(n:Int)] else [])
end
section
variable {l:List S33}
theorem hit_bd {u:Int} (a:Nat):hit l u a=true→0≤u∧u≤a:=by
  induction a using Nat.strongRecOn with
  |_ a ih=>
    intro h
    unfold hit at h
    by_cases c:(a:Int)=u
    · omega
    · rw[if_neg c] at h
      by_cases c2:0≤U l a∧U l a<a
      · rw[dif_pos c2] at h
        have:=ih (U l a).toNat (by omega) h
        omega
      · rw[dif_neg c2] at h;cases h
theorem up_bd {i:Nat} (h:up l i=true):(i=0∧U l i=-1)∨(0<i∧0≤U l i∧U l i<i):=by
  unfold up at h
  by_cases c:i=0
  · rw[if_pos c] at h;exact .inl ⟨c,by simpa using h⟩
  · rw[if_neg c] at h
    have:=hit_bd _ h
    exact .inr ⟨by omega,this.1,by omega⟩
theorem deep_pos (i:Nat):1≤deep l i:=by
  unfold deep
  split<;>omega
theorem deep_le (i:Nat):deep l i≤i+1:=by
  induction i using Nat.strongRecOn with
  |_ i ih=>
    unfold deep
    split
    · rename_i h
      have:=ih (U l i).toNat (by omega)
      omega
    · omega
theorem pre_len (n i:Nat):(pre l n i).length≤n:=by
  induction n with
  |zero=>exact Nat.le_refl _
  |succ n ih=>
    unfold pre
    rw[List.length_append]
    split<;>simp<;>omega
theorem pre_mem (n i:Nat):∀ x∈pre l n i,∃ j:Nat,x=(j:Int)∧j<n∧U l j=(i:Int):=by
  induction n with
  |zero=>intro x hx;cases hx
  |succ n ih=>
    intro x hx
    unfold pre at hx
    rcases List.mem_append.1 hx with hx|hx
    · obtain⟨j,h1,h2,h3⟩:=ih x hx
      exact⟨j,h1,by omega,h3⟩
    · by_cases c:U l n=(i:Int)
      · rw[if_pos c] at hx
        exact⟨n,by simpa using hx,by omega,c⟩
      · rw[if_neg c] at hx;cases hx
theorem pre_nil (n i:Nat) (h:ups l n) (hn:n≤i+1):pre l n i=[]:=by
  induction n with
  |zero=>rfl
  |succ n ih=>
    unfold pre
    rw[ih (fun j hj=>h j (by omega)) (by omega),if_neg ?_]
    · rfl
    · have:=up_bd (h n (by omega))
      omega
end

/-! ### The reference: parts, good types -/
section
variable (l:List S33) (hl:l.length≤1000000)
include hl
theorem parts_l0 (i:Nat) (d:Nat):∀ j:Nat,j+d=l.length→Ev (fun k=>spec_l11Parts.l0 k l (i:Int) (pre l j i) (j:Int)) (pre l l.length i):=by
  induction d with
  |zero=>
    intro j hj
    refine Ev.step (f:=fun _=>some (pre l j i)) (fun k=>?_) ?_
    · simp only[spec_l11Parts.l0]
      rw[if_neg (by omega)]
    · have:j=l.length:=by omega
      rw[this];exact Ev.now _
  |succ d ih=>
    intro j hj
    have h:=ih (j+1) (by omega)
    have hlen:=pre_len (l:=l) j i
    refine Ev.step (f:=fun k=>spec_l11Parts.l0 k l (i:Int) (pre l (j+1) i) ((j+1:Nat):Int)) (fun k=>?_) h
    simp only[spec_l11Parts.l0]
    rw[if_pos (show(j:Int)<(l.length:Int) by omega),if_pos (show(0:Int)≤(j:Int) by omega),w64 (n:=(j:Int)+1) (by omega) (by omega),show (j:Int)+1=((j+1:Nat):Int) by omega]
    by_cases c:U l j=(i:Int)
    · rw[if_pos (show(rd_T33 l (j:Int)).f2=(i:Int) from c),if_pos (by omega)]
      simp only[pre]
      rw[if_pos c]
    · rw[if_neg (show ¬(rd_T33 l (j:Int)).f2=(i:Int) from c)]
      simp only[pre]
      rw[if_neg c,List.append_nil]
theorem parts_ok (i:Nat) (hi:i<l.length) (h:ups l (i+1)):Ev (fun k=>spec_l11Parts.f k l (i:Int)) (pre l l.length i):=by
  have:=parts_l0 l hl i (l.length - (i+1)) (i+1) (by omega)
  rw[pre_nil (i+1) i h (by omega)] at this
  refine Ev.congr (fun k=>?_) this
  unfold spec_l11Parts.f
  rw[w64 (n:=(i:Int)+1) (by omega) (by omega),show (i:Int)+1=((i+1:Nat):Int) by omega]

/-- Is node i as it should be? -/
def okN (i:Nat):Bool:=up l i && decide (deep l i≤8) && ok (rd_T33 l (i:Int)).f0 (rd_T33 l (i:Int)).f1 ((pre l l.length i).length:Int)
def goodFrom:Nat→Nat→Bool
  |0,_=>true
  |d+1,i=>okN l i && goodFrom d (i+1)
end

section
variable (l:List S33) (hl:l.length≤1000000) (i:Nat) (hi:i<l.length)
include hl hi
/-- Behind the way up: how deep, how many parts, which number. -/
theorem good_fin (R:Bool) (b:Bool) (hb:b=true→ups l (i+1)) (m:Nat) (hm:m≤2000000) (hk0:1≤(rd_T33 l (i:Int)).f0) (hk1:(rd_T33 l (i:Int)).f0≤21)
    (hR:b=true→Ev (fun k=>spec_GoodType.l0 k l l (l.length:Int) ((i+1:Nat):Int)) R) (p:Int) (hp:p<0):
    Ev (fun k=>spec_GoodType.l2 k l (i:Int) b (m:Int) p l (l.length:Int) (i:Int) (rd_T33 l (i:Int)).f0 (rd_T33 l (i:Int)).f1 (rd_T33 l (i:Int)).f2)
      (b && decide (m≤8) && ok (rd_T33 l (i:Int)).f0 (rd_T33 l (i:Int)).f1 ((pre l l.length i).length:Int) && R):=by
  have hsh:Ev (fun k=>spec_l11Shape.f k (rd_T33 l (i:Int)).f0) (sh (rd_T33 l (i:Int)).f0):=⟨5,fun k hk=>sh_ok (by omega) hk1 hk⟩
  have hw:wrap64 ((i:Int)+1)=((i+1:Nat):Int):=by rw[w64 (by omega) (by omega)];omega
  refine Ev.step (fun k=>by simp only[spec_GoodType.l2];rw[if_neg (by omega)]) (Ev.bind hsh ?_)
  cases b with
  |false=>
    simp only[Bool.false_and]
    exact Ev.congr (fun k=>by rw[if_neg (by decide)]) (Ev.now false)
  |true=>
    simp only[if_true,Bool.true_and]
    by_cases c:m≤8
    · have hd:decide (m≤8)=true:=decide_eq_true c
      rw[hd,Bool.true_and]
      refine Ev.congr (fun k=>by rw[if_neg (show ¬(m:Int) > 8 by omega)]) ?_
      refine Ev.bind (parts_ok l hl i hi (hb rfl)) ?_
      simp only[in_ok,Option.bind_some]
      generalize hc:((pre l l.length i).length:Int)=c0
      by_cases c1:(sh (rd_T33 l (i:Int)).f0).1≤c0∧c0≤(sh (rd_T33 l (i:Int)).f0).2.1
      · refine Ev.congr (fun k=>by rw[decide_eq_true c1,if_pos rfl]) ?_
        by_cases c2:(sh (rd_T33 l (i:Int)).f0).2.2.1≤(rd_T33 l (i:Int)).f1∧(rd_T33 l (i:Int)).f1≤(sh (rd_T33 l (i:Int)).f0).2.2.2
        · have e:ok (rd_T33 l (i:Int)).f0 (rd_T33 l (i:Int)).f1 c0=true:=by unfold ok;exact decide_eq_true ⟨hk0,hk1,c1.1,c1.2,c2.1,c2.2⟩
          rw[e,Bool.true_and]
          exact Ev.congr (fun k=>by rw[decide_eq_true c2,if_pos rfl,hw]) (hR rfl)
        · have e:ok (rd_T33 l (i:Int)).f0 (rd_T33 l (i:Int)).f1 c0=false:=by unfold ok;exact decide_eq_false (fun h=>c2 ⟨h.2.2.2.2.1,h.2.2.2.2.2⟩)
          rw[e,Bool.false_and]
          exact Ev.congr (fun k=>by rw[decide_eq_false c2,if_neg (by decide)]) (Ev.now false)
      · have e:ok (rd_T33 l (i:Int)).f0 (rd_T33 l (i:Int)).f1 c0=false:=by unfold ok;exact decide_eq_false (fun h=>c1 ⟨h.2.2.1,h.2.2.2.1⟩)
        rw[e,Bool.false_and]
        exact Ev.congr (fun k=>by rw[decide_eq_false c1,if_neg (by decide)]) (Ev.now false)
    · have hd:decide (m≤8)=false:=decide_eq_false c
      rw[hd,Bool.false_and,Bool.false_and]
      exact Ev.congr (fun k=>by rw[if_pos (show(m:Int) > 8 by omega)]) (Ev.now false)
/-- The way up is counted. -/
theorem good_l2 (R:Bool) (b:Bool) (hb:b=true→ups l (i+1)) (hu:∀ j,j≤i→j<i∨-1≤U l j∧U l j<j) (hus:ups l i) (hk0:1≤(rd_T33 l (i:Int)).f0) (hk1:(rd_T33 l (i:Int)).f0≤21)
    (hR:b=true→Ev (fun k=>spec_GoodType.l0 k l l (l.length:Int) ((i+1:Nat):Int)) R) (a:Nat):∀ (m:Nat),a≤i→m+a≤1000000→
    Ev (fun k=>spec_GoodType.l2 k l (i:Int) b (m:Int) (a:Int) l (l.length:Int) (i:Int) (rd_T33 l (i:Int)).f0 (rd_T33 l (i:Int)).f1 (rd_T33 l (i:Int)).f2)
      (b && decide (m+deep l a≤8) && ok (rd_T33 l (i:Int)).f0 (rd_T33 l (i:Int)).f1 ((pre l l.length i).length:Int) && R):=by
  induction a using Nat.strongRecOn with
  |_ a ih=>
    intro m ha hm
    have hbd:(U l a=-1)∨(0≤U l a∧U l a<a):=by
      rcases hu a ha with h|h
      · rcases up_bd (hus a h) with h2|h2<;>omega
      · omega
    have hw:wrap64 ((m:Int)+1)=((m+1:Nat):Int):=by rw[w64 (by omega) (by omega)];omega
    refine Ev.step (f:=fun k=>spec_GoodType.l2 k l (i:Int) b ((m+1:Nat):Int) (U l a) l (l.length:Int) (i:Int) (rd_T33 l (i:Int)).f0 (rd_T33 l (i:Int)).f1 (rd_T33 l (i:Int)).f2) (fun k=>?_) ?_
    · simp only[spec_GoodType.l2]
      rw[if_pos (show(a:Int)≥0 by omega),if_pos (show(0:Int)≤(a:Int) by omega),if_pos (show(a:Int)<(l.length:Int) by omega),hw]
      rfl
    · unfold deep
      rcases hbd with h|h
      · rw[dif_neg (by omega)]
        exact good_fin l hl i hi R b hb (m+1) (by omega) hk0 hk1 hR _ (by omega)
      · rw[dif_pos h]
        have:=ih (U l a).toNat (by omega) (m+1) (by omega) (by omega)
        rw[show (((U l a).toNat:Nat):Int)=U l a by omega] at this
        rw[show m+(deep l (U l a).toNat+1)=m+1+deep l (U l a).toNat by omega]
        exact this
/-- The way up from the node ahead: does it come by the node above? -/
theorem good_l1 (hus:ups l i) (R:Bool) (a:Nat):a<i→
    Ev (fun k=>spec_GoodType.j3 k l (i:Int) (hit l (U l i) a) l (l.length:Int) (i:Int) (rd_T33 l (i:Int)).f0 (rd_T33 l (i:Int)).f1 (rd_T33 l (i:Int)).f2) R→
    Ev (fun k=>spec_GoodType.l1 k l (i:Int) false (a:Int) l (l.length:Int) (i:Int) (rd_T33 l (i:Int)).f0 (rd_T33 l (i:Int)).f1 (rd_T33 l (i:Int)).f2) R:=by
  induction a using Nat.strongRecOn with
  |_ a ih=>
    intro ha hR
    have hbd:=up_bd (hus a ha)
    refine Ev.step (f:=fun k=>spec_GoodType.l1 k l (i:Int) ((a:Int)==U l i) (U l a) l (l.length:Int) (i:Int) (rd_T33 l (i:Int)).f0 (rd_T33 l (i:Int)).f1 (rd_T33 l (i:Int)).f2) (fun k=>?_) ?_
    · simp only[spec_GoodType.l1]
      rw[if_pos (show(a:Int)≥0 by omega),if_neg (by decide),if_pos (show(0:Int)≤(a:Int) by omega),if_pos (show(a:Int)<(l.length:Int) by omega)]
      rfl
    · unfold hit at hR
      by_cases c:(a:Int)=U l i
      · rw[if_pos c] at hR
        rw[beq_iff_eq.2 c]
        refine Ev.step (fun k=>?_) hR
        simp only[spec_GoodType.l1]
        split<;>rfl
      · rw[if_neg c] at hR
        rw[beq_eq_false_iff_ne.2 c]
        by_cases h:0≤U l a∧U l a<a
        · rw[dif_pos h] at hR
          have:=ih (U l a).toNat (by omega) (by omega) hR
          rw[show (((U l a).toNat:Nat):Int)=U l a by omega] at this
          exact this
        · rw[dif_neg h] at hR
          refine Ev.step (fun k=>?_) hR
          simp only[spec_GoodType.l1]
          rw[if_neg (by omega)]
end
section
variable (l:List S33) (hl:l.length≤1000000)
include hl
theorem good_l0 (d:Nat):∀ i:Nat,i+d=l.length→ups l i→Ev (fun k=>spec_GoodType.l0 k l l (l.length:Int) (i:Int)) (goodFrom l d i):=by
  induction d with
  |zero=>
    intro i hi _
    exact Ev.step (f:=fun _=>some true) (fun k=>by simp only[spec_GoodType.l0];rw[if_neg (by omega)]) (Ev.now true)
  |succ d ih=>
    intro i hi hus
    have hil:i<l.length:=by omega
    have no:∀ (X Y Z:Int),Ev (fun k=>spec_GoodType.j1 k l (i:Int) l (l.length:Int) (i:Int) true X Y Z) false:=fun X Y Z=>Ev.step (f:=fun _=>some false) (fun k=>by simp only[spec_GoodType.j1,if_true]) (Ev.now false)
    have stp:∀ k,spec_GoodType.l0 (k+1) l l (l.length:Int) (i:Int)=(if (((i:Int)==0) !=(U l i==(-1)))=true then (spec_GoodType.j1 k l (i:Int) l (l.length:Int) (i:Int) true ((rd_T33 l (i:Int)).f0) ((rd_T33 l (i:Int)).f1) ((rd_T33 l (i:Int)).f2)) else (if -1≤U l i∧U l i≤(i:Int) - 1 then (spec_GoodType.j1 k l (i:Int) l (l.length:Int) (i:Int) (!(decide (1≤(rd_T33 l (i:Int)).f0∧(rd_T33 l (i:Int)).f0≤21))) ((rd_T33 l (i:Int)).f0) ((rd_T33 l (i:Int)).f1) ((rd_T33 l (i:Int)).f2)) else (spec_GoodType.j1 k l (i:Int) l (l.length:Int) (i:Int) true ((rd_T33 l (i:Int)).f0) ((rd_T33 l (i:Int)).f1) ((rd_T33 l (i:Int)).f2)))):=by
      intro k
      simp only[spec_GoodType.l0]
      rw[if_pos (show(i:Int)<(l.length:Int) by omega),if_pos (show(0:Int)≤(i:Int) by omega),if_pos (show(i:Int)<(l.length:Int) by omega)]
      simp only[in_ok,Option.bind_some,decide_eq_true_eq]
      rw[w64 (n:=(i:Int) - 1) (by omega) (by omega)]
      rfl
    refine Ev.step stp ?_
    unfold goodFrom
    by_cases c1:(((i:Int)==0) !=(U l i==(-1)))=true
    · have hup:up l i=false:=by
        unfold up
        by_cases c:i=0
        · subst c
          rw[if_pos rfl]
          simpa using c1
        · rw[if_neg c]
          cases hh:hit l (U l i) (i - 1) with
          |false=>rfl
          |true=>
            have:=hit_bd _ hh
            have e1:((i:Int)==0)=false:=beq_eq_false_iff_ne.2 (by omega)
            have e2:(U l i==(-1))=false:=beq_eq_false_iff_ne.2 (by omega)
            rw[e1,e2] at c1
            cases c1
      refine Ev.congr (fun k=>by rw[if_pos c1]) ?_
      rw[okN,hup,Bool.false_and,Bool.false_and,Bool.false_and]
      exact no _ _ _
    · by_cases c2:-1≤U l i∧U l i≤(i:Int) - 1
      · refine Ev.congr (fun k=>by rw[if_neg c1,if_pos c2]) ?_
        by_cases c3:1≤(rd_T33 l (i:Int)).f0∧(rd_T33 l (i:Int)).f0≤21
        · rw[decide_eq_true c3]
          have hn:∀ b,(b=true→up l i=true)→b=true→ups l (i+1):=fun b hb h j hj=>by
            by_cases e:j=i
            · rw[e];exact hb h
            · exact hus j (by omega)
          have hu:∀ j,j≤i→j<i∨-1≤U l j∧U l j<j:=fun j hj=>by
            by_cases e:j<i
            · exact .inl e
            · obtain rfl:j=i:=by omega
              exact .inr ⟨c2.1,by omega⟩
          -- behind the way up
          have fin:∀ b,(b=true→up l i=true)→Ev (fun k=>spec_GoodType.j3 k l (i:Int) b l (l.length:Int) (i:Int) (rd_T33 l (i:Int)).f0 (rd_T33 l (i:Int)).f1 (rd_T33 l (i:Int)).f2) (b && decide (deep l i≤8) && ok (rd_T33 l (i:Int)).f0 (rd_T33 l (i:Int)).f1 ((pre l l.length i).length:Int) && goodFrom l d (i+1)):=by
            intro b hb
            refine Ev.step (f:=fun k=>spec_GoodType.l2 k l (i:Int) b ((0:Nat):Int) (i:Int) l (l.length:Int) (i:Int) (rd_T33 l (i:Int)).f0 (rd_T33 l (i:Int)).f1 (rd_T33 l (i:Int)).f2) (fun k=>by simp only[spec_GoodType.j3];rfl) ?_
            have:=good_l2 l hl i hil (goodFrom l d (i+1)) b (hn b hb) hu hus c3.1 c3.2 (fun h=>ih (i+1) (by omega) (hn b hb h)) i 0 (Nat.le_refl _) (by omega)
            rw[Nat.zero_add] at this
            exact this
          have stp2:∀ k,spec_GoodType.j1 (k+1) l (i:Int) l (l.length:Int) (i:Int) (!true) ((rd_T33 l (i:Int)).f0) ((rd_T33 l (i:Int)).f1) ((rd_T33 l (i:Int)).f2)=spec_GoodType.l1 k l (i:Int) ((i:Int)==0) ((i:Int) - 1) l (l.length:Int) (i:Int) ((rd_T33 l (i:Int)).f0) ((rd_T33 l (i:Int)).f1) ((rd_T33 l (i:Int)).f2):=by
            intro k
            simp only[spec_GoodType.j1]
            rw[if_neg (by decide),w64 (n:=(i:Int) - 1) (by omega) (by omega)]
          refine Ev.step stp2 ?_
          unfold okN
          by_cases c:i=0
          · have hup:up l i=true:=by
              subst c
              unfold up
              rw[if_pos rfl]
              simpa using c1
            have:=fin true (fun _=>hup)
            rw[hup]
            refine Ev.step (fun k=>?_) this
            subst c
            simp only[spec_GoodType.l1]
            rw[if_neg (by omega)]
            rfl
          · have hup:up l i=hit l (U l i) (i - 1):=by unfold up;rw[if_neg c]
            rw[hup]
            have:=good_l1 l hl i hil hus _ (i - 1) (by omega) (fin _ (fun h=>by rw[hup];exact h))
            rw[show (((i - 1:Nat):Nat):Int)=(i:Int) - 1 by omega] at this
            rw[beq_eq_false_iff_ne.2 (show ¬(i:Int)=0 by omega)]
            exact this
        · rw[decide_eq_false c3]
          have:okN l i=false:=by
            have e:ok (rd_T33 l (i:Int)).f0 (rd_T33 l (i:Int)).f1 ((pre l l.length i).length:Int)=false:=by unfold ok;exact decide_eq_false (fun h=>c3 ⟨h.1,h.2.1⟩)
            rw[okN,e,Bool.and_false]
          rw[this,Bool.false_and]
          exact no _ _ _
      · refine Ev.congr (fun k=>by rw[if_neg c1,if_neg c2]) ?_
        have hup:up l i=false:=by
          cases hh:up l i with
          |false=>rfl
          |true=>have:=up_bd hh;omega
        rw[okN,hup,Bool.false_and,Bool.false_and,Bool.false_and]
        exact no _ _ _
end
/-- A good type. -/
def good (l:List S33):Bool:=decide (1≤l.length∧l.length≤40) && goodFrom l l.length 0
theorem good_spec (l:List S33):Ev (fun k=>spec_GoodType.f k l) (good l):=by
  unfold good
  by_cases c:1≤l.length∧l.length≤40
  · rw[decide_eq_true c,Bool.true_and]
    refine Ev.congr (fun k=>?_) (good_l0 l (by omega) l.length 0 (by omega) (fun j hj=>by omega))
    unfold spec_GoodType.f
    rw[in_ok,decide_eq_true (by omega),Option.bind_some,if_pos rfl]
    rfl
  · rw[decide_eq_false c,Bool.false_and]
    refine Ev.congr (fun k=>?_) (Ev.now false)
    unfold spec_GoodType.f
    rw[in_ok,decide_eq_false (by omega),Option.bind_some,if_neg (by decide)]

/-! ### The program: parts by node -/
theorem rd_range {L:Nat} (f:Nat→Int) (i:Nat) (h:i<L):rd ((List.range L).map f) (i:Int)=f i:=by
  unfold rd
  rw[Int.toNat_natCast,List.getD_eq_getElem?_getD,List.getElem?_map,List.getElem?_range h]
  rfl
theorem rd_rangeL {L:Nat} (f:Nat→List Int) (i:Nat) (h:i<L):rd_L4 ((List.range L).map f) (i:Int)=f i:=by
  unfold rd_L4
  rw[Int.toNat_natCast,List.getD_eq_getElem?_getD,List.getElem?_map,List.getElem?_range h]
  rfl
theorem set_range {α:Type} {L:Nat} (f g:Nat→α) (i:Nat) (v:α) (hv:g i=v) (ho:∀ j,j<L→j≠i→g j=f j):((List.range L).map f).set i v=(List.range L).map g:=by
  apply List.ext_getElem?
  intro j
  rw[List.getElem?_set]
  by_cases hj:j<L
  · by_cases e:i=j
    · subst e
      rw[if_pos rfl,if_pos (by simpa using hj),List.getElem?_map,List.getElem?_range hj,←hv]
      rfl
    · rw[if_neg e,List.getElem?_map,List.getElem?_map,List.getElem?_range hj]
      simp only[Option.map_some]
      rw[ho j hj (fun h=>e h.symm)]
  · rw[List.getElem?_eq_none (by simp;omega:((List.range L).map g).length≤j)]
    split
    · rw[if_neg (by simp;omega)]
    · rw[List.getElem?_eq_none (by simp;omega)]
section
variable (l:List S33)
def ul:List Int:=(List.range l.length).map (U l)
def kl (n:Nat):List (List Int):=(List.range l.length).map (pre l n)
theorem ul_len:(ul l).length=l.length:=by unfold ul;simp
theorem kl_len (n:Nat):(kl l n).length=l.length:=by unfold kl;simp
theorem kl_step (i:Nat) (hi:i<l.length) (h:up l i=true) (h0:0<i):(kl l i).set (U l i).toNat (pre l i (U l i).toNat++[(i:Int)])=kl l (i+1):=by
  have hb:=up_bd h
  unfold kl
  refine set_range _ _ _ _ ?_ ?_
  · simp only[pre]
    rw[if_pos (by omega)]
  · intro j hj hne
    simp only[pre]
    rw[if_neg (by omega),List.append_nil]
theorem kl_first (h:0<l.length) (h0:up l 0=true):kl l 1=kl l 0:=by
  unfold kl
  refine List.map_congr_left (fun j _=>?_)
  have:=up_bd h0
  simp only[pre]
  rw[if_neg (by omega)]
  rfl
end
section
variable (l:List S33) (hl:l.length≤1000000)
include hl
theorem kin_l1 (i:Nat) (hi:i<l.length) (h0:0<i) (hus:ups l i) (r:List (List Int) × Bool) (hno:up l i=false→r=([],false))
    (hyes:up l i=true→Ev (fun k=>impl_kin.l0 k (ul l) (kl l (i+1)) (ul l) (l.length:Int) ((i+1:Nat):Int)) r) (a:Nat):a<i→hit l (U l i) a=up l i→
    Ev (fun k=>impl_kin.l1 k (ul l) (kl l i) (i:Int) (U l i) (a:Int) (ul l) (l.length:Int) (i:Int)) r:=by
  induction a using Nat.strongRecOn with
  |_ a ih=>
    intro ha hh
    have hbd:=up_bd (hus a ha)
    have hw:wrap64 ((i:Int)+1)=((i+1:Nat):Int):=by rw[w64 (by omega) (by omega)];omega
    unfold hit at hh
    by_cases c:(a:Int)=U l i
    · rw[if_pos c] at hh
      have hr:=rd_rangeL (L:=l.length) (pre l i) (U l i).toNat (by omega)
      rw[show (((U l i).toNat:Nat):Int)=U l i by omega] at hr
      have hk:rd_L4 (kl l i) (U l i)=pre l i (U l i).toNat:=hr
      have hpl:=pre_len (l:=l) i (U l i).toNat
      refine Ev.step (f:=fun k=>impl_kin.l0 k (ul l) (kl l (i+1)) (ul l) (l.length:Int) ((i+1:Nat):Int)) (fun k=>?_) (hyes hh.symm)
      simp only[impl_kin.l1]
      rw[if_pos (show(a:Int)≥0 by omega),if_pos c,if_neg (show ¬(a:Int)<0 by omega),if_pos (show(0:Int)≤U l i by omega),kl_len,if_pos (show U l i<(l.length:Int) by omega),hk,if_pos (by omega),kl_step l i hi hh.symm h0,hw]
    · rw[if_neg c] at hh
      have hr:=rd_range (L:=l.length) (U l) a (by omega)
      have hk:rd (ul l) (a:Int)=U l a:=hr
      refine Ev.step (f:=fun k=>impl_kin.l1 k (ul l) (kl l i) (i:Int) (U l i) (U l a) (ul l) (l.length:Int) (i:Int)) (fun k=>?_) ?_
      · simp only[impl_kin.l1]
        rw[if_pos (show(a:Int)≥0 by omega),if_neg c,if_pos (show(0:Int)≤(a:Int) by omega),ul_len,if_pos (show(a:Int)<(l.length:Int) by omega),hk]
      · by_cases h:0≤U l a∧U l a<a
        · rw[dif_pos h] at hh
          have:=ih (U l a).toNat (by omega) (by omega) hh
          rw[show (((U l a).toNat:Nat):Int)=U l a by omega] at this
          exact this
        · rw[dif_neg h] at hh
          rw[hno hh.symm]
          refine Ev.step (f:=fun _=>some ([],false)) (fun k=>?_) (Ev.now _)
          simp only[impl_kin.l1]
          rw[if_neg (by omega),if_pos (by omega)]
def upFrom (l:List S33):Nat→Nat→Bool
  |0,_=>true
  |d+1,i=>up l i && upFrom l d (i+1)
theorem kin_l0 (d:Nat):∀ i:Nat,i+d=l.length→ups l i→Ev (fun k=>impl_kin.l0 k (ul l) (kl l i) (ul l) (l.length:Int) (i:Int)) (if upFrom l d i=true then (kl l l.length,true) else ([],false)):=by
  induction d with
  |zero=>
    intro i hi _
    obtain rfl:i=l.length:=by omega
    refine Ev.step (f:=fun _=>some (kl l l.length,true)) (fun k=>?_) (Ev.now _)
    simp only[impl_kin.l0]
    rw[if_neg (by omega)]
  |succ d ih=>
    intro i hi hus
    have hil:i<l.length:=by omega
    have hk:rd (ul l) (i:Int)=U l i:=rd_range (L:=l.length) (U l) i hil
    have hw:wrap64 ((i:Int)+1)=((i+1:Nat):Int):=by rw[w64 (by omega) (by omega)];omega
    have next:up l i=true→Ev (fun k=>impl_kin.l0 k (ul l) (kl l (i+1)) (ul l) (l.length:Int) ((i+1:Nat):Int)) (if upFrom l d (i+1)=true then (kl l l.length,true) else ([],false)):=fun h=>ih (i+1) (by omega) (fun j hj=>by
      by_cases e:j=i
      · rw[e];exact h
      · exact hus j (by omega))
    by_cases c:i=0
    · subst c
      by_cases h:U l 0=-1
      · have hup:up l 0=true:=by unfold up;rw[if_pos rfl];simpa using h
        have n2:=next hup
        rw[show upFrom l (d+1) 0=upFrom l d (0+1) by rw[upFrom,hup,Bool.true_and]]
        refine Ev.step (fun k=>?_) n2
        simp only[impl_kin.l0]
        rw[if_pos (show((0:Nat):Int)<(l.length:Int) by omega),if_pos (show(0:Int)≤((0:Nat):Int) by omega),ul_len,if_pos (show((0:Nat):Int)<(l.length:Int) by omega),if_pos (show((0:Nat):Int)=0 from rfl),hk,if_pos h,hw,←kl_first l hil hup]
      · have hup:up l 0=false:=by unfold up;rw[if_pos rfl];simpa using h
        rw[show upFrom l (d+1) 0=false by rw[upFrom,hup,Bool.false_and],if_neg (by decide)]
        refine Ev.step (f:=fun _=>some ([],false)) (fun k=>?_) (Ev.now _)
        simp only[impl_kin.l0]
        rw[if_pos (show((0:Nat):Int)<(l.length:Int) by omega),if_pos (show(0:Int)≤((0:Nat):Int) by omega),ul_len,if_pos (show((0:Nat):Int)<(l.length:Int) by omega),if_pos (show((0:Nat):Int)=0 from rfl),hk,if_neg h]
    · have hup:hit l (U l i) (i - 1)=up l i:=by unfold up;rw[if_neg c]
      refine Ev.step (f:=fun k=>impl_kin.l1 k (ul l) (kl l i) (i:Int) (U l i) ((i:Int) - 1) (ul l) (l.length:Int) (i:Int)) (fun k=>?_) ?_
      · simp only[impl_kin.l0]
        rw[if_pos (show(i:Int)<(l.length:Int) by omega),if_pos (show(0:Int)≤(i:Int) by omega),ul_len,if_pos (show(i:Int)<(l.length:Int) by omega),if_neg (by omega),hk,w64 (n:=(i:Int) - 1) (by omega) (by omega)]
      · have:=kin_l1 l hl i hil (by omega) hus (if upFrom l (d+1) i=true then (kl l l.length,true) else ([],false)) (fun h=>by rw[upFrom,h,Bool.false_and,if_neg (by decide)]) (fun h=>by rw[upFrom,h,Bool.true_and];exact next h) (i - 1) (by omega) hup
        rw[show (((i - 1:Nat):Nat):Int)=(i:Int) - 1 by omega] at this
        exact this
theorem kin_ok:Ev (fun k=>impl_kin.f k (ul l)) (if upFrom l l.length 0=true then (kl l l.length,true) else ([],false)):=by
  have:=kin_l0 l hl l.length 0 (by omega) (fun j hj=>by omega)
  refine Ev.congr (fun k=>?_) this
  unfold impl_kin.f
  rw[ul_len,if_pos (by omega),if_pos (by simp;omega),Int.toNat_natCast]
  have e:List.replicate l.length ([]:List Int)=kl l 0:=by
    apply List.ext_getElem?
    intro j
    by_cases hj:j<l.length
    · simp[kl,pre,hj]
    · rw[List.getElem?_eq_none (by simp;omega),List.getElem?_eq_none (by rw[kl_len];omega)]
  rw[e]
  rfl
end
end Go.Proofs.YtoeenmajdidfoaaDoor.Ty
