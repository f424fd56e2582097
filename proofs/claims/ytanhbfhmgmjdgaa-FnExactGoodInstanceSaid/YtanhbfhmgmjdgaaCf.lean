/- Instructions: both texts know the same forms. -/
import Derived.Test.YtanhbfhmgmjdgaaMb
import Derived.Test.YtanhbfhmgmjdgaaQx15
import Derived.Test.YtanhbfhmgmjdgaaQx1
import Derived.Test.YtanhbfhmgmjdgaaQx16
import Derived.Test.YtanhbfhmgmjdgaaQx3
import Derived.Test.YtanhbfhmgmjdgaaQx2
namespace Go.Proofs.Ytanhbfhmgmjdgaa.Ins
open Go.RowKit Go.Proofs.Ytanhbfhmgmjdgaa.Q Go.Proofs.YtanhbfhmgmjdgaaW.PrintWords Go.Proofs.YtanhbfhmgmjdgaaW.PrintLast Go.Proofs.YtanhbfhmgmjdgaaW.PrintMore Go.Proofs.Ytanhbfhmgmjdgaa.Mb
set_option linter.unusedSimpArgs false
set_option linter.unusedVariables false
/-- The form of what an instruction of one byte has beside it. -/
def fo (x:Int):Int:=(impl_formOf.f 9 x).getD 0
theorem fo_all:∀ x:Fin 256,impl_formOf.f 9 ((x.val:Nat):Int)=some (fo ((x.val:Nat):Int))∧spec_l6Shape.f 9 ((x.val:Nat):Int)=some (fo ((x.val:Nat):Int) - 1)∧0≤fo ((x.val:Nat):Int)∧fo ((x.val:Nat):Int)≤7:=by decide+kernel
theorem fo_ok {x:Int} (h0:0≤x) (h1:x≤255) {k:Nat} (hk:9≤k):impl_formOf.f k x=some (fo x)∧spec_l6Shape.f k x=some (fo x - 1)∧0≤fo x∧fo x≤7:=by
  obtain⟨n,rfl⟩:=Int.eq_ofNat_of_zero_le h0
  have h:=fo_all ⟨n,by omega⟩
  exact⟨at_rounds (g:=fun k=>impl_formOf.f k (n:Int)) (fun k=>impl_formOf.mono _ k) hk h.1,at_rounds (g:=fun k=>spec_l6Shape.f k (n:Int)) (fun k=>spec_l6Shape.mono _ k) hk h.2.1,h.2.2⟩
theorem fo_out {x:Int} (h:x<0∨255<x):impl_formOf.f 9 x=some 0∧spec_l6Shape.f 9 x=some (-1):=by
  have hn:¬x=0∧¬x=1∧¬x=2∧¬x=3∧¬x=4∧¬x=5∧¬x=11∧¬x=12∧¬x=13∧¬x=15∧¬x=16∧¬x=26∧¬x=27∧¬x=32∧¬x=33∧¬x=34∧¬x=35∧¬x=36∧¬x=40∧¬x=41∧¬x=54∧¬x=55∧¬x=63∧¬x=64∧¬x=65∧¬x=66∧¬x=67∧¬x=176∧¬x=177∧¬x=178∧¬x=179∧¬x=180:=by omega
  obtain⟨n0,n1,n2,n3,n4,n5,n11,n12,n13,n15,n16,n26,n27,n32,n33,n34,n35,n36,n40,n41,n54,n55,n63,n64,n65,n66,n67,n176,n177,n178,n179,n180⟩:=hn
  rcases h with h|h
  · constructor
    · simp[impl_formOf.f,impl_formOf.j0,impl_formOf.j1,impl_formOf.j2,impl_formOf.j3,n0,n1,n2,n3,n4,n5,n11,n12,n13,n15,n16,n26,n27,n32,n33,n34,n35,n36,n40,n41,n54,n55,n63,n64,n65,n66,n67,n176,n177,n178,n179,n180,show ¬96<x by omega,show ¬128<x by omega,show ¬160<x by omega]
    · simp[spec_l6Shape.f,spec_l6Shape.j0,spec_l6Shape.j1,spec_l6Shape.j2,spec_l6Shape.j3,spec_l1In.f,n0,n1,n2,n3,n4,n5,n11,n12,n13,n15,n16,n26,n27,n32,n33,n34,n35,n36,n40,n41,n54,n55,n63,n64,n65,n66,n67,n176,n177,n178,n179,n180,show ¬97≤x by omega,show ¬129≤x by omega,show ¬161≤x by omega]
  · constructor
    · simp[impl_formOf.f,impl_formOf.j0,impl_formOf.j1,impl_formOf.j2,impl_formOf.j3,n0,n1,n2,n3,n4,n5,n11,n12,n13,n15,n16,n26,n27,n32,n33,n34,n35,n36,n40,n41,n54,n55,n63,n64,n65,n66,n67,n176,n177,n178,n179,n180,show 96<x by omega,show 128<x by omega,show 160<x by omega,show ¬x≤123 by omega,show ¬x≤155 by omega,show ¬x≤169 by omega]
    · simp[spec_l6Shape.f,spec_l6Shape.j0,spec_l6Shape.j1,spec_l6Shape.j2,spec_l6Shape.j3,spec_l1In.f,n0,n1,n2,n3,n4,n5,n11,n12,n13,n15,n16,n26,n27,n32,n33,n34,n35,n36,n40,n41,n54,n55,n63,n64,n65,n66,n67,n176,n177,n178,n179,n180,show ¬x≤123 by omega,show ¬x≤155 by omega,show ¬x≤169 by omega]
theorem fo_any (x:Int) {k:Nat} (hk:9≤k):impl_formOf.f k x=some (fo x)∧spec_l6Shape.f k x=some (fo x - 1)∧0≤fo x∧fo x≤7:=by
  by_cases h:0≤x∧x≤255
  · exact fo_ok h.1 h.2 hk
  · have h1:=fo_out (show x<0∨255<x by omega)
    have e:fo x=0:=by unfold fo;rw[h1.1];rfl
    rw[e]
    exact⟨at_rounds (g:=fun k=>impl_formOf.f k x) (fun k=>impl_formOf.mono _ k) hk h1.1,at_rounds (g:=fun k=>spec_l6Shape.f k x) (fun k=>spec_l6Shape.mono _ k) hk h1.2,by decide,by decide⟩
theorem in_ok (a x y:Int):spec_l1In.f a x y=some (decide (x≤a∧a≤y)):=by
  unfold spec_l1In.f
  by_cases c:a≥x
  · rw[if_pos c];congr 2;exact propext ⟨fun h=>⟨c,h⟩,fun h=>h.2⟩
  · rw[if_neg c,decide_eq_false (fun h=>c h.1)]
theorem ev_yes {α:Type} {c:Prop} [Decidable c] (hc:c) {f g:Nat→Option α} {r:α} (h:Ev f r):Ev (fun k=>if c then f k else g k) r:=by
  obtain⟨K,e⟩:=h
  exact⟨K,fun k hk=>(if_pos hc).trans (e k hk)⟩
theorem ev_no {α:Type} {c:Prop} [Decidable c] (hc:¬c) {f g:Nat→Option α} {r:α} (h:Ev g r):Ev (fun k=>if c then f k else g k) r:=by
  obtain⟨K,e⟩:=h
  exact⟨K,fun k hk=>(if_neg hc).trans (e k hk)⟩
/-- What may stand beside an instruction of a form. -/
def gi (f a:Int):Bool:=if f=1 then a==0 else if f=2 then (decide (125≤a∧a≤127) ||a==64) else if f=3 then decide (0≤a∧a≤1000) else if f=4 then decide (0≤a∧a≤10000) else if f=5 then decide (-2147483648≤a∧a≤2147483647) else if f=6 then true else if f=7 then decide (0≤a∧a≤4294967295) else false
theorem gi_spec (x:Int) (a:Int) {k:Nat} (hk:9≤k):spec_GoodIns.f k x a=some (gi (fo x) a):=by
  obtain⟨-,h,f0,f1⟩:=fo_any x hk
  unfold spec_GoodIns.f spec_l6Type.f
  rw[h]
  simp only[Option.bind_some,in_ok]
  generalize fo x=f at*
  have hf:f=0∨f=1∨f=2∨f=3∨f=4∨f=5∨f=6∨f=7:=by omega
  rcases hf with e|e|e|e|e|e|e|e<;>subst e<;>simp[gi]
  by_cases c:125≤a∧a≤127<;>simp[c]
theorem ge_and (a y:Int) (x:Int):(if a≥x then some (decide (a≤y)) else some false)=some (decide (x≤a∧a≤y)):=in_ok a x y
theorem ge_lt (a y:Int) (x:Int):(if a≥x then some (decide (a<y+1)) else some false)=some (decide (x≤a∧a≤y)):=by
  rw[←ge_and]
  congr 2
  congr 1
  exact propext ⟨fun h=>by omega,fun h=>by omega⟩
theorem good_type (a:Int):impl_goodType.f a=some (decide (125≤a∧a≤127)):=by
  unfold impl_goodType.f
  by_cases c:a=127
  · rw[if_pos c,decide_eq_true (by omega)]
  · rw[if_neg c]
    by_cases c2:a=126
    · rw[if_pos c2,decide_eq_true (by omega)]
    · rw[if_neg c2]
      by_cases c3:a=125
      · rw[beq_iff_eq.2 c3,decide_eq_true (by omega)]
      · rw[beq_eq_false_iff_ne.2 c3,decide_eq_false (by omega)]
theorem gi_impl (x:Int) (a:Int) {k:Nat} (hk:9≤k):impl_GoodIns.f k x a=some (gi (fo x) a):=by
  obtain⟨h,-,f0,f1⟩:=fo_any x hk
  unfold impl_GoodIns.f
  rw[h]
  have e5:=ge_lt a 2147483647 (-2147483648)
  have e7:=ge_lt a 4294967295 0
  rw[show (2147483647+1:Int)=2147483648 by decide] at e5
  rw[show (4294967295+1:Int)=4294967296 by decide] at e7
  simp only[Option.bind_some,ge_and,good_type,e5,e7]
  generalize fo x=f at*
  have hf:f=0∨f=1∨f=2∨f=3∨f=4∨f=5∨f=6∨f=7:=by omega
  rcases hf with e|e|e|e|e|e|e|e<;>subst e<;>simp[gi]
  by_cases c:125≤a∧a≤127<;>simp[c]
def isO (x:Int):Bool:=x==2 ||(x==3 ||x==4)
theorem opens_ok (x:Int):impl_opens.f x=some (isO x):=by
  unfold impl_opens.f isO
  by_cases c2:x=2
  · rw[if_pos c2,show (x==2)=true from beq_iff_eq.2 c2];rfl
  · rw[if_neg c2,show (x==2)=false from beq_eq_false_iff_ne.2 c2]
    by_cases c3:x=3
    · rw[if_pos c3,show (x==3)=true from beq_iff_eq.2 c3];rfl
    · rw[if_neg c3,show (x==3)=false from beq_eq_false_iff_ne.2 c3];rfl
def Ok (n j:Nat) (ins:List (List Int)):Prop:=∀ x∈ins,x.length≤j∧∀ y∈x,0≤y∧y<(n:Int)
theorem Ok.mono {n j j2:Nat} {ins:List (List Int)} (h:Ok n j ins) (hj:j≤j2):Ok n j2 ins:=fun x hx=>⟨Nat.le_trans (h x hx).1 hj,(h x hx).2⟩
theorem Ok.take {n j:Nat} {ins:List (List Int)} (h:Ok n j ins) (m:Nat):Ok n j (ins.take m):=fun x hx=>h x (List.mem_of_mem_take hx)
theorem Ok.push {n j:Nat} {ins:List (List Int)} (h:Ok n j ins) (i:Nat) (hi:i<n) (hj:1≤j):Ok n j (ins++[[(i:Int)]]):=fun x hx=>by
  rcases List.mem_append.1 hx with hx|hx
  · exact h x hx
  · rw[List.mem_singleton] at hx
    subst hx
    refine⟨hj,fun y hy=>?_⟩
    rw[List.mem_singleton] at hy
    subst hy;omega
theorem rdL2 (ins:List (List Int)) (t:Nat) (ht:t<ins.length):rd_L2 ins (t:Int)=ins[t]:=by
  unfold rd_L2
  rw[Int.toNat_natCast,List.getD_eq_getElem?_getD,List.getElem?_eq_getElem ht]
  rfl
theorem Ok.add {n j:Nat} {ins:List (List Int)} (h:Ok n j ins) (t:Nat) (ht:t<ins.length) (i:Nat) (hi:i<n):Ok n (j+1) (ins.set t (rd_L2 ins (t:Int)++[(i:Int)])):=fun x hx=>by
  rcases List.mem_or_eq_of_mem_set hx with hx|hx
  · exact⟨by have:=(h x hx).1;omega,(h x hx).2⟩
  · subst hx
    have h1:=h ins[t] (List.getElem_mem ht)
    rw[rdL2 ins t ht]
    refine⟨by rw[List.length_append,List.length_singleton];omega,fun y hy=>?_⟩
    rcases List.mem_append.1 hy with hy|hy
    · exact h1.2 y hy
    · rw[List.mem_singleton] at hy;subst hy;omega
theorem l1_run (l:List S103) (n:Nat) (mo i x12:Int) (op:List Int) (el:List Bool) (ins:List (List Int)) (x33:Int) (xs:List Int) (hx:∀ y∈xs,0≤y∧y<(n:Int)) (hxl:xs.length≤1000000) (h12:0≤x12) (h7:x12≤(op.length:Int)) (h8:x12≤(el.length:Int)) (h9:x12≤(ins.length:Int)) (R:List Int × Int × Bool) (d:Nat):
    ∀ (t:Nat) (out:List Int),t+d=xs.length→out.length=n→Ev (fun k=>spec_l6Ends.l0 k ((xs.drop t).foldl (fun o y=>o.set y.toNat i) out) mo (op.take x12.toNat) (el.take x12.toNat) (ins.take x12.toNat) l (l.length:Int) (wrap64 (x33+1))) R→
    Ev (fun k=>spec_l6Ends.l1 k out mo op el ins i x12 l (l.length:Int) x33 xs (xs.length:Int) (t:Int)) R:=by
  induction d with
  |zero=>
    intro t out ht ho hR
    rw[List.drop_of_length_le (by omega),List.foldl_nil] at hR
    refine Ev.step (fun k=>?_) hR
    rw[spec_l6Ends.l1,if_neg (by omega),if_pos h12,if_pos h7,if_pos h8,if_pos h9]
  |succ d ih=>
    intro t out ht ho hR
    have hlt:t<xs.length:=by omega
    have e:rd xs (t:Int)=xs[t]:=by
      unfold rd
      rw[Int.toNat_natCast,List.getD_eq_getElem?_getD,List.getElem?_eq_getElem hlt]
      rfl
    have hy:=hx xs[t] (List.getElem_mem hlt)
    rw[List.drop_eq_getElem_cons hlt,List.foldl_cons] at hR
    refine Ev.step (fun k=>?_) (ih (t+1) (out.set xs[t].toNat i) (by omega) (by rw[List.length_set];exact ho) hR)
    rw[spec_l6Ends.l1,if_pos (by omega),if_pos (by omega),if_pos (by omega),e,if_pos hy.1,if_pos (by omega),w64 (n:=(t:Int)+1) (by omega) (by omega)]
    rfl
theorem fold_len (xs:List Int) (i:Int):∀ out:List Int,(xs.foldl (fun o y=>o.set y.toNat i) out).length=out.length:=by
  induction xs with
  |nil=>intro out;rfl
  |cons x xs ih=>intro out;rw[List.foldl_cons,ih,List.length_set]
theorem rdO (l:List S103) (j:Nat) (hlt:j<l.length):rd_T103 l (j:Int)=l[j]:=by
  unfold rd_T103
  rw[Int.toNat_natCast,List.getD_eq_getElem?_getD,List.getElem?_eq_getElem hlt]
  rfl
theorem rdB (el:List Bool) (t:Nat) (ht:t<el.length):rdOf false el (t:Int)=el[t]:=by
  unfold rdOf
  rw[Int.toNat_natCast,List.getD_eq_getElem?_getD,List.getElem?_eq_getElem ht]
  rfl
theorem rdN (ar:List Int) (t:Nat) (ht:t<ar.length):rd ar (t:Int)=ar[t]:=by
  unfold rd
  rw[Int.toNat_natCast,List.getD_eq_getElem?_getD,List.getElem?_eq_getElem ht]
  rfl
/-- Block by block: both find a body, as deep as each other, or neither does. -/
theorem ends_same (l:List S103) (hl:l.length≤1000) (d:Nat):∀ (j:Nat) (ar:List Int) (mo:Int) (op:List Int) (ins:List (List Int)) (out:List Int),
    j+d=l.length→op.length=ar.length→ins.length=ar.length→out.length=l.length→Ok l.length j ins→ar.length≤j+1→1≤mo→
    ∃ (m:Int) (o2:List Int) (m2:Int) (b:Bool),Ev (fun k=>impl_deepest.l0 k ar mo l (l.length:Int) (j:Int)) m∧Ev (fun k=>spec_l6Ends.l0 k out mo op (ar.map (fun o=>o !=4)) ins l (l.length:Int) (j:Int)) (o2,m2,b)∧(b=true→m=m2∧1≤m)∧(b=false→m=0):=by
  induction d with
  |zero=>
    intro j ar mo op ins out hj ho hi hout hok har hmo
    refine⟨if (ar.length:Int) > 0 then 0 else mo,out,mo,(op.length:Int)==0,?_,?_,?_,?_⟩
    · refine Ev.step (f:=fun _=>some (if (ar.length:Int) > 0 then 0 else mo)) (fun k=>?_) (Ev.now _)
      rw[impl_deepest.l0,if_neg (by omega)]
      split<;>rfl
    · refine Ev.step (f:=fun _=>some (out,mo,(op.length:Int)==0)) (fun k=>?_) (Ev.now _)
      rw[spec_l6Ends.l0,if_neg (by omega)]
    · intro hb
      have:=beq_iff_eq.1 hb
      rw[if_neg (by omega)]
      exact⟨rfl,hmo⟩
    · intro hb
      have:=beq_eq_false_iff_ne.1 hb
      rw[if_pos (by omega)]
  |succ d ih=>
    intro j ar mo op ins out hj ho hi hout hok har hmo
    have hlt:j<l.length:=by omega
    have e1:wrap64 ((j:Int)+1)=((j+1:Nat):Int):=w64 (by omega) (by omega)
    generalize hx:l[j].f0=x
    generalize hx1:l[j].f1=xa
    by_cases h0:ar.length=0
    · refine⟨0,[],0,false,?_,?_,fun h=>absurd h (by decide),fun _=>rfl⟩
      · refine Ev.step (f:=fun _=>some 0) (fun k=>?_) (Ev.now _)
        rw[impl_deepest.l0,if_pos (by omega),if_pos (by omega),if_pos (by omega),if_pos (by omega)]
      · refine Ev.step (f:=fun _=>some ([],0,false)) (fun k=>?_) (Ev.now _)
        rw[spec_l6Ends.l0,if_pos (by omega),if_pos (by omega),if_pos (by omega),w64 (n:=(op.length:Int) - 1) (by omega) (by omega),if_pos (by omega)]
    · obtain⟨t,ht⟩:∃ t,ar.length=t+1:=⟨ar.length - 1,by omega⟩
      have etop:wrap64 ((op.length:Int) - 1)=(t:Int):=by rw[w64 (by omega) (by omega)];omega
      have etopA:wrap64 ((ar.length:Int) - 1)=(t:Int):=by rw[w64 (by omega) (by omega)];omega
      have hl0:∀ k,spec_l6Ends.l0 (k+1) out mo op (ar.map (fun o=>o !=4)) ins l (l.length:Int) (j:Int)=spec_l6Ends.j2 k out mo op (ar.map (fun o=>o !=4)) ins (j:Int) (t:Int) l (l.length:Int) (j:Int) x (isO x) x xa:=by
        intro k
        rw[spec_l6Ends.l0,if_pos (by omega),if_pos (by omega),if_pos (by omega),etop,if_neg (by omega),rdO l j hlt,hx,hx1]
        unfold isO
        by_cases c2:x=2
        · rw[if_pos c2,show (x==2)=true from beq_iff_eq.2 c2];rfl
        · rw[if_neg c2,show (x==2)=false from beq_eq_false_iff_ne.2 c2]
          by_cases c3:x=3
          · rw[if_pos c3,show (x==3)=true from beq_iff_eq.2 c3];rfl
          · rw[if_neg c3,show (x==3)=false from beq_eq_false_iff_ne.2 c3];rfl
      have hel:(ar.map (fun o=>o !=4)).length=t+1:=by rw[List.length_map,ht]
      have hin:(rd_L2 ins (t:Int)).length<17592186044416:=by
        rw[rdL2 ins t (by omega)]
        have:=(hok ins[t] (List.getElem_mem _)).1
        omega
      cases hop:isO x with
      |true=>
        rw[hop] at hl0
        obtain⟨m,o2,m2,b,h1,h2,h3,h4⟩:=ih (j+1) (ar++[x]) (mx mo ((t+2:Nat):Int)) (op++[(j:Int)]) (ins++[[(j:Int)]]) out (by omega) (by simp;omega) (by simp;omega) hout ((hok.mono (Nat.le_succ j)).push j hlt (by omega)) (by simp;omega) (by unfold mx;split<;>omega)
        refine⟨m,o2,m2,b,?_,?_,h3,h4⟩
        · refine Ev.step (fun k=>?_) h1
          rw[impl_deepest.l0,if_pos (by omega),if_pos (by omega),if_pos (by omega),if_neg (by omega),rdO l j hlt,hx,opens_ok,hop,Option.bind_some,if_pos rfl,if_pos (by omega),Option.bind_some,e1,List.length_append,List.length_singleton,ht]
        · have e2:(ar++[x]).map (fun o=>o !=4)=ar.map (fun o=>o !=4)++[(x !=4)]:=by rw[List.map_append];rfl
          rw[e2] at h2
          refine Ev.step hl0 (Ev.step (fun k=>?_) h2)
          rw[spec_l6Ends.j2,if_pos rfl,if_pos (by omega)]
          simp only[Option.bind_some]
          rw[if_pos (by rw[hel];omega),if_pos (by omega),e1,List.length_append,List.length_singleton,ho,ht]
          unfold mx
          by_cases c:((t+1+1:Nat):Int) > mo
          · rw[if_pos c,if_pos (show mo<((t+2:Nat):Int) from c)]
          · rw[if_neg c,if_neg (show ¬mo<((t+2:Nat):Int) from c)]
      |false=>
        rw[hop] at hl0
        have hI:∀ k,impl_deepest.l0 (k+1) ar mo l (l.length:Int) (j:Int)=(if x=5 then (if rd ar (t:Int)=4 then (impl_deepest.l0 k (ar.set t 5) mo l (l.length:Int) ((j+1:Nat):Int)) else (some 0)) else (if x=11 then (impl_deepest.l0 k (ar.take t) mo l (l.length:Int) ((j+1:Nat):Int)) else (impl_deepest.l0 k ar mo l (l.length:Int) ((j+1:Nat):Int)))):=by
          intro k
          rw[impl_deepest.l0,if_pos (by omega),if_pos (by omega),if_pos (by omega),if_neg (by omega),rdO l j hlt,hx,opens_ok,hop,Option.bind_some,if_neg (by decide),etopA,e1,Int.toNat_natCast]
          by_cases c5:x=5
          · rw[if_pos c5,if_pos c5,if_pos (by omega),if_pos (by omega)]
          · rw[if_neg c5,if_neg c5]
            by_cases c11:x=11
            · rw[if_pos c11,if_pos c11,if_pos (by omega),if_pos (by omega)]
            · rw[if_neg c11,if_neg c11]
        -- behind the block's own check
        have hj3:∀ (el:List Bool) (ar2:List Int),el=ar2.map (fun o=>o !=4)→ar2.length=ar.length→x≠11→
            ∃ (m:Int) (o2:List Int) (m2:Int) (b:Bool),Ev (fun k=>impl_deepest.l0 k ar2 mo l (l.length:Int) ((j+1:Nat):Int)) m∧Ev (fun k=>spec_l6Ends.j3 k out mo op el ins (j:Int) (t:Int) l (l.length:Int) (j:Int) x xa) (o2,m2,b)∧(b=true→m=m2∧1≤m)∧(b=false→m=0):=by
          intro el ar2 hel2 hlen hne
          obtain⟨m,o2,m2,b,h1,h2,h3,h4⟩:=ih (j+1) ar2 mo op (ins.set t (rd_L2 ins (t:Int)++[(j:Int)])) out (by omega) (by omega) (by rw[List.length_set];omega) hout (hok.add t (by omega) j hlt) (by omega) hmo
          refine⟨m,o2,m2,b,h1,?_,h3,h4⟩
          rw[←hel2] at h2
          refine Ev.step (fun k=>?_) h2
          rw[spec_l6Ends.j3,if_pos (by omega),if_pos (by omega),if_pos hin]
          simp only[Option.bind_some]
          rw[if_neg hne,Int.toNat_natCast,e1]
        by_cases c5:x=5
        · by_cases c4:rd ar (t:Int)=4
          · have hset:(ar.map (fun o=>o !=4)).set t true=(ar.set t 5).map (fun o=>o !=4):=by rw[List.map_set];rfl
            obtain⟨m,o2,m2,b,h1,h2,h3,h4⟩:=hj3 _ (ar.set t 5) hset (by rw[List.length_set]) (by omega)
            refine⟨m,o2,m2,b,Ev.step (fun k=>by rw[hI k,if_pos c5,if_pos c4]) h1,Ev.step hl0 (Ev.step (fun k=>?_) h2),h3,h4⟩
            rw[spec_l6Ends.j2,if_neg (by decide),if_pos c5,if_pos (by omega),if_pos (by rw[hel];omega),rdB _ t (by omega),Int.toNat_natCast]
            rw[if_neg]
            rw[List.getElem_map,←rdN ar t (by omega),c4]
            decide
          · refine⟨0,[],0,false,Ev.step (f:=fun _=>some 0) (fun k=>by rw[hI k,if_pos c5,if_neg c4]) (Ev.now _),Ev.step hl0 (Ev.step (f:=fun _=>some ([],0,false)) (fun k=>?_) (Ev.now _)),fun h=>absurd h (by decide),fun _=>rfl⟩
            rw[spec_l6Ends.j2,if_neg (by decide),if_pos c5,if_pos (by omega),if_pos (by rw[hel];omega),rdB _ t (by omega)]
            rw[if_pos]
            rw[List.getElem_map,←rdN ar t (by omega)]
            exact bne_iff_ne.2 c4
        · by_cases c11:x=11
          · obtain⟨m,o2,m2,b,h1,h2,h3,h4⟩:=ih (j+1) (ar.take t) mo (op.take t) ((ins.set t (rd_L2 ins (t:Int)++[(j:Int)])).take t) ((rd_L2 ins (t:Int)++[(j:Int)]).foldl (fun o y=>o.set y.toNat (j:Int)) out) (by omega) (by rw[List.length_take,List.length_take];omega) (by rw[List.length_take,List.length_take,List.length_set];omega) (by rw[fold_len];exact hout) ((hok.add t (by omega) j hlt).take t) (by rw[List.length_take];omega) hmo
            refine⟨m,o2,m2,b,Ev.step (fun k=>by rw[hI k,if_neg c5,if_pos c11]) h1,?_,h3,h4⟩
            rw[List.map_take] at h2
            have hokx:=(hok.add t (by omega) j hlt) (rd_L2 ins (t:Int)++[(j:Int)]) (List.mem_iff_getElem.2 ⟨t,by rw[List.length_set];omega,by rw[List.getElem_set_self]⟩)
            have hrun:=l1_run l l.length mo (j:Int) (t:Int) op (ar.map (fun o=>o !=4)) (ins.set t (rd_L2 ins (t:Int)++[(j:Int)])) (j:Int) (rd_L2 ins (t:Int)++[(j:Int)]) hokx.2 (by omega) (by omega) (by omega) (by rw[hel];omega) (by rw[List.length_set];omega) (o2,m2,b) _ 0 out (Nat.zero_add _) hout (by rw[List.drop_zero,Int.toNat_natCast,e1];exact h2)
            refine Ev.step hl0 (Ev.step (f:=fun k=>spec_l6Ends.j3 k out mo op (ar.map (fun o=>o !=4)) ins (j:Int) (t:Int) l (l.length:Int) (j:Int) x xa) (fun k=>by rw[spec_l6Ends.j2,if_neg (by decide),if_neg c5]) (Ev.step (fun k=>?_) hrun))
            rw[spec_l6Ends.j3,if_pos (by omega),if_pos (by omega),if_pos hin]
            simp only[Option.bind_some]
            rw[if_pos c11,Int.toNat_natCast,rdL2 (ins.set t _) t (by rw[List.length_set];omega),List.getElem_set_self]
            rfl
          · obtain⟨m,o2,m2,b,h1,h2,h3,h4⟩:=hj3 _ ar rfl rfl c11
            refine⟨m,o2,m2,b,Ev.step (fun k=>by rw[hI k,if_neg c5,if_neg c11]) h1,Ev.step hl0 (Ev.step (fun k=>?_) h2),h3,h4⟩
            rw[spec_l6Ends.j2,if_neg (by decide),if_neg c5]
/-! good code -/
def gcB (l:List S103):Bool:=l.all fun x=>gi (fo x.f0) x.f1
theorem good_l0S (l:List S103) (hl:l.length≤2000000) (d:Nat):∀ j:Nat,j+d=l.length→Ev (fun k=>spec_l6Good.l0 k l l (l.length:Int) (j:Int)) ((l.drop j).all (fun x=>gi (fo x.f0) x.f1) && decide ((l.length:Int)≤200)):=by
  induction d with
  |zero=>
    intro j hj
    refine Ev.step (f:=fun _=>some (decide ((l.length:Int)≤200))) (fun k=>by rw[spec_l6Good.l0,if_neg (by omega)]) ?_
    rw[List.drop_of_length_le (by omega)]
    exact Ev.now _
  |succ d ih=>
    intro j hj
    have hlt:j<l.length:=by omega
    have ih:=ih (j+1) (by omega)
    rw[List.drop_eq_getElem_cons hlt,List.all_cons,Bool.and_assoc]
    have e1:wrap64 ((j:Int)+1)=((j+1:Nat):Int):=w64 (by omega) (by omega)
    refine Ev.step (f:=fun k=>(spec_GoodIns.f k l[j].f0 l[j].f1).bind fun t145=>(if t145=true then (spec_l6Good.l0 k l l (l.length:Int) ((j+1:Nat):Int)) else (some false))) (fun k=>?_) ?_
    · rw[spec_l6Good.l0,if_pos (by omega),if_pos (by omega),if_pos (by omega),rdO l j hlt,e1]
    · refine Ev.bind (a:=gi (fo l[j].f0) l[j].f1) ⟨9,fun k hk=>gi_spec _ _ hk⟩ ?_
      cases gi (fo l[j].f0) l[j].f1 with
      |true=>rw[Bool.true_and];exact Ev.congr (fun k=>if_pos rfl) ih
      |false=>rw[Bool.false_and];exact Ev.congr (fun k=>if_neg (by decide)) (Ev.now _)
theorem good_l0I (l:List S103) (hl:l.length≤2000000) (d:Nat):∀ j:Nat,j+d=l.length→Ev (fun k=>impl_goodCode.l0 k l (l.length:Int) (j:Int)) ((l.drop j).all (fun x=>gi (fo x.f0) x.f1)):=by
  induction d with
  |zero=>
    intro j hj
    refine Ev.step (f:=fun _=>some true) (fun k=>by rw[impl_goodCode.l0,if_neg (by omega)]) ?_
    rw[List.drop_of_length_le (by omega)]
    exact Ev.now _
  |succ d ih=>
    intro j hj
    have hlt:j<l.length:=by omega
    have ih:=ih (j+1) (by omega)
    rw[List.drop_eq_getElem_cons hlt,List.all_cons]
    have e1:wrap64 ((j:Int)+1)=((j+1:Nat):Int):=w64 (by omega) (by omega)
    refine Ev.step (f:=fun k=>(impl_GoodIns.f k l[j].f0 l[j].f1).bind fun t145=>(if t145=true then (impl_goodCode.l0 k l (l.length:Int) ((j+1:Nat):Int)) else (some false))) (fun k=>?_) ?_
    · rw[impl_goodCode.l0,if_pos (by omega),if_pos (by omega),if_pos (by omega),rdO l j hlt,e1]
    · refine Ev.bind (a:=gi (fo l[j].f0) l[j].f1) ⟨9,fun k hk=>gi_impl _ _ hk⟩ ?_
      cases gi (fo l[j].f0) l[j].f1 with
      |true=>rw[Bool.true_and];exact Ev.congr (fun k=>if_pos rfl) ih
      |false=>rw[Bool.false_and];exact Ev.congr (fun k=>if_neg (by decide)) (Ev.now _)
theorem good_same (l:List S103) (hl:l.length≤2000000):∃ b:Bool,Ev (fun k=>impl_goodCode.f k l) b∧Ev (fun k=>spec_l6Good.f k l) b∧(b=true→l.length≤200):=by
  refine⟨(l.drop 0).all (fun x=>gi (fo x.f0) x.f1) && decide ((l.length:Int)≤200),?_,good_l0S l hl l.length 0 (by omega),fun h=>?_⟩
  · unfold impl_goodCode.f
    by_cases c:(l.length:Int) > 200
    · rw[decide_eq_false (by omega),Bool.and_false]
      exact Ev.congr (fun k=>if_pos c) (Ev.now _)
    · rw[decide_eq_true (by omega),Bool.and_true]
      exact Ev.congr (fun k=>if_neg c) (good_l0I l hl l.length 0 (by omega))
  · rw[Bool.and_eq_true] at h
    have:=of_decide_eq_true h.2
    omega
theorem body_same (l:List S103) (hl:l.length≤2000000):∃ (m:Int) (o2:List Int) (m2:Int) (b:Bool),Ev (fun k=>impl_deepest.f k l) m∧Ev (fun k=>spec_l6Ends.f k l) (o2,m2,b)∧(b=true→m=m2∧1≤m)∧(b=false→m=0):=by
  obtain⟨g,h1,h2,h3⟩:=good_same l hl
  unfold impl_deepest.f spec_l6Ends.f
  have no:∀ k,spec_l6Ends.j0 (k+1) l true=some ([],0,false):=fun k=>by rw[spec_l6Ends.j0,if_pos rfl]
  cases g with
  |false=>
    refine⟨0,[],0,false,Ev.bind h1 (Ev.congr (fun k=>if_neg (by decide)) (Ev.now _)),Ev.bind h2 ?_,fun h=>absurd h (by decide),fun _=>rfl⟩
    refine Ev.congr (f:=fun k=>spec_l6Ends.j0 k l true) (fun k=>if_neg (by decide)) ?_
    exact Ev.step (f:=fun _=>some ([],0,false)) no (Ev.now _)
  |true=>
    have hn:=h3 rfl
    obtain⟨m,o2,m2,b,e1,e2,e3,e4⟩:=ends_same l (by omega) l.length 0 [2] 1 [(-1)] [[]] (List.replicate l.length 0) (by omega) rfl rfl (by simp) (fun x hx=>by rw[List.mem_singleton] at hx;subst hx;exact⟨Nat.le_refl _,fun y hy=>by cases hy⟩) (by simp) (by omega)
    by_cases c:l.length=0
    · refine⟨0,[],0,false,Ev.bind h1 (Ev.congr (fun k=>if_pos rfl) ?_),Ev.bind h2 (Ev.congr (fun k=>if_pos rfl) ?_),fun h=>absurd h (by decide),fun _=>rfl⟩
      · refine Ev.step (f:=fun _=>some 0) (fun k=>?_) (Ev.now _)
        rw[impl_deepest.l0,if_neg (by omega),if_pos (by decide)]
      · refine Ev.congr (f:=fun k=>spec_l6Ends.j0 k l true) (fun k=>?_) (Ev.step (f:=fun _=>some ([],0,false)) no (Ev.now _))
        rw[show ((l.length:Int)==0)=true from beq_iff_eq.2 (by omega)]
    · refine⟨m,o2,m2,b,Ev.bind h1 (Ev.congr (fun k=>if_pos rfl) e1),Ev.bind h2 (Ev.congr (fun k=>if_pos rfl) ?_),e3,e4⟩
      refine Ev.step (fun k=>?_) e2
      rw[show ((l.length:Int)==0)=false from beq_eq_false_iff_ne.2 (by omega),spec_l6Ends.j0,if_neg (by decide),if_pos (by omega),if_pos (by omega),if_pos (by decide),Int.toNat_natCast]
      rfl
/-! good funcs -/
end Go.Proofs.Ytanhbfhmgmjdgaa.Ins
