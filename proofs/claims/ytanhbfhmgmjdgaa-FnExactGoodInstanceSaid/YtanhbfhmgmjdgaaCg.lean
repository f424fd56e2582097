/- Funcs: both texts take the same ones as good. -/
import Derived.Test.YtanhbfhmgmjdgaaCf
import Derived.Test.YtanhbfhmgmjdgaaQx16
import Derived.Test.YtanhbfhmgmjdgaaQx4
namespace Go.Proofs.Ytanhbfhmgmjdgaa.Ins
open Go.RowKit Go.Proofs.Ytanhbfhmgmjdgaa.Q Go.Proofs.YtanhbfhmgmjdgaaW.PrintWords Go.Proofs.YtanhbfhmgmjdgaaW.PrintLast Go.Proofs.YtanhbfhmgmjdgaaW.PrintMore Go.Proofs.Ytanhbfhmgmjdgaa.Mb
set_option linter.unusedSimpArgs false
set_option linter.unusedVariables false
def ty (a:Int):Bool:=decide (125≤a∧a≤127)
theorem types_l0S (l:List Int) (m:Int) (hl:l.length≤1000000000) (d:Nat):∀ j:Nat,j+d=l.length→Ev (fun k=>spec_l7Types.l0 k l m l (l.length:Int) (j:Int)) ((l.drop j).all ty && decide ((l.length:Int)≤m)):=by
  induction d with
  |zero=>
    intro j hj
    refine Ev.step (f:=fun _=>some (decide ((l.length:Int)≤m))) (fun k=>by rw[spec_l7Types.l0,if_neg (by omega)]) ?_
    rw[List.drop_of_length_le (by omega)]
    exact Ev.now _
  |succ d ih=>
    intro j hj
    have hlt:j<l.length:=by omega
    have ih:=ih (j+1) (by omega)
    rw[List.drop_eq_getElem_cons hlt,List.all_cons,Bool.and_assoc]
    have e1:wrap64 ((j:Int)+1)=((j+1:Nat):Int):=w64 (by omega) (by omega)
    refine Ev.step (f:=fun k=>(if ty l[j]=true then (spec_l7Types.l0 k l m l (l.length:Int) ((j+1:Nat):Int)) else (some false))) (fun k=>?_) ?_
    · rw[spec_l7Types.l0,if_pos (by omega),if_pos (by omega),if_pos (by omega),rdN l j hlt,e1,spec_l6Type.f,in_ok]
      rfl
    · cases ty l[j] with
      |true=>rw[Bool.true_and];exact Ev.congr (fun k=>if_pos rfl) ih
      |false=>rw[Bool.false_and];exact Ev.congr (fun k=>if_neg (by decide)) (Ev.now _)
theorem types_l0I (l:List Int) (hl:l.length≤1000000000) (d:Nat):∀ j:Nat,j+d=l.length→Ev (fun k=>impl_goodTypes.l0 k l (l.length:Int) (j:Int)) ((l.drop j).all ty):=by
  induction d with
  |zero=>
    intro j hj
    refine Ev.step (f:=fun _=>some true) (fun k=>by rw[impl_goodTypes.l0,if_neg (by omega)]) ?_
    rw[List.drop_of_length_le (by omega)]
    exact Ev.now _
  |succ d ih=>
    intro j hj
    have hlt:j<l.length:=by omega
    have ih:=ih (j+1) (by omega)
    rw[List.drop_eq_getElem_cons hlt,List.all_cons]
    have e1:wrap64 ((j:Int)+1)=((j+1:Nat):Int):=w64 (by omega) (by omega)
    refine Ev.step (f:=fun k=>(if ty l[j]=true then (impl_goodTypes.l0 k l (l.length:Int) ((j+1:Nat):Int)) else (some false))) (fun k=>?_) ?_
    · rw[impl_goodTypes.l0,if_pos (by omega),if_pos (by omega),if_pos (by omega),rdN l j hlt,e1,good_type]
      rfl
    · cases ty l[j] with
      |true=>rw[Bool.true_and];exact Ev.congr (fun k=>if_pos rfl) ih
      |false=>rw[Bool.false_and];exact Ev.congr (fun k=>if_neg (by decide)) (Ev.now _)
def tyB (l:List Int) (m:Int):Bool:=(l.drop 0).all ty && decide ((l.length:Int)≤m)
theorem types_S (l:List Int) (m:Int) (hl:l.length≤1000000000):Ev (fun k=>spec_l7Types.f k l m) (tyB l m):=types_l0S l m hl l.length 0 (by omega)
theorem types_I (l:List Int) (m:Int) (hl:l.length≤1000000000):Ev (fun k=>impl_goodTypes.f k l m) (tyB l m):=by
  unfold impl_goodTypes.f tyB
  by_cases c:(l.length:Int) > m
  · rw[decide_eq_false (by omega),Bool.and_false]
    exact Ev.congr (fun k=>if_pos c) (Ev.now _)
  · rw[decide_eq_true (by omega),Bool.and_true]
    exact Ev.congr (fun k=>if_neg c) (types_l0I l hl l.length 0 (by omega))
theorem func_same (P:List Int) (res:Int) (L:List Int) (B:List S103) (hP:P.length≤1000000000) (hL:L.length≤1000000000) (hBl:B.length≤2000000):∃ b:Bool,Ev (fun k=>impl_goodFunc.f k P res L B) b∧Ev (fun k=>spec_l7Func.f k P res L B) b:=by
  obtain⟨m,o2,m2,b,h1,h2,h3,h4⟩:=body_same B hBl
  have hm:decide (m > 0)=b:=by
    cases b with
    |true=>have:=(h3 rfl).2;exact decide_eq_true (by omega)
    |false=>have:=h4 rfl;exact decide_eq_false (by omega)
  have hd:Ev (fun k=>(impl_deepest.f k B).bind fun t=>(some (decide (t > 0)))) b:=by
    refine Ev.bind h1 ?_
    rw[hm]
    exact Ev.now _
  refine⟨tyB P 6 && (tyB L 20 && ((ty res ||(res==64)) && b)),?_,?_⟩
  · unfold impl_goodFunc.f
    refine Ev.bind (types_I P 6 hP) ?_
    cases tyB P 6 with
    |false=>exact Ev.congr (fun k=>if_neg (by decide)) (Ev.now _)
    |true=>
      refine Ev.congr (fun k=>if_pos rfl) (Ev.bind (types_I L 20 hL) ?_)
      cases tyB L 20 with
      |false=>exact Ev.congr (fun k=>if_neg (by decide)) (Ev.now _)
      |true=>
        refine Ev.congr (f:=fun k=>(if ty res=true then ((impl_deepest.f k B).bind fun t297=>(some (decide (t297 > 0)))) else (if res=64 then ((impl_deepest.f k B).bind fun t298=>(some (decide (t298 > 0)))) else (some false)))) (fun k=>by rw[if_pos rfl,good_type];rfl) ?_
        cases ty res with
        |true=>exact Ev.congr (fun k=>if_pos rfl) hd
        |false=>
          refine Ev.congr (fun k=>if_neg (by decide)) ?_
          by_cases c:res=64
          · rw[show (res==64)=true from beq_iff_eq.2 c]
            exact Ev.congr (fun k=>if_pos c) hd
          · rw[show (res==64)=false from beq_eq_false_iff_ne.2 c]
            exact Ev.congr (fun k=>if_neg c) (Ev.now _)
  · unfold spec_l7Func.f
    refine Ev.bind h2 ?_
    cases b with
    |false=>
      rw[Bool.and_false,Bool.and_false,Bool.and_false]
      exact Ev.congr (fun k=>if_neg (show ¬(false=true) by decide)) (Ev.now _)
    |true=>
      refine Ev.congr (fun k=>if_pos rfl) (Ev.bind (types_S P 6 hP) ?_)
      cases tyB P 6 with
      |false=>exact Ev.congr (fun k=>if_neg (by decide)) (Ev.now _)
      |true=>
        refine Ev.congr (fun k=>if_pos rfl) (Ev.bind (types_S L 20 hL) ?_)
        cases tyB L 20 with
        |false=>exact Ev.congr (fun k=>if_neg (by decide)) (Ev.now _)
        |true=>
          refine Ev.congr (f:=fun _=>(if ty res=true then (some true) else (some (res==64)))) (fun k=>by rw[if_pos rfl,spec_l6Type.f,in_ok];rfl) ?_
          cases ty res with
          |true=>exact Ev.congr (fun k=>if_pos rfl) (Ev.now _)
          |false=>rw[Bool.true_and,Bool.true_and,Bool.false_or,Bool.and_true];exact Ev.congr (fun k=>if_neg (by decide)) (Ev.now _)
end Go.Proofs.Ytanhbfhmgmjdgaa.Ins
