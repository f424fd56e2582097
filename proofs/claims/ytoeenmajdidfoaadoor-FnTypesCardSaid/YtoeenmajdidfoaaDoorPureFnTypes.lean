/- A drawn type comes back from its text, and it has handles where a node of it is one. -/
import Derived.Test.YtoeenmajdidfoaaDoorTj
namespace Go.Proofs.YtoeenmajdidfoaaDoor.Pure
open Go.RowKit Go.Proofs.YtoeenmajdidfoaaDoor.Q Go.Proofs.YtoeenmajdidfoaaDoorW.PrintWords Go.Proofs.YtoeenmajdidfoaaDoorW.PrintLast Go.Proofs.YtoeenmajdidfoaaDoorW.PrintMore Go.Proofs.YtoeenmajdidfoaaDoor.Mb Go.Proofs.YtoeenmajdidfoaaDoor.Ty Go.Proofs.YtoeenmajdidfoaaDoor.Cur
set_option linter.unusedSimpArgs false
set_option linter.unusedVariables false
theorem FnTypes:laws_FnTypes.Pure:=by
  intro l0 h0 h1 h2
  refine Ev.rounds ?_
  unfold laws_FnTypes.f
  by_cases c:(l0.length:Int) > 1048576
  · exact Ev.congr (fun k=>if_pos c) (Ev.now true)
  · refine Ev.congr (fun k=>if_neg c) ?_
    obtain⟨l,hl⟩:=draw_type (u8_of h2)
    have hd:Ev (fun k=>spec_DrawTypeText.f k l0) l:=Ev.bind hl (Ev.now l)
    refine Ev.bind hd ?_
    cases hg:good l with
    |false=>
      have hi:Ev (fun k=>impl_TypeText.f k l) (nos,false):=by
        refine Ev.bind (shape_tree l) ?_
        rw[hg]
        exact Ev.now _
      have hs:Ev (fun k=>spec_TypeText.f k l) (nos,false):=by
        refine Ev.bind (good_spec l) ?_
        rw[hg]
        exact Ev.now _
      refine Ev.bind hi (Ev.bind hs ?_)
      refine Ev.congr (f:=fun k=>laws_FnTypes.j0 k l nos false false) (fun k=>?_) ?_
      · simp
      · refine Ev.step (f:=fun _=>some true) (fun k=>?_) (Ev.now _)
        simp only[laws_FnTypes.j0]
        rw[if_neg (by decide),if_neg (by decide),ByteArray.toList_eq]
        rfl
    |true=>
      obtain⟨r,hr,_,he⟩:=text_spec 8 (by omega) (tree l) (tree_gt l hg)
      have hlen:=good_len l hg
      have hs:Ev (fun k=>spec_TypeText.f k l) (r,true):=by
        refine Ev.bind (good_spec l) ?_
        rw[hg]
        simp only[if_true]
        refine Ev.bind (spec_tree l hg) ?_
        exact Ev.bind he (Ev.now _)
      have hi:Ev (fun k=>impl_TypeText.f k l) (r,true):=by
        refine Ev.bind (shape_tree l) ?_
        rw[hg]
        refine Ev.congr (fun k=>?_) (Ev.now _)
        show(textT 9 (tree l)).bind _=_
        rw[hr]
        rfl
      have hb:Ev (fun k=>impl_ReadType.f k r) (l,true):=by
        have e:∀ k,impl_ReadType.f k r=(impl_TypeText.f k l).bind fun t=>if t.2=true then (if t.1.toList=r.toList then some (l,true) else some ([],false)) else some ([],false):=by
          intro k
          unfold impl_ReadType.f
          rw[read_back hg hr,Option.bind_some]
          simp only[if_true]
          rw[if_pos (by_toList [])]
        refine Ev.congr e (Ev.bind hi ?_)
        simp only[if_true]
        exact Ev.now _
      have hh:Ev (fun k=>impl_HasHandles.f k l) (l.any hk,true):=by
        refine Ev.bind (shape_tree l) ?_
        rw[hg]
        refine Ev.congr (fun k=>?_) (Ev.now _)
        show some (handlesT 9 (tree l),true)=_
        rw[handles_row hg]
      refine Ev.bind hi (Ev.bind hs ?_)
      have key:Ev (fun k=>laws_FnTypes.j0 k l r true false) true:=by
        refine Ev.step (f:=fun k=>((impl_ReadType.f k r).bind fun bt331=>((impl_HasHandles.f k l).bind fun bt335=>(if bt331.2=true then (if bt335.2=true then ((laws_sameTypes.f k l bt331.1).bind fun t337=>(laws_FnTypes.j1 k l bt335.1 (!t337))) else (laws_FnTypes.j1 k l bt335.1 true)) else (laws_FnTypes.j1 k l bt335.1 true))))) (fun k=>?_) ?_
        · simp only[laws_FnTypes.j0]
          rw[if_neg (by decide),if_pos trivial]
        · refine Ev.bind hb (Ev.bind hh ?_)
          simp only[if_true]
          refine Ev.bind (same_ok l (by omega)) ?_
          refine Ev.step (f:=fun k=>laws_FnTypes.l0 k (l.any hk) false l (l.length:Int) 0) (fun k=>?_) ?_
          · simp only[laws_FnTypes.j1]
            rw[if_neg (by decide)]
          · have:=loop_ok (l.any hk) l (by omega) l.length 0 false (by omega)
            rw[List.drop_zero,Bool.false_or,beq_self_eq_true] at this
            exact this
      refine Ev.congr (fun k=>?_) key
      simp
end Go.Proofs.YtoeenmajdidfoaaDoor.Pure
