/- CheckModule of the program and of the reference tell the same, of any module. -/
import Derived.Test.YtghogonibanieaaCh
import Derived.Test.YtghogonibanieaaCz
import Derived.Test.YtghogonibanieaaQx25
namespace Go.Proofs.Ytghogonibanieaa.Pure
open Go.RowKit Go.Proofs.Ytghogonibanieaa.Q Go.Proofs.YtghogonibanieaaW.PrintWords Go.Proofs.YtghogonibanieaaW.PrintLast Go.Proofs.YtghogonibanieaaW.PrintMore Go.Proofs.Ytghogonibanieaa.Mb Go.Proofs.Ytghogonibanieaa.Ins Go.Proofs.Ytghogonibanieaa.Mo Go.Proofs.Ytghogonibanieaa.Ck
set_option linter.unusedSimpArgs false
set_option linter.unusedVariables false
theorem env_of {fs:List S59} {gs:List S63} (h:(∀ f∈fs,FOk f)∧∀ g∈gs,Ty g.f0) (j:Nat) (hj:j<fs.length):Env fs gs (rd_T59 fs (j:Int))∧FOk (rd_T59 fs (j:Int)):=by
  have hf:=h.1 _ (rd59 fs j hj)
  exact⟨⟨h.2,fun g hg=>⟨(h.1 g hg).f0,(h.1 g hg).f1,(h.1 g hg).l0⟩,hf.f0,hf.f2,hf.f1,hf.l0,hf.l2⟩,hf⟩
theorem mod_run (fs:List S59) (gs:List S63) (m:Bool) (a b c:Int) (hl:fs.length≤2000000) (h:(∀ f∈fs,FOk f)∧∀ g∈gs,Ty g.f0) (d:Nat):∀ j:Nat,j+d=fs.length→
    ∃ r,Ev (fun k=>modC k fs gs m d j) r∧Ev (fun k=>spec_CheckModule.l0 k (fs.length:Int) (j:Int) fs gs m a b c) r:=by
  induction d with
  |zero=>
    intro j hj
    refine⟨(0,0,0),Ev.now _,Ev.step (f:=fun _=>some (0,0,0)) (fun k=>?_) (Ev.now _)⟩
    rw[spec_CheckModule.l0,if_neg (by omega)]
  |succ d ih=>
    intro j hj
    obtain⟨he,hk⟩:=env_of h j (by omega)
    obtain⟨r,q1,q2⟩:=check_same fs gs m j (by omega) he hk.b hk.l3 hk.n (k:=12) (Nat.le_refl _)
    have hC:Ev (fun k=>checkC k fs gs m (j:Int)) r:=⟨12,fun k hk2=>by
      obtain⟨r',q3,q4⟩:=check_same fs gs m j (by omega) he hk.b hk.l3 hk.n hk2
      rw[q2] at q4
      obtain rfl:=Option.some.inj q4
      exact q3⟩
    have e1:wrap64 ((j:Int)+1)=((j+1:Nat):Int):=w64 (by omega) (by omega)
    have hS:∀ k,spec_CheckModule.l0 (k+1) (fs.length:Int) (j:Int) fs gs m a b c=(if r.1=0 then spec_CheckModule.l0 k (fs.length:Int) ((j+1:Nat):Int) fs gs m a b c else some (r.1,(j:Int),r.2.1)):=by
      intro k
      rw[spec_CheckModule.l0,if_pos (by omega),e1]
      unfold spec_l7Check.f
      rw[q2];rfl
    have hm:∀ k,modC k fs gs m (d+1) j=(checkC k fs gs m (j:Int)).bind fun r=>if r.1=0 then modC k fs gs m d (j+1) else some (r.1,(j:Int),r.2.1):=fun k=>rfl
    by_cases c0:r.1=0
    · obtain⟨r2,p1,p2⟩:=ih (j+1) (by omega)
      exact⟨r2,Ev.congr hm (Ev.bind hC (Ev.congr (fun k=>if_pos c0) p1)),Ev.step (fun k=>by rw[hS k,if_pos c0]) p2⟩
    · exact⟨(r.1,(j:Int),r.2.1),Ev.congr hm (Ev.bind hC (Ev.congr (f:=fun _=>some (r.1,(j:Int),r.2.1)) (fun k=>if_neg c0) (Ev.now _))),Ev.step (f:=fun _=>some (r.1,(j:Int),r.2.1)) (fun k=>by rw[hS k,if_neg c0]) (Ev.now _)⟩
theorem mod_pair (fs:List S59) (gs:List S63) (m:Bool) (a b c:Int) (hl:fs.length≤2000000) (hg:gs.length≤2000000) (hf:∀ f∈fs,f.f0.length≤2000000∧f.f2.length≤2000000∧f.f3.length≤2000000):
    ∃ r,Ev (fun k=>impl_CheckModule.f k fs gs m a b c) r∧Ev (fun k=>spec_CheckModule.f k fs gs m a b c) r:=by
  obtain⟨s,h1,h2,h3⟩:=shape_same fs gs m a b c hl hg hf
  unfold impl_CheckModule.f spec_CheckModule.f
  cases s with
  |true=>
    obtain⟨r,p1,p2⟩:=mod_run fs gs m a b c hl (h3 rfl) fs.length 0 (by omega)
    exact⟨r,Ev.bind h1 (Ev.congr (fun k=>if_pos rfl) p1),Ev.bind h2 (Ev.congr (fun k=>if_pos rfl) p2)⟩
  |false=>exact⟨(1,0,0),Ev.bind h1 (Ev.congr (f:=fun _=>some (1,0,0)) (fun k=>if_neg Bool.false_ne_true) (Ev.now _)),Ev.bind h2 (Ev.congr (f:=fun _=>some (1,0,0)) (fun k=>if_neg Bool.false_ne_true) (Ev.now _))⟩
theorem FnExactCheckModule:laws_FnExactCheckModule.Pure:=by
  intro l gs m a b c hl hg ha hb hc
  refine Ev.rounds ?_
  unfold laws_FnExactCheckModule.f
  obtain⟨t,h1,h2⟩:=szM_ok l gs m a b c hl.1 hg.1 (fun x hx=>⟨(hl.2 x hx).1.1,(hl.2 x hx).2.2.1.1,(hl.2 x hx).2.2.2.1⟩)
  by_cases ct:t<0
  · exact Ev.bind h1 (Ev.congr (fun k=>if_pos ct) (Ev.now true))
  · obtain⟨b1,b2,b3⟩:=h2 ct
    have hM:=toM_ok l gs m a b c (by omega) (by omega) b3
    have hF:=fits_of b3
    have n1:(l.map cF).length≤2000000:=by rw[List.length_map];omega
    have n2:(gs.map cG).length≤2000000:=by rw[List.length_map];omega
    obtain⟨r,p1,p2⟩:=mod_pair (l.map cF) (gs.map cG) m a b c n1 n2 hF
    have hE:=eqM_ok (l.map cF) (gs.map cG) m a b c n1 n2 hF
    have j0:Ev (fun k=>laws_FnExactCheckModule.j0 k false l gs m a b c (l.map cF) (gs.map cG) m a b c) true:=by
      refine Ev.step (fun k=>by rw[laws_FnExactCheckModule.j0,if_neg (by decide)]) (Ev.bind hM (Ev.bind hE (Ev.congr (fun k=>if_pos rfl) (Ev.now _))))
    refine Ev.bind h1 (Ev.congr (fun k=>if_neg ct) (Ev.bind hM (Ev.bind p2 (Ev.bind hM (Ev.bind p1 (Ev.congr (fun k=>?_) j0))))))
    rw[if_pos rfl,if_pos rfl,bne_self_eq_false]
end Go.Proofs.Ytghogonibanieaa.Pure
