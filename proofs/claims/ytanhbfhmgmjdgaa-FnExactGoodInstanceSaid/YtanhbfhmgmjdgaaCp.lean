/- Both checks of modules tell the same, of any module. -/
import Derived.Test.YtanhbfhmgmjdgaaCh
import Derived.Test.YtanhbfhmgmjdgaaQx24
import Derived.Test.YtanhbfhmgmjdgaaQx11
namespace Go.Proofs.Ytanhbfhmgmjdgaa.Mo
open Go.RowKit Go.Proofs.Ytanhbfhmgmjdgaa.Q Go.Proofs.YtanhbfhmgmjdgaaW.PrintWords Go.Proofs.YtanhbfhmgmjdgaaW.PrintLast Go.Proofs.YtanhbfhmgmjdgaaW.PrintMore Go.Proofs.Ytanhbfhmgmjdgaa.Mb Go.Proofs.Ytanhbfhmgmjdgaa.Ins Go.Proofs.Ytanhbfhmgmjdgaa.Ck
set_option linter.unusedSimpArgs false
set_option linter.unusedVariables false
theorem env_of {fs:List S88} {gs:List S75} (h:(∀ f∈fs,FOk f)∧∀ g∈gs,Ty g.f0) (j:Nat) (hj:j<fs.length):Env fs gs (rd_T88 fs (j:Int))∧FOk (rd_T88 fs (j:Int)):=by
  have hf:=h.1 _ (rd59 fs j hj)
  exact⟨⟨h.2,fun g hg=>⟨(h.1 g hg).f0,(h.1 g hg).f1,(h.1 g hg).l0⟩,hf.f0,hf.f2,hf.f1,hf.l0,hf.l2⟩,hf⟩
theorem mod_run (fs:List S88) (gs:List S75) (m:Bool) (a b c:Int) (hl:fs.length≤2000000) (h:(∀ f∈fs,FOk f)∧∀ g∈gs,Ty g.f0) (d:Nat):∀ j:Nat,j+d=fs.length→
    ∃ r,Ev (fun k=>modC k fs gs m d j) r∧Ev (fun k=>spec_CheckModule.l0 k (fs.length:Int) (j:Int) fs gs m a b c) r:=by
  induction d with
  |zero=>
    intro j hj
    refine⟨(0,0,0),Ev.now _,Ev.step (f:=fun _=>some (0,0,0)) (fun k=>?_) (Ev.now _)⟩
    rw[spec_CheckModule.l0,if_neg (by omega)]
  |succ d ih=>
    intro j hj
    obtain⟨he,hk⟩:=env_of h j (by omega)
    obtain⟨r,q1,q2⟩:=check_same fs gs m j (by omega) he hk.b hk.l3 hk.n (k:=12) (Nat.le_refl _)
    have hC:Ev (fun k=>checkC k fs gs m (j:Int)) r:=⟨12,fun k hk2=>by
      obtain⟨r',q3,q4⟩:=check_same fs gs m j (by omega) he hk.b hk.l3 hk.n hk2
      rw[q2] at q4
      obtain rfl:=Option.some.inj q4
      exact q3⟩
    have e1:wrap64 ((j:Int)+1)=((j+1:Nat):Int):=w64 (by omega) (by omega)
    have hS:∀ k,spec_CheckModule.l0 (k+1) (fs.length:Int) (j:Int) fs gs m a b c=(if r.1=0 then spec_CheckModule.l0 k (fs.length:Int) ((j+1:Nat):Int) fs gs m a b c else some (r.1,(j:Int),r.2.1)):=by
      intro k
      rw[spec_CheckModule.l0,if_pos (by omega),e1]
      unfold spec_l7Check.f
      rw[q2];rfl
    have hm:∀ k,modC k fs gs m (d+1) j=(checkC k fs gs m (j:Int)).bind fun r=>if r.1=0 then modC k fs gs m d (j+1) else some (r.1,(j:Int),r.2.1):=fun k=>rfl
    by_cases c0:r.1=0
    · obtain⟨r2,p1,p2⟩:=ih (j+1) (by omega)
      exact⟨r2,Ev.congr hm (Ev.bind hC (Ev.congr (fun k=>if_pos c0) p1)),Ev.step (fun k=>by rw[hS k,if_pos c0]) p2⟩
    · exact⟨(r.1,(j:Int),r.2.1),Ev.congr hm (Ev.bind hC (Ev.congr (f:=fun _=>some (r.1,(j:Int),r.2.1)) (fun k=>if_neg c0) (Ev.now _))),Ev.step (f:=fun _=>some (r.1,(j:Int),r.2.1)) (fun k=>by rw[hS k,if_neg c0]) (Ev.now _)⟩
theorem mod_pair (fs:List S88) (gs:List S75) (m:Bool) (a b c:Int) (hl:fs.length≤2000000) (hg:gs.length≤2000000) (hf:∀ f∈fs,f.f0.length≤2000000∧f.f2.length≤2000000∧f.f3.length≤2000000):
    ∃ r,Ev (fun k=>impl_CheckModule.f k fs gs m a b c) r∧Ev (fun k=>spec_CheckModule.f k fs gs m a b c) r:=by
  obtain⟨s,h1,h2,h3⟩:=shape_same fs gs m a b c hl hg hf
  unfold impl_CheckModule.f spec_CheckModule.f
  cases s with
  |true=>
    obtain⟨r,p1,p2⟩:=mod_run fs gs m a b c hl (h3 rfl) fs.length 0 (by omega)
    exact⟨r,Ev.bind h1 (Ev.congr (fun k=>if_pos rfl) p1),Ev.bind h2 (Ev.congr (fun k=>if_pos rfl) p2)⟩
  |false=>exact⟨(1,0,0),Ev.bind h1 (Ev.congr (f:=fun _=>some (1,0,0)) (fun k=>if_neg Bool.false_ne_true) (Ev.now _)),Ev.bind h2 (Ev.congr (f:=fun _=>some (1,0,0)) (fun k=>if_neg Bool.false_ne_true) (Ev.now _))⟩
end Go.Proofs.Ytanhbfhmgmjdgaa.Mo
