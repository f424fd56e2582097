/- Both texts take the same instances as good, and leave them as they are: of any instance. (numbers of s4g) -/
import Derived.Test.YtanhbfhmgmjdgaaGs
import Derived.Test.YtanhbfhmgmjdgaaQx27
namespace Go.Proofs.Ytanhbfhmgmjdgaa.Pure
open Go.RowKit Go.Proofs.Ytanhbfhmgmjdgaa.Q Go.Proofs.YtanhbfhmgmjdgaaW.PrintWords Go.Proofs.YtanhbfhmgmjdgaaW.PrintLast Go.Proofs.YtanhbfhmgmjdgaaW.PrintMore Go.Proofs.Ytanhbfhmgmjdgaa.Mb Go.Proofs.Ytanhbfhmgmjdgaa.Ins Go.Proofs.Ytanhbfhmgmjdgaa.Mo
set_option linter.unusedSimpArgs false
set_option linter.unusedVariables false
theorem good_same (fs:List S88) (gs:List S75) (m:Bool) (a b c x:Int) (dt:ByteArray) (ws:List S72) (p:Bool) (n:Int) (h1:fs.length≤2000000) (h2:gs.length≤2000000) (h3:ws.length≤2000000) (hf:∀ f∈fs,Fits f):
    ∃ r,Ev (fun k=>impl_GoodInstance.f k fs gs m a b c x dt ws p n) r∧Ev (fun k=>spec_GoodInstance.f k fs gs m a b c x dt ws p n) r:=by
  obtain⟨r,p1,p2⟩:=mod_pair fs gs m a b c h1 h2 hf
  obtain⟨s,q1,q2⟩:=state_same fs gs m a b c x dt ws h1 h2 h3 hf
  unfold impl_GoodInstance.f spec_GoodInstance.f spec_l10Good.f
  by_cases c0:r.1=0
  · cases s with
    |false=>exact⟨false,Ev.bind p1 (ev_yes c0 (Ev.bind q1 (ev_no (by decide) (Ev.now _)))),Ev.bind (a:=false) (Ev.bind p2 (ev_yes c0 (Ev.bind q2 (ev_no (by decide) (Ev.now _))))) (Ev.now _)⟩
    |true=>
      refine⟨decide (0≤n∧n≤1000000000),Ev.bind p1 (ev_yes c0 (Ev.bind q1 (ev_yes rfl ?_))),Ev.bind (a:=decide (0≤n∧n≤1000000000)) (Ev.bind p2 (ev_yes c0 (Ev.bind q2 (ev_yes rfl ?_)))) (Ev.now _)⟩
      · rw[ge_and];exact Ev.now _
      · rw[in_ok];exact Ev.bind (Ev.now _) (Ev.now _)
  · exact⟨false,Ev.bind p1 (ev_no c0 (Ev.now _)),Ev.bind (a:=false) (Ev.bind p2 (ev_no c0 (Ev.now _))) (Ev.now _)⟩
theorem FnExactGoodInstance:laws_FnExactGoodInstance.Pure:=by
  intro l gs m a b c x dt ws p n hl hg ha hb hc hx hd hw hn
  refine Ev.rounds ?_
  unfold laws_FnExactGoodInstance.f
  obtain⟨t,h1,h2⟩:=szX_ok l gs m a b c x dt ws p n hl.1 hg.1 hd hw.1 (fun x hx=>⟨(hl.2 x hx).1.1,(hl.2 x hx).2.2.1.1,(hl.2 x hx).2.2.2.1⟩)
  by_cases ct:t<0
  · exact Ev.bind h1 (ev_yes ct (Ev.now true))
  · obtain⟨b1,b2,b3,b4⟩:=h2 ct
    have hX:=toX_ok l gs m a b c x dt ws p n (by omega) (by omega) (by omega) b4
    have hF:=fits_of b4
    have n1:(l.map cF).length≤2000000:=by rw[List.length_map];omega
    have n2:(gs.map cG).length≤2000000:=by rw[List.length_map];omega
    have n3:(ws.map cW).length≤2000000:=by rw[List.length_map];omega
    obtain⟨r,p1,p2⟩:=good_same (l.map cF) (gs.map cG) m a b c x dt (ws.map cW) p n n1 n2 n3 hF
    have hE:=eqX_ok (l.map cF) (gs.map cG) m a b c x dt (ws.map cW) p n n1 n2 n3 hF
    refine Ev.bind h1 (ev_no ct (Ev.bind hX (Ev.bind p2 (Ev.bind hX (Ev.bind p1 (ev_no ?_ (Ev.bind hX (Ev.bind hE (ev_yes rfl (Ev.now _))))))))))
    rw[bne_self_eq_false];decide
end Go.Proofs.Ytanhbfhmgmjdgaa.Pure
