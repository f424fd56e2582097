/- HighestOf of the program and of the reference tell the same, of any module and any index. -/
import Derived.Test.YtghogonibanieaaCh
import Derived.Test.YtghogonibanieaaCz
import Derived.Test.YtghogonibanieaaQx15
namespace Go.Proofs.Ytghogonibanieaa.Pure
open Go.RowKit Go.Proofs.Ytghogonibanieaa.Q Go.Proofs.YtghogonibanieaaW.PrintWords Go.Proofs.YtghogonibanieaaW.PrintLast Go.Proofs.YtghogonibanieaaW.PrintMore Go.Proofs.Ytghogonibanieaa.Mb Go.Proofs.Ytghogonibanieaa.Ins Go.Proofs.Ytghogonibanieaa.Mo Go.Proofs.Ytghogonibanieaa.Ck
set_option linter.unusedSimpArgs false
set_option linter.unusedVariables false
theorem env_of {fs:List S59} {gs:List S63} (h:(∀ f∈fs,FOk f)∧∀ g∈gs,Ty g.f0) (j:Nat) (hj:j<fs.length):Env fs gs (rd_T59 fs (j:Int))∧FOk (rd_T59 fs (j:Int)):=by
  have hf:=h.1 _ (rd59 fs j hj)
  exact⟨⟨h.2,fun g hg=>⟨(h.1 g hg).f0,(h.1 g hg).f1,(h.1 g hg).l0⟩,hf.f0,hf.f2,hf.f1,hf.l0,hf.l2⟩,hf⟩
/-- Where a fault is told, nothing is told of the height. -/
theorem run_third (fs:List S59) (gs:List S63) (mem:Bool) (f:S59):∀ (n i:Nat) (c:CS S91) (r:Int × Int × Int),runS fs gs mem f n i c=some r→r.1≠0→r.2.2=0
  |0,i,c,r,h,hr=>by
    rw[runS] at h
    obtain rfl:=Option.some.inj h
    exact absurd rfl hr
  |n+1,i,c,r,h,hr=>by
    rw[runS] at h
    obtain⟨c1,_,h⟩:=Option.bind_eq_some_iff.1 h
    by_cases c0:c1.fa=0
    · rw[if_pos c0] at h
      exact run_third fs gs mem f n (i+1) c1 r h hr
    · rw[if_neg c0] at h
      obtain rfl:=Option.some.inj h
      rfl
theorem check_third {fs:List S59} {gs:List S63} {mem:Bool} {i:Int} {r:Int × Int × Int} (h:checkS fs gs mem i=some r) (hr:r.1≠0):r.2.2=0:=by
  unfold checkS at h
  by_cases c1:0≤i∧i<(fs.length:Int)
  · rw[if_pos c1] at h
    by_cases c2:(rd_T59 fs i).f0.length+(rd_T59 fs i).f2.length≤1000000
    · rw[if_pos c2] at h
      obtain⟨c,_,h⟩:=Option.bind_eq_some_iff.1 h
      exact run_third fs gs mem _ _ _ _ r h hr
    · rw[if_neg c2] at h;cases h
  · rw[if_neg c1] at h;cases h
theorem high_pair (fs:List S59) (gs:List S63) (m:Bool) (a b c i:Int) (hl:fs.length≤2000000) (hg:gs.length≤2000000) (hf:∀ f∈fs,f.f0.length≤2000000∧f.f2.length≤2000000∧f.f3.length≤2000000):
    ∃ r,Ev (fun k=>impl_HighestOf.f k fs gs m a b c i) r∧Ev (fun k=>spec_HighestOf.f k fs gs m a b c i) r:=by
  obtain⟨s,h1,h2,h3⟩:=shape_same fs gs m a b c hl hg hf
  have e:wrap64 ((fs.length:Int) - 1)=(fs.length:Int) - 1:=w64 (by omega) (by omega)
  unfold impl_HighestOf.f spec_HighestOf.f
  by_cases hi:0≤i∧i<(fs.length:Int)
  · have c1:¬i<0:=by omega
    have c2:¬i≥(fs.length:Int):=by omega
    have c3:0≤i∧i≤(fs.length:Int) - 1:=by omega
    cases s with
    |true=>
      obtain⟨j,rfl⟩:=Int.eq_ofNat_of_zero_le hi.1
      obtain⟨he,hk⟩:=env_of (h3 rfl) j (by omega)
      obtain⟨r,q1,q2⟩:=check_same fs gs m j (by omega) he hk.b hk.l3 hk.n (k:=12) (Nat.le_refl _)
      have hC:Ev (fun k=>checkC k fs gs m (j:Int)) r:=⟨12,fun k hk2=>by
        obtain⟨r',q3,q4⟩:=check_same fs gs m j (by omega) he hk.b hk.l3 hk.n hk2
        rw[q2] at q4
        obtain rfl:=Option.some.inj q4
        exact q3⟩
      refine⟨(r.2.2,r.1==0),Ev.congr (fun k=>by rw[if_neg c1,if_neg c2]) (Ev.bind h1 (Ev.congr (fun k=>if_pos rfl) (Ev.bind hC (Ev.congr (f:=fun _=>some (r.2.2,r.1==0)) (fun k=>?_) (Ev.now _))))),Ev.bind h2 (Ev.congr (f:=fun _=>some (r.2.2,r.1==0)) (fun k=>?_) (Ev.now _))⟩
      · by_cases c0:r.1=0
        · rw[if_pos c0,show (r.1==0)=true from beq_iff_eq.2 c0]
        · rw[if_neg c0,show (r.1==0)=false from beq_eq_false_iff_ne.2 c0,check_third q2 c0]
      · rw[if_pos rfl,e,in_ok,Option.bind_some,if_pos (decide_eq_true c3)]
        unfold spec_l7Check.f
        rw[q2];rfl
    |false=>
      refine⟨(0,false),Ev.congr (fun k=>by rw[if_neg c1,if_neg c2]) (Ev.bind h1 (Ev.congr (f:=fun _=>some (0,false)) (fun k=>if_neg Bool.false_ne_true) (Ev.now _))),Ev.bind h2 (Ev.congr (f:=fun _=>some (0,false)) (fun k=>if_neg Bool.false_ne_true) (Ev.now _))⟩
  · have c3:¬(0≤i∧i≤(fs.length:Int) - 1):=by omega
    refine⟨(0,false),Ev.congr (f:=fun _=>some (0,false)) (fun k=>?_) (Ev.now _),Ev.bind h2 (Ev.congr (f:=fun _=>some (0,false)) (fun k=>?_) (Ev.now _))⟩
    · by_cases c1:i<0
      · rw[if_pos c1]
      · rw[if_neg c1,if_pos (by omega)]
    · cases s with
      |true=>rw[if_pos rfl,e,in_ok,Option.bind_some,decide_eq_false c3,if_neg (by decide)]
      |false=>rw[if_neg (by decide)]
theorem FnExactHighestOf:laws_FnExactHighestOf.Pure:=by
  intro l gs m a b c i hl hg ha hb hc hi
  refine Ev.rounds ?_
  unfold laws_FnExactHighestOf.f
  obtain⟨t,h1,h2⟩:=szM_ok l gs m a b c hl.1 hg.1 (fun x hx=>⟨(hl.2 x hx).1.1,(hl.2 x hx).2.2.1.1,(hl.2 x hx).2.2.2.1⟩)
  by_cases ct:t<0
  · exact Ev.bind h1 (Ev.congr (fun k=>if_pos ct) (Ev.now true))
  · obtain⟨b1,b2,b3⟩:=h2 ct
    have hM:=toM_ok l gs m a b c (by omega) (by omega) b3
    have hF:=fits_of b3
    have n1:(l.map cF).length≤2000000:=by rw[List.length_map];omega
    have n2:(gs.map cG).length≤2000000:=by rw[List.length_map];omega
    obtain⟨r,p1,p2⟩:=high_pair (l.map cF) (gs.map cG) m a b c i n1 n2 hF
    have hE:=eqM_ok (l.map cF) (gs.map cG) m a b c n1 n2 hF
    have j0:Ev (fun k=>laws_FnExactHighestOf.j0 k false l gs m a b c (l.map cF) (gs.map cG) m a b c) true:=by
      refine Ev.step (fun k=>by rw[laws_FnExactHighestOf.j0,if_neg (by decide)]) (Ev.bind hM (Ev.bind hE (Ev.congr (fun k=>if_pos rfl) (Ev.now _))))
    refine Ev.bind h1 (Ev.congr (fun k=>if_neg ct) (Ev.bind hM (Ev.bind p2 (Ev.bind hM (Ev.bind p1 (Ev.congr (fun k=>?_) j0))))))
    rw[if_pos rfl,bne_self_eq_false]
end Go.Proofs.Ytghogonibanieaa.Pure
