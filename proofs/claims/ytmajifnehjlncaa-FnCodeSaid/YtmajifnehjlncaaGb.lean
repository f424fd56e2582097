/- Code is drawn: a body, spoilt or not; the draw ends. -/
import Derived.Test.YtmajifnehjlncaaGn
import Derived.Test.YtmajifnehjlncaaCf
import Derived.Test.YtmajifnehjlncaaQx4
namespace Go.Proofs.Ytmajifnehjlncaa.Gen
open Go.RowKit Go.Proofs.Ytmajifnehjlncaa.Q Go.Proofs.YtmajifnehjlncaaW.PrintWords Go.Proofs.YtmajifnehjlncaaW.PrintLast Go.Proofs.YtmajifnehjlncaaW.PrintMore Go.Proofs.Ytmajifnehjlncaa.Mb Go.Proofs.Ytmajifnehjlncaa.Cur
set_option linter.unusedSimpArgs false
set_option linter.unusedVariables false
variable {l:List Int} (hl:U8 l)
include hl
theorem body_l0 {w:Int} (hw:w=127∨w=126∨w=125∨w=64):∀ (n:Nat) (acc:List S37) (a s:Int),n≤2→E acc→acc.length+(n+1)*20010≤900000→0≤a→a+(((n+1)*20010:Nat):Int)≤900000000000→Out acc a ((n+1)*20010) (fun k=>spec_l1Cur_body.l0 k w acc (n:Int) l a s)
  |0,acc,a,s,hn,hE,hacc,ha,hb=>by
    refine Out.step (fun k=>by rw[spec_l1Cur_body.l0,if_neg (by decide)]) ?_
    refine Out.pick hl (by decide) (by decide) (by omega) (by omega) fun x a2 s2 h5 h6 h7 h8=>?_
    try dsimp only
    refine Out.call (gen_ok hl hw h5 (by omega)) hE (by omega) (by omega) (by omega) fun r a3 s3 h1 h2 h3 h4=>?_
    try dsimp only
    exact Out.put h1 (by omega) ⟨by decide,by decide⟩ (by omega) (by omega) (by omega)
  |n+1,acc,a,s,hn,hE,hacc,ha,hb=>by
    refine Out.step (fun k=>by rw[spec_l1Cur_body.l0,if_pos (by omega)]) ?_
    refine Out.pick hl (by decide) (by decide) (by omega) (by omega) fun x a2 s2 h5 h6 h7 h8=>?_
    try dsimp only
    refine Out.call (gen_ok hl (Or.inr (Or.inr (Or.inr rfl))) h5 (by omega)) hE (by omega) (by omega) (by omega) fun r a3 s3 h1 h2 h3 h4=>?_
    try dsimp only
    rw[show wrap64 (((n+1:Nat):Int) - 1)=(n:Int) from by rw[w64 (by omega) (by omega)];omega]
    exact(body_l0 hw n r a3 s3 (by omega) h1 (by omega) (by omega) (by omega)).le (by omega) (by omega) (by omega)
omit hl in
theorem E.take {acc:List S37} (h:E acc) (n:Nat):E (acc.take n):=fun x hx=>h x (List.mem_of_mem_take hx)
omit hl in
theorem E.drop {acc:List S37} (h:E acc) (n:Nat):E (acc.drop n):=fun x hx=>h x (List.mem_of_mem_drop hx)
omit hl in
theorem E.cat {a b:List S37} (h:E a) (h2:E b):E (a++b):=fun x hx=>(List.mem_append.1 hx).elim (h x) (h2 x)
omit hl in
theorem E.set {acc:List S37} (h:E acc) (n:Nat) {o b:Int} (h0:-9223372036854775808≤b) (h1:b≤9223372036854775807):E (acc.set n (⟨o,b⟩:S37)):=fun x hx=>by
  rcases List.mem_or_eq_of_mem_set hx with hx|hx
  · exact h x hx
  · rw[hx];exact⟨h0,h1⟩
theorem spoilt_ok (acc:List S37) (hE:E acc) (hacc:acc.length≤900000) (a s:Int) (ha:0≤a) (hb:a≤1000000000000):∃ r a' s',spec_l1Cur_spoiltCode.f l a s acc=some (r,a',s')∧E r∧r.length≤acc.length+1:=by
  unfold spec_l1Cur_spoiltCode.f
  by_cases c0:(acc.length:Int)=0
  · rw[if_pos c0];exact⟨_,_,_,rfl,hE,by omega⟩
  · rw[if_neg c0]
    obtain⟨x,a1,s1,e1,h1,h2,h3,h4⟩:=pick_ok hl ha (by omega) s (acc.length:Int) (by omega) (by omega)
    rw[e1]
    simp only[Option.bind_some]
    obtain⟨y,a2,s2,e2,h5,h6,h7,h8⟩:=pick_ok hl (a:=a1) (by omega) (by omega) s1 4 (by omega) (by omega)
    rw[e2]
    simp only[Option.bind_some]
    obtain⟨n,rfl⟩:=Int.eq_ofNat_of_zero_le h1
    have hn:n<acc.length:=by omega
    have hr:=hE acc[n] (List.getElem_mem hn)
    have e3:rd_T37 acc (n:Int)=acc[n]:=Ins.rdO acc n hn
    by_cases c1:y=0
    · obtain⟨z,a3,s3,e4,h9,h10,h11⟩:=among_ok hl (a:=a2) (by omega) (by omega) s2 ([0,2,5,11,12,15,26,27,33,97,250]:List Int) (by decide) (by decide)
      rw[if_pos c1,e4]
      simp only[Option.bind_some]
      rw[if_pos (by omega),if_pos (by omega),e3]
      exact⟨_,_,_,rfl,hE.set _ hr.1 hr.2,by rw[List.length_set];omega⟩
    · rw[if_neg c1]
      by_cases c2:y=1
      · obtain⟨z,a3,s3,e4,h9,h10,h11⟩:=among_ok hl (a:=a2) (by omega) (by omega) s2 ([(-1),0,1,1001,64,127]:List Int) (by decide) (by decide)
        rw[if_pos c2,e4]
        simp only[Option.bind_some]
        rw[if_pos (by omega),if_pos (by omega)]
        have hz:-9223372036854775808≤z∧z≤9223372036854775807:=by
          simp only[List.mem_cons,List.not_mem_nil,or_false] at h9
          omega
        exact⟨_,_,_,rfl,hE.set _ hz.1 hz.2,by rw[List.length_set];omega⟩
      · rw[if_neg c2]
        have w1:wrap64 ((n:Int)+1)=((n+1:Nat):Int):=w64 (by omega) (by omega)
        have lt:(acc.take n).length=n:=by rw[List.length_take];omega
        by_cases c3:y=2
        · rw[if_pos c3]
          rw[if_pos (by omega),if_pos (by omega),w1]
          simp only[Option.bind_some,List.nil_append,Int.toNat_natCast,List.length_nil,lt]
          have ld:(acc.drop (n+1)).length=acc.length - (n+1):=List.length_drop
          rw[if_pos (by omega),if_pos (by omega),if_pos (by omega),if_pos (by rw[ld];omega)]
          exact⟨_,_,_,rfl,(hE.take _).cat (hE.drop _),by rw[List.length_append,lt,ld];omega⟩
        · rw[if_neg c3]
          obtain⟨z,a3,s3,e4,h9,h10,h11⟩:=among_ok hl (a:=a2) (by omega) (by omega) s2 ([0,1,12,15,26,11,5]:List Int) (by decide) (by decide)
          rw[if_pos (by omega),if_pos (by omega),e4]
          simp only[Option.bind_some,List.nil_append,Int.toNat_natCast,List.length_nil,lt]
          have ld:(acc.drop n).length=acc.length - n:=List.length_drop
          rw[if_pos (by omega),if_pos (by omega)]
          have l1:=len1 (acc.take n) ⟨z,0⟩
          rw[if_pos (by rw[l1,lt,ld];omega)]
          exact⟨_,_,_,rfl,((hE.take _).add (by decide) (by decide)).cat (hE.drop _),by rw[List.length_append,l1,lt,ld];omega⟩
omit hl in
theorem ev_c {α:Type} {g:Option α} {v:α} (h:g=some v):Ev (fun _=>g) v:=h▸Ev.now v
/-- The code that the law draws. -/
theorem code_ok:∃ r,Ev (fun k=>spec_DrawCodeBytes.f k l) r∧E r∧r.length≤900000:=by
  obtain⟨b,a1,s1,e1,h1,h2⟩:=one_ok hl (a:=0) (by omega) (by omega) 0 40 (by omega) (by omega)
  cases b
  · obtain⟨w,a2,s2,e2,h3,h4,h5⟩:=among_ok hl (a:=a1) (by omega) (by omega) s1 ([127,126,125,64]:List Int) (by decide) (by decide)
    have hw:w=127∨w=126∨w=125∨w=64:=by
      simp only[List.mem_cons,List.not_mem_nil,or_false] at h3
      exact h3
    obtain⟨n,a3,s3,e3,h6,h7,h8,h9⟩:=pick_ok hl (a:=a2) (by omega) (by omega) s2 3 (by omega) (by omega)
    obtain⟨n,rfl⟩:=Int.eq_ofNat_of_zero_le h6
    have hn2:n≤2:=by omega
    obtain⟨acc,a4,s4,e4,h10,h11,h12,h13⟩:=body_l0 hl hw n [] a3 s3 hn2 E.nil (by rw[List.length_nil];omega) (by omega) (by omega)
    rw[List.length_nil] at h11
    have hb:Ev (fun k=>spec_l1Cur_body.f k l a2 s2 w) (acc,a4,s4):=by
      unfold spec_l1Cur_body.f
      exact Ev.bind (ev_c e3) e4
    obtain⟨c,a5,s5,e5,h14,h15⟩:=one_ok hl (a:=a4) (by omega) (by omega) s4 3 (by omega) (by omega)
    have hc:∃ r a6 s6,Ev (fun k=>spec_l1Cur_codeOf.f k l a1 s1) (r,a6,s6)∧E r∧r.length≤900000:=by
      unfold spec_l1Cur_codeOf.f
      cases c
      · refine⟨acc,a5,s5,Ev.bind (ev_c e2) (Ev.bind hb (Ev.bind (ev_c e5) ?_)),h10,by omega⟩
        exact Ev.now _
      · obtain⟨r,a6,s6,e6,h16,h17⟩:=spoilt_ok hl acc h10 (by omega) a5 s5 (by omega) (by omega)
        refine⟨r,a6,s6,Ev.bind (ev_c e2) (Ev.bind hb (Ev.bind (ev_c e5) ?_)),h16,by omega⟩
        exact Ev.bind (ev_c e6) (Ev.now _)
    obtain⟨r,a6,s6,h16,h17,h18⟩:=hc
    refine⟨r,?_,h17,h18⟩
    unfold spec_DrawCodeBytes.f
    refine Ev.bind (ev_c e1) ?_
    exact Ev.bind h16 (Ev.now _)
  · obtain⟨p,a2,s2,e2,h3,h4,h5,h6⟩:=pick_ok hl (a:=a1) (by omega) (by omega) s1 2 (by omega) (by omega)
    refine⟨List.replicate (wrap64 (200+p):Int).toNat z37,?_,fun x hx=>?_,?_⟩
    · unfold spec_DrawCodeBytes.f
      refine Ev.bind (ev_c e1) (Ev.bind (ev_c e2) ?_)
      dsimp only
      rw[if_pos (by rw[w64 (by omega) (by omega)];omega),if_pos (by rw[w64 (by omega) (by omega)];omega)]
      exact Ev.now _
    · rw[List.eq_of_mem_replicate hx];exact⟨by decide,by decide⟩
    · rw[List.length_replicate,w64 (by omega) (by omega)];omega
end Go.Proofs.Ytmajifnehjlncaa.Gen
