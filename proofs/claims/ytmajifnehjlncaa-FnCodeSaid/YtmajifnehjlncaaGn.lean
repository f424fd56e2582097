/- Code is drawn: each draw ends, and all numbers beside its instructions fit 64 bits. -/
import Derived.Test.YtmajifnehjlncaaGf
import Derived.Test.YtmajifnehjlncaaQx3
namespace Go.Proofs.Ytmajifnehjlncaa.Gen
open Go.RowKit Go.Proofs.Ytmajifnehjlncaa.Q Go.Proofs.YtmajifnehjlncaaW.PrintWords Go.Proofs.YtmajifnehjlncaaW.PrintLast Go.Proofs.YtmajifnehjlncaaW.PrintMore Go.Proofs.Ytmajifnehjlncaa.Mb Go.Proofs.Ytmajifnehjlncaa.Cur
set_option linter.unusedSimpArgs false
set_option linter.unusedVariables false
/-- All numbers beside instructions fit 64 bits. -/
def E (acc:List S37):Prop:=∀ x∈acc,-9223372036854775808≤x.f1∧x.f1≤9223372036854775807
theorem E.nil:E []:=fun x hx=>by cases hx
theorem E.add {acc:List S37} (h:E acc) {o a:Int} (h0:-9223372036854775808≤a) (h1:a≤9223372036854775807):E (acc++[(⟨o,a⟩:S37)]):=fun x hx=>by
  rcases List.mem_append.1 hx with hx|hx
  · exact h x hx
  · rw[List.mem_singleton] at hx;rw[hx];exact⟨h0,h1⟩
theorem len1 (acc:List S37) (x:S37):(acc++[x]).length=acc.length+1:=by rw[List.length_append,List.length_singleton]
/-- What a draw tells. -/
def Out (acc:List S37) (a:Int) (N:Nat) (g:Nat→Option (List S37 × Int × Int)):Prop:=∃ r a' s',Ev g (r,a',s')∧E r∧r.length≤acc.length+N∧a≤a'∧a'≤a+N
def Gd (l:List Int) (w d:Int) (N:Nat):Prop:=∀ (acc:List S37) (a s ar:Int),E acc→acc.length+N≤1000000→0≤a→a+N≤1000000000000→Out acc a N (fun k=>spec_l1Cur_gen.f k l a s acc w d ar)
def J0 (l:List Int) (w d:Int) (N:Nat):Prop:=∀ (acc:List S37) (a s ar:Int),E acc→acc.length+N≤1000000→0≤a→a+N≤1000000000000→Out acc a N (fun k=>spec_l1Cur_gen.j0 k acc w d ar l a s)
theorem Out.step {acc:List S37} {a:Int} {N:Nat} {g f:Nat→Option (List S37 × Int × Int)} (hs:∀ k,g (k+1)=f k) (h:Out acc a N f):Out acc a N g:=by
  obtain⟨r,a',s',h1,h2⟩:=h
  exact⟨r,a',s',Ev.step hs h1,h2⟩
theorem Out.le {acc acc2:List S37} {a a2:Int} {N M:Nat} {g:Nat→Option (List S37 × Int × Int)} (h:Out acc2 a2 M g) (h1:acc2.length+M≤acc.length+N) (h2:a≤a2) (h3:a2+M≤a+N):Out acc a N g:=by
  obtain⟨r,a',s',e,h4,h5,h6,h7⟩:=h
  exact⟨r,a',s',e,h4,by omega,by omega,by omega⟩
theorem Out.yes {acc:List S37} {a:Int} {N:Nat} {c:Prop} [Decidable c] (hc:c) {f g:Nat→Option (List S37 × Int × Int)} (h:Out acc a N f):Out acc a N (fun k=>if c then f k else g k):=by
  obtain⟨r,a',s',⟨K,e⟩,h4⟩:=h
  exact⟨r,a',s',⟨K,fun k hk=>(if_pos hc).trans (e k hk)⟩,h4⟩
theorem Out.no {acc:List S37} {a:Int} {N:Nat} {c:Prop} [Decidable c] (hc:¬c) {f g:Nat→Option (List S37 × Int × Int)} (h:Out acc a N g):Out acc a N (fun k=>if c then f k else g k):=by
  obtain⟨r,a',s',⟨K,e⟩,h4⟩:=h
  exact⟨r,a',s',⟨K,fun k hk=>(if_neg hc).trans (e k hk)⟩,h4⟩
theorem Out.ite {acc:List S37} {a:Int} {N:Nat} {c:Prop} [Decidable c] {f g:Nat→Option (List S37 × Int × Int)} (h1:c→Out acc a N f) (h2:¬c→Out acc a N g):Out acc a N (fun k=>if c then f k else g k):=by
  by_cases hc:c
  · exact(h1 hc).yes hc
  · exact(h2 hc).no hc
theorem Out.bind {α:Type} {acc:List S37} {a:Int} {N:Nat} {g:Nat→Option α} {f:Nat→α→Option (List S37 × Int × Int)} {v:α} (h:Ev g v) (h2:Out acc a N (fun k=>f k v)):Out acc a N (fun k=>(g k).bind (f k)):=by
  obtain⟨r,a',s',e,h4⟩:=h2
  exact⟨r,a',s',Ev.bind h e,h4⟩
theorem Out.const {α:Type} {acc:List S37} {a:Int} {N:Nat} {g:Option α} {f:Nat→α→Option (List S37 × Int × Int)} {v:α} (h:g=some v) (h2:Out acc a N (fun k=>f k v)):Out acc a N (fun k=>g.bind (f k)):=by
  obtain⟨r,a',s',e,h4⟩:=h2
  exact⟨r,a',s',Ev.bind (h▸Ev.now v) e,h4⟩
/-- One instruction more. -/
theorem Out.put {acc:List S37} {a:Int} {N:Nat} {acc2:List S37} {a2 s2 o b:Int} (h:E acc2) (h1:acc2.length≤1000000) (hb:-9223372036854775808≤b∧b≤9223372036854775807) (h3:acc2.length+1≤acc.length+N) (h4:a≤a2) (h5:a2≤a+N):Out acc a N (fun _=>if acc2.length<8796093022208 then some (acc2++[(⟨o,b⟩:S37)],a2,s2) else none):=by
  refine Out.yes (by omega) ⟨_,_,_,Ev.now _,h.add hb.1 hb.2,?_,h4,h5⟩
  rw[len1];exact h3
/-- A call within. -/
theorem Out.call {l:List Int} {w d:Int} {M:Nat} (hG:Gd l w d M) {acc acc2:List S37} {a a2 s ar:Int} {N:Nat} {f:Nat→(List S37 × Int × Int)→Option (List S37 × Int × Int)} (hE:E acc2) (h1:acc2.length+M≤1000000) (h2:0≤a2) (h3:a2+M≤1000000000000)
    (h:∀ (r:List S37) (a' s':Int),E r→r.length≤acc2.length+M→a2≤a'→a'≤a2+M→Out acc a N (fun k=>f k (r,a',s'))):Out acc a N (fun k=>(spec_l1Cur_gen.f k l a2 s acc2 w d ar).bind (f k)):=by
  obtain⟨r,a',s',e,h4,h5,h6,h7⟩:=hG acc2 a2 s ar hE h1 h2 h3
  obtain⟨r2,a3,s3,e2,h8⟩:=h r a' s' h4 h5 h6 h7
  exact⟨r2,a3,s3,Ev.bind e e2,h8⟩
theorem Out.pick {l:List Int} (hl:U8 l) {acc:List S37} {a a2 s n:Int} {N:Nat} {f:Nat→(Int × Int × Int)→Option (List S37 × Int × Int)} (hn:1≤n) (hn2:n≤1000000) (h2:0≤a2) (h3:a2≤1000000000000)
    (h:∀ (r a' s':Int),0≤r→r<n→a2≤a'→a'≤a2+2→Out acc a N (fun k=>f k (r,a',s'))):Out acc a N (fun k=>(spec_l1Cur_pick.f l a2 s n).bind (f k)):=by
  obtain⟨r,a',s',e,h4,h5,h6,h7⟩:=pick_ok hl h2 (by omega) s n hn hn2
  exact Out.const e (h r a' s' h4 h5 h6 h7)
theorem Out.one {l:List Int} (hl:U8 l) {acc:List S37} {a a2 s n:Int} {N:Nat} {f:Nat→(Bool × Int × Int)→Option (List S37 × Int × Int)} (hn:1≤n) (hn2:n≤1000000) (h2:0≤a2) (h3:a2≤1000000000000)
    (h:∀ (r:Bool) (a' s':Int),a2≤a'→a'≤a2+2→Out acc a N (fun k=>f k (r,a',s'))):Out acc a N (fun k=>(spec_l1Cur_one.f l a2 s n).bind (f k)):=by
  obtain⟨r,a',s',e,h6,h7⟩:=one_ok hl h2 (by omega) s n hn hn2
  exact Out.const e (h r a' s' h6 h7)
theorem Out.among {l:List Int} (hl:U8 l) {acc:List S37} {a a2 s:Int} {L:List Int} {N:Nat} {f:Nat→(Int × Int × Int)→Option (List S37 × Int × Int)} (hn:1≤L.length) (hn2:L.length≤1000000) (h2:0≤a2) (h3:a2≤1000000000000)
    (h:∀ (r a' s':Int),r∈L→a2≤a'→a'≤a2+2→Out acc a N (fun k=>f k (r,a',s'))):Out acc a N (fun k=>(spec_l1Cur_among.f l a2 s L).bind (f k)):=by
  obtain⟨r,a',s',e,h4,h6,h7⟩:=among_ok hl h2 (by omega) s L hn hn2
  exact Out.const e (h r a' s' h4 h6 h7)
/-- The bound of a draw. -/
def bd:Nat→Nat
  |0=>64
  |n+1=>3*bd n+204
theorem bd_ge:∀ n,64≤bd n
  |0=>Nat.le_refl _
  |n+1=>by have:=bd_ge n;rw[bd];omega
theorem Gd.le {l:List Int} {w d:Int} {N M:Nat} (h:Gd l w d N) (hNM:N≤M):Gd l w d M:=fun acc a s ar hE hacc ha hb=>(h acc a s ar hE (by omega) ha (by omega)).le (by omega) (by omega) (by omega)
variable {l:List Int} (hl:U8 l)
theorem of_j0 {w d:Int} {N:Nat} (h:J0 l w d N) (h0:J0 l w 0 N):Gd l w d N:=by
  intro acc a s ar hE hacc ha hb
  by_cases c:(acc.length:Int) > 120
  · exact(h0 acc a s ar hE hacc ha hb).step fun k=>by rw[spec_l1Cur_gen.f,if_pos c]
  · exact(h acc a s ar hE hacc ha hb).step fun k=>by rw[spec_l1Cur_gen.f,if_neg c]
include hl
/-- A leaf. -/
theorem leaf {w d:Int} (hw:w=127∨w=126∨w=125) (hd:d≤0):J0 l w d 64:=by
  intro acc a s ar hE hacc ha hb
  have b0:∀ {x:Int},0≤x→x≤4294967295→-9223372036854775808≤x∧x≤9223372036854775807:=fun h h2=>⟨by omega,by omega⟩
  refine Out.step (fun k=>by rw[spec_l1Cur_gen.j0,if_neg (by omega:¬w=64),if_pos hd]) ?_
  refine Out.ite (fun c=>?_) (fun c=>Out.ite (fun c2=>?_) (fun c2=>?_))
  · refine Out.one hl (by decide) (by decide) ha (by omega) fun r a1 s1 h1 h2=>?_
    try dsimp only
    refine Out.ite (fun c=>?_) (fun c=>?_)
    · refine Out.pick hl (by decide) (by decide) (by omega) (by omega) fun x a2 s2 h3 h4 h5 h6=>?_
      try dsimp only
      exact Out.put hE (by omega) (b0 h3 (by omega)) (by omega) (by omega) (by omega)
    · refine Out.pick hl (by decide) (by decide) (by omega) (by omega) fun x a2 s2 h3 h4 h5 h6=>?_
      try dsimp only
      exact Out.put hE (by omega) (wrap64_range _) (by omega) (by omega) (by omega)
  · refine Out.one hl (by decide) (by decide) ha (by omega) fun r a1 s1 h1 h2=>?_
    try dsimp only
    refine Out.ite (fun c=>?_) (fun c=>?_)
    · exact Out.put hE (by omega) (b0 (by decide) (by decide)) (by omega) (by omega) (by omega)
    · obtain⟨x,a2,s2,e,h3,h4,h5,h6⟩:=signed_ok hl (a:=a1) (by omega) (by omega) s1 (k:=9) (Nat.le_refl _)
      refine Out.bind (g:=fun k=>spec_l1Cur_signed.f k l a1 s1) (v:=(x,a2,s2)) (Ev.of (fun k=>spec_l1Cur_signed.mono _ _ _ k) e) ?_
      try dsimp only
      exact Out.put hE (by omega) ⟨h3,h4⟩ (by omega) (by omega) (by omega)
  · obtain⟨x,a2,s2,e,h5,h6⟩:=float32_ok hl (a:=a) (by omega) (by omega) s (k:=100) (Nat.le_refl _)
    refine Out.bind (g:=fun k=>spec_l1Cur_float.f k l a s 32) (v:=(x,a2,s2)) (Ev.of (fun k=>spec_l1Cur_float.mono _ _ _ _ k) e) ?_
    try dsimp only
    exact Out.put hE (by omega) (wrap64_range _) (by omega) (by omega) (by omega)
/-- The arms of a draw that leaves nothing, behind its choice of 1, 2. -/
theorem none_j1 {d p:Int} {b:Bool} {N:Nat} (hw:∀ w,w=127∨w=126→Gd l w (wrap64 (d - 1)) N) (hn:d > 0→Gd l 64 (wrap64 (d - 1)) N) (hz:Gd l 127 0 64) (acc:List S37) (a s ar:Int) (hE:E acc) (hacc:acc.length+(3*N+200)≤1000000) (ha:0≤a) (hb:a+((3*N+200:Nat):Int)≤1000000000000) (a0:Int) (ha0:0≤a0) (ha1:a0≤a) (ha2:a≤a0+2):
    Out acc a0 (3*N+202) (fun k=>spec_l1Cur_gen.j1 k acc d ar p b l a s):=by
  have b0:∀ {x:Int},0≤x→x≤4294967295→-9223372036854775808≤x∧x≤9223372036854775807:=fun h h2=>⟨by omega,by omega⟩
  refine Out.step (fun k=>by rw[spec_l1Cur_gen.j1]) ?_
  have drop:∀ w,w=127∨w=126→∀ o c:Int,0≤c→c≤4294967295→Out acc a0 (3*N+202) (fun k=>(spec_l1Cur_gen.f k l a s acc w (wrap64 (d - 1)) ar).bind fun bt=>if bt.1.length<8796093022208 then some (bt.1++[(⟨o,c⟩:S37)],bt.2.1,bt.2.2) else none):=by
    intro w h o c h0 h1
    refine Out.call (hw w h) hE (by omega) ha (by omega) fun r a1 s1 h1 h2 h3 h4=>?_
    try dsimp only
    exact Out.put h1 (by omega) (b0 h0 (by omega)) (by omega) (by omega) (by omega)
  refine Out.ite (fun c=>?_) (fun c=>Out.ite (fun c3=>Out.ite (fun cd=>?_) (fun cd=>?_)) (fun c3=>Out.ite (fun c4=>?_) (fun c4=>Out.ite (fun c5=>?_) (fun c5=>?_))))
  · refine Out.call (hw 127 (Or.inl rfl)) hE (by omega) ha (by omega) fun r a1 s1 h1 h2 h3 h4=>?_
    try dsimp only
    refine Out.pick hl (by decide) (by decide) (by omega) (by omega) fun x a2 s2 h5 h6 h7 h8=>?_
    try dsimp only
    exact Out.put h1 (by omega) (b0 h5 (by omega)) (by omega) (by omega) (by omega)
  · refine Out.among hl (by decide) (by decide) (by omega) (by omega) fun x a2 s2 h5 h7 h8=>?_
    try dsimp only
    refine Out.yes (by omega) ?_
    have hE1:E (acc++[(⟨x,64⟩:S37)]):=hE.add (by decide) (by decide)
    have hL1:=len1 acc ⟨x,64⟩
    refine Out.call (hn cd) hE1 (by omega) (by omega) (by omega) fun r a3 s3 h1 h2 h3 h4=>?_
    try dsimp only
    refine Out.one hl (by decide) (by decide) (by omega) (by omega) fun y a4 s4 h9 h10=>?_
    try dsimp only
    refine Out.ite (fun c=>?_) (fun c=>?_)
    · refine Out.call hz h1 (by omega) (by omega) (by omega) fun r5 a5 s5 h11 h12 h13 h14=>?_
      try dsimp only
      refine Out.yes (by omega) ?_
      have hE2:E (r5++[(⟨13,0⟩:S37)]):=h11.add (by decide) (by decide)
      have hL2:=len1 r5 ⟨13,0⟩
      refine Out.const rfl ?_
      try dsimp only
      exact Out.put hE2 (by omega) (b0 (by decide) (by decide)) (by omega) (by omega) (by omega)
    · exact Out.put h1 (by omega) (b0 (by decide) (by decide)) (by omega) (by omega) (by omega)
  · exact drop 127 (Or.inl rfl) 26 0 (by decide) (by decide)
  · refine Out.pick hl (by decide) (by decide) (by omega) (by omega) fun x a2 s2 h5 h6 h7 h8=>?_
    try dsimp only
    refine Out.yes (by omega) ?_
    have hE1:E (acc++[(⟨65,x⟩:S37)]):=hE.add (by omega) (by omega)
    have hL1:=len1 acc ⟨65,x⟩
    refine Out.call (hw 127 (Or.inl rfl)) hE1 (by omega) (by omega) (by omega) fun r a3 s3 h1 h2 h3 h4=>?_
    try dsimp only
    refine Out.pick hl (by decide) (by decide) (by omega) (by omega) fun y a4 s4 h9 h10 h11 h12=>?_
    try dsimp only
    exact Out.put h1 (by omega) (b0 h9 (by omega)) (by omega) (by omega) (by omega)
  · exact drop 126 (Or.inr rfl) 33 2 (by decide) (by decide)
  · exact drop 127 (Or.inl rfl) 26 0 (by decide) (by decide)
/-- One step deeper. -/
theorem deeper {w d:Int} {N:Nat} (hN:64≤N) (hw0:w=127∨w=126∨w=125∨w=64) (hw:∀ w,w=127∨w=126∨w=125→Gd l w (wrap64 (d - 1)) N) (hn:d > 0→Gd l 64 (wrap64 (d - 1)) N) (hz:Gd l 127 0 64):J0 l w d (3*N+204):=by
  intro acc a s ar hE hacc ha hb
  have b0:∀ {x:Int},0≤x→x≤4294967295→-9223372036854775808≤x∧x≤9223372036854775807:=fun h h2=>⟨by omega,by omega⟩
  by_cases c64:w=64
  · refine Out.step (fun k=>by rw[spec_l1Cur_gen.j0,if_pos c64]) ?_
    refine Out.pick hl (by decide) (by decide) (by omega) (by omega) fun x a2 s2 h5 h6 h7 h8=>?_
    try dsimp only
    have hj:∀ b:Bool,Out acc a (3*N+204) (fun k=>spec_l1Cur_gen.j1 k acc d ar x b l a2 s2):=fun b=>
      (none_j1 hl (fun w h=>hw w (by omega)) hn hz acc a2 s2 ar hE (by omega) (by omega) (by omega) a (by omega) (by omega) (by omega)).le (by omega) (by omega) (by omega)
    refine Out.ite (fun c=>?_) (fun c=>Out.ite (fun c1=>hj _) (fun c1=>hj _))
    exact Out.put hE (by omega) (b0 (by decide) (by decide)) (by omega) (by omega) (by omega)
  · have hw3:w=127∨w=126∨w=125:=by omega
    by_cases cd:d≤0
    · exact(leaf hl hw3 cd acc a s ar hE (by omega) ha (by omega)).le (by omega) (by omega) (by omega)
    · refine Out.step (fun k=>by rw[spec_l1Cur_gen.j0,if_neg c64,if_neg cd]) ?_
      have one:∀ w,w=127∨w=126∨w=125→∀ (acc2:List S37) (a2 s2 o:Int),E acc2→acc2.length≤acc.length+2*N+100→a≤a2→a2≤a+2*N+100→Out acc a (3*N+204) (fun k=>(spec_l1Cur_gen.f k l a2 s2 acc2 w (wrap64 (d - 1)) ar).bind fun bt=>if bt.1.length<8796093022208 then some (bt.1++[(⟨o,0⟩:S37)],bt.2.1,bt.2.2) else none):=by
        intro w h acc2 a2 s2 o hE2 hA hB hC
        refine Out.call (hw w h) hE2 (by omega) (by omega) (by omega) fun r a1 s1 h1 h2 h3 h4=>?_
        try dsimp only
        exact Out.put h1 (by omega) (b0 (by decide) (by decide)) (by omega) (by omega) (by omega)
      refine Out.pick hl (by decide) (by decide) (by omega) (by omega) fun x a2 s2 h5 h6 h7 h8=>?_
      try dsimp only
      refine Out.ite (fun c=>?_) (fun c=>Out.ite (fun c1=>?_) (fun c1=>Out.ite (fun cA=>?_) (fun cA=>Out.ite (fun cB=>?_) (fun cB=>?_))))
      · refine Out.call (hw 127 (by omega)) hE (by omega) (by omega) (by omega) fun r a3 s3 h1 h2 h3 h4=>?_
        try dsimp only
        refine Out.yes (by omega) ?_
        have hE1:E (r++[(⟨4,w⟩:S37)]):=h1.add (by omega) (by omega)
        have hL1:=len1 r ⟨4,w⟩
        refine Out.call (hw w hw3) hE1 (by omega) (by omega) (by omega) fun r4 a4 s4 h11 h12 h13 h14=>?_
        try dsimp only
        refine Out.yes (by omega) ?_
        have hE2:E (r4++[(⟨5,0⟩:S37)]):=h11.add (by omega) (by omega)
        have hL2:=len1 r4 ⟨5,0⟩
        refine Out.call (hw w hw3) hE2 (by omega) (by omega) (by omega) fun r5 a5 s5 h21 h22 h23 h24=>?_
        try dsimp only
        exact Out.put h21 (by omega) (b0 (by decide) (by decide)) (by omega) (by omega) (by omega)
      · refine Out.call (hn (by omega)) hE (by omega) (by omega) (by omega) fun r a3 s3 h1 h2 h3 h4=>?_
        try dsimp only
        refine Out.call (hw w hw3) h1 (by omega) (by omega) (by omega) fun r4 a4 s4 h11 h12 h13 h14=>?_
        try dsimp only
        exact⟨_,_,_,Ev.now _,h11,by omega,by omega,by omega⟩
      · refine Out.pick hl (by decide) (by decide) (by omega) (by omega) fun y a3 s3 h9 h10 h11 h12=>?_
        try dsimp only
        refine Out.ite (fun c=>?_) (fun c=>Out.ite (fun c1=>?_) (fun c1=>Out.ite (fun cA=>?_) (fun cA=>Out.ite (fun cB=>?_) (fun cB=>?_))))
        · refine Out.call (hw 127 (by omega)) hE (by omega) (by omega) (by omega) fun r a4 s4 h1 h2 h3 h4=>?_
          try dsimp only
          refine Out.pick hl (by decide) (by decide) (by omega) (by omega) fun z a5 s5 h13 h14 h15 h16=>?_
          try dsimp only
          exact Out.put h1 (by omega) (b0 (by decide) (by decide)) (by omega) (by omega) (by omega)
        · exact one 126 (by omega) _ _ _ _ hE (by omega) (by omega) (by omega)
        · exact one 125 (by omega) _ _ _ _ hE (by omega) (by omega) (by omega)
        · refine Out.call hz hE (by omega) (by omega) (by omega) fun r a4 s4 h1 h2 h3 h4=>?_
          try dsimp only
          refine Out.pick hl (by decide) (by decide) (by omega) (by omega) fun z a5 s5 h13 h14 h15 h16=>?_
          try dsimp only
          exact Out.put h1 (by omega) (b0 h13 (by omega)) (by omega) (by omega) (by omega)
        · refine Out.call (hw 127 (by omega)) hE (by omega) (by omega) (by omega) fun r a4 s4 h1 h2 h3 h4=>?_
          try dsimp only
          refine Out.call (hw 127 (by omega)) h1 (by omega) (by omega) (by omega) fun r5 a5 s5 h21 h22 h23 h24=>?_
          try dsimp only
          refine Out.pick hl (by decide) (by decide) (by omega) (by omega) fun z a6 s6 h13 h14 h15 h16=>?_
          try dsimp only
          exact Out.put h21 (by omega) (b0 (by decide) (by decide)) (by omega) (by omega) (by omega)
      · refine Out.one hl (by decide) (by decide) (by omega) (by omega) fun y a3 s3 h9 h10=>?_
        try dsimp only
        refine Out.ite (fun c=>?_) (fun c=>?_)
        · refine Out.call (hw 127 (by omega)) hE (by omega) (by omega) (by omega) fun r a4 s4 h1 h2 h3 h4=>?_
          try dsimp only
          refine Out.pick hl (by decide) (by decide) (by omega) (by omega) fun z a5 s5 h13 h14 h15 h16=>?_
          try dsimp only
          exact Out.put h1 (by omega) (b0 (by decide) (by decide)) (by omega) (by omega) (by omega)
        · refine Out.call (hw 126 (by omega)) hE (by omega) (by omega) (by omega) fun r a4 s4 h1 h2 h3 h4=>?_
          try dsimp only
          refine Out.call (hw 126 (by omega)) h1 (by omega) (by omega) (by omega) fun r5 a5 s5 h21 h22 h23 h24=>?_
          try dsimp only
          refine Out.pick hl (by decide) (by decide) (by omega) (by omega) fun z a6 s6 h13 h14 h15 h16=>?_
          try dsimp only
          exact Out.put h21 (by omega) (b0 (by decide) (by decide)) (by omega) (by omega) (by omega)
      · refine Out.one hl (by decide) (by decide) (by omega) (by omega) fun y a3 s3 h9 h10=>?_
        try dsimp only
        refine Out.ite (fun c=>?_) (fun c=>?_)
        · exact one 127 (by omega) _ _ _ _ hE (by omega) (by omega) (by omega)
        · refine Out.call (hw 125 (by omega)) hE (by omega) (by omega) (by omega) fun r a4 s4 h1 h2 h3 h4=>?_
          try dsimp only
          refine Out.call (hw 125 (by omega)) h1 (by omega) (by omega) (by omega) fun r5 a5 s5 h21 h22 h23 h24=>?_
          try dsimp only
          refine Out.pick hl (by decide) (by decide) (by omega) (by omega) fun z a6 s6 h13 h14 h15 h16=>?_
          try dsimp only
          exact Out.put h21 (by omega) (b0 (by decide) (by decide)) (by omega) (by omega) (by omega)
theorem gen_leaf {w d:Int} (hw:w=127∨w=126∨w=125) (hd:d≤0):Gd l w d 64:=of_j0 (leaf hl hw hd) (leaf hl hw (Int.le_refl _))
omit hl in
theorem gen_all (hl:U8 l):∀ (n:Nat) (w d:Int),n≤100→(w=127∨w=126∨w=125∨w=64)→0≤d→d≤(n:Int)→J0 l w d (bd (n+1))
  |0,w,d,hn,hw,h0,h1=>by
    obtain rfl:d=0:=by omega
    have e:wrap64 ((0:Int) - 1)=-1:=w64 (by decide) (by decide)
    exact deeper hl (Nat.le_refl _) hw (fun w h=>by rw[e];exact gen_leaf hl h (by decide)) (fun h=>absurd h (by decide)) (gen_leaf hl (Or.inl rfl) (Int.le_refl _))
  |n+1,w,d,hn,hw,h0,h1=>by
    have hb:=bd_ge (n+1)
    have ih:∀ w d,(w=127∨w=126∨w=125∨w=64)→0≤d→d≤(n:Int)→Gd l w d (bd (n+1)):=fun w d h h2 h3=>of_j0 (gen_all hl n w d (by omega) h h2 h3) (gen_all hl n w 0 (by omega) h (Int.le_refl _) (by omega))
    by_cases c:d=0
    · subst c
      have e:wrap64 ((0:Int) - 1)=-1:=w64 (by decide) (by decide)
      exact deeper hl hb hw (fun w h=>by rw[e];exact Gd.le (gen_leaf hl h (by decide)) hb) (fun h=>absurd h (by decide)) (gen_leaf hl (Or.inl rfl) (Int.le_refl _))
    · have e:wrap64 (d - 1)=d - 1:=w64 (by omega) (by omega)
      exact deeper hl hb hw (fun w h=>by rw[e];exact ih w _ (by omega) (by omega) (by omega)) (fun h=>by rw[e];exact ih 64 _ (by omega) (by omega) (by omega)) (gen_leaf hl (Or.inl rfl) (Int.le_refl _))
theorem gen_ok {w d:Int} (hw:w=127∨w=126∨w=125∨w=64) (h0:0≤d) (h1:d≤3):Gd l w d 20000:=Gd.le (of_j0 (gen_all hl 3 w d (by decide) hw h0 h1) (gen_all hl 3 w 0 (by decide) hw (Int.le_refl _) (by omega))) (by decide)
end Go.Proofs.Ytmajifnehjlncaa.Gen
