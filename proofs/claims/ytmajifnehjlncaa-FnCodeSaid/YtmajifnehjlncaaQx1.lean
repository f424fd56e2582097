-- Written by a program of this session; it walks the functions that the law reaches.
import Derived.Test.YtmajifnehjlncaaQx0
namespace Go.Proofs.Ytmajifnehjlncaa.Q
open Go.RowKit Go.Proofs.YtmajifnehjlncaaW.PrintWords Go.Proofs.YtmajifnehjlncaaW.PrintLast Go.Proofs.YtmajifnehjlncaaW.PrintMore
attribute [local go_sem] max2_int min2_int max_two min_two max_three min_three max_four min_four   -- for this text's walks alone
set_option linter.unusedVariables false
set_option linter.unusedSimpArgs false
set_option maxRecDepth 100000
set_option maxHeartbeats 8000000

theorem eqA37 (d:Nat) (w:World) (x0 y0:Int) (x1 y1:Int):
  (Op.equalIn (d+2) 37 (.agg #[.int .i64 x0,.int .i64 x1]) (.agg #[.int .i64 y0,.int .i64 y1])).run Try.prog w=.ok (x0==y0 && (x1==y1)) w:=by
 refine eqA_of Try.underlying37 (by kernel_rfl) ?_
 refine eqf_cons (by rfl) (by go_simp;rfl) (by go_simp;rfl) (by go_simp) ?_
 exact eqf_last (by rfl) (by go_simp;rfl) (by go_simp;rfl) (by go_simp)

/-- A state of type 42 at block g of W; what its slices lead to came in by w0. -/
def IsS42 (w0 W:World) (g:Nat) (f0:List Int) (f1:Int) (f2:Int):Prop:=∃ A0 c0,W.heap[g]? =some (.cells #[.slice A0 f0.length c0,.int .i64 f1,.int .u64 f2] 42 (0,0))∧w0.heap.size≤g∧Kd.C (Kd.int .u8) w0 A0 f0.length f0
section
variable {w0 W:World} {g:Nat} {f0:List Int} {f1:Int} {f2:Int}
theorem IsS42.grown {W1:World} {row:Option Nat} (h:IsS42 w0 W g f0 f1 f2) (hw:W.grownBy W1 row) (hne:some g≠row):IsS42 w0 W1 g f0 f1 f2:=by
 obtain⟨A0,c0,hb,hg,hr0⟩:=h
 exact⟨A0,c0,blk_grown hb hw hne,hg,hr0⟩
theorem IsS42.own_neN {α:Type} {d:Kd α} {e:Nat} {base:Nat} {ok:Nat→Prop} {v:Value} {xs:List α} (h:IsS42 w0 W g f0 f1 f2) (ho:Kd.N d e W base ok v xs) (ht:e≠42):some g≠v.ownBlock:=by
 obtain⟨A0,c0,hb,hg,hr0⟩:=h
 exact Kd.N_ne ho hb ht
theorem IsS42.fresh (h:IsS42 w0 W g f0 f1 f2):∀ k,W.heap.size≤k→k≠g:=by
 obtain⟨A0,c0,hb,hg,hr0⟩:=h
 exact Kd.freshB hb
theorem IsS42.kept {W1:World} {S:Nat→Prop} (h:IsS42 w0 W g f0 f1 f2) (hk:Kept W W1 S) (hne:¬S g):IsS42 w0 W1 g f0 f1 f2:=by
 obtain⟨A0,c0,hb,hg,hr0⟩:=h
 exact⟨A0,c0,blk_kept hb hk hne,hg,hr0⟩
theorem IsS42.below {W1:World} (h:IsS42 w0 W g f0 f1 f2) (hw:Below W.heap.size W W1):IsS42 w0 W1 g f0 f1 f2:=h.grown (grown_of_below hw none) (by simp)
theorem IsS42.alloc (h:IsS42 w0 W g f0 f1 f2) (o:Obj):IsS42 w0 (W.alloc o) g f0 f1 f2:=h.below (below_alloc (Below.refl _ _) o)
theorem IsS42.drewN (h:IsS42 w0 W g f0 f1 f2) (m:Nat):IsS42 w0 (W.drewN m) g f0 f1 f2:=h
theorem IsS42.drew (h:IsS42 w0 W g f0 f1 f2):IsS42 w0 W.drew g f0 f1 f2:=h
theorem IsS42.at_ {w':World} {m:Nat} (hq:W.drewN m=w') (h:IsS42 w0 W g f0 f1 f2):IsS42 w0 w' g f0 f1 f2:=by subst hq;exact IsS42.drewN h m
theorem IsS42.apart {α:Type} {d:Kd α} {e:Nat} {base:Nat} {ok:Nat→Prop} {v:Value} {xs:List α} (h:IsS42 w0 W g f0 f1 f2) (ho:d.R e W base ok v xs) (ht:∀ q,q∈e ::d.E→q≠42):d.R e W base (fun k=>ok k∧k≠g) v xs:=by
 obtain⟨A0,c0,hb,hg,hr0⟩:=h
 exact Kd.R_types ho hb ht
theorem IsS42.own_ne {α:Type} {d:Kd α} {e:Nat} {base:Nat} {ok:Nat→Prop} {v:Value} {xs:List α} (h:IsS42 w0 W g f0 f1 f2) (ho:d.R e W base ok v xs) (ht:e≠42):some g≠v.ownBlock:=by
 obtain⟨A0,c0,hb,hg,hr0⟩:=h
 exact Kd.R_ne ho hb ht
theorem IsS42.apartQ {α:Type} {d:Kd α} {e:Nat} {base:Nat} {ok:Nat→Prop} {v:Value} {xs:List α} (h:IsS42 w0 W g f0 f1 f2) (ho:d.Q e W base ok v xs) (ht:∀ q,q∈e ::d.E→q≠42):d.Q e W base (fun k=>ok k∧k≠g) v xs:=by
 obtain⟨A0,c0,hb,hg,hr0⟩:=h
 exact Kd.Q_types ho hb ht
theorem IsS42.own_neQ {α:Type} {d:Kd α} {e:Nat} {base:Nat} {ok:Nat→Prop} {v:Value} {xs:List α} (h:IsS42 w0 W g f0 f1 f2) (ho:d.Q e W base ok v xs) (ht:e≠42):some g≠v.ownBlock:=by
 obtain⟨A0,c0,hb,hg,hr0⟩:=h
 exact Kd.Q_ne ho hb ht
theorem IsS42.apartS {α:Type} {d:Kd α} {e:Nat} {base:Nat} {ok:Nat→Prop} {v:Value} {xs:List α} (h:IsS42 w0 W g f0 f1 f2) (ho:d.S e W base ok v xs) (ht:∀ q,q∈e ::d.E→q≠42):d.S e W base (fun k=>ok k∧k≠g) v xs:=by
 obtain⟨A0,c0,hb,hg,hr0⟩:=h
 exact Kd.S_types ho hb ht
theorem IsS42.own_neS {α:Type} {d:Kd α} {e:Nat} {base:Nat} {ok:Nat→Prop} {v:Value} {xs:List α} (h:IsS42 w0 W g f0 f1 f2) (ho:d.S e W base ok v xs) (ht:e≠42):some g≠v.ownBlock:=by
 obtain⟨A0,c0,hb,hg,hr0⟩:=h
 exact Kd.S_ne ho hb ht
theorem IsS42.lt (h:IsS42 w0 W g f0 f1 f2):g<W.heap.size:=by
 obtain⟨A0,c0,hb,hg,hr0⟩:=h
 exact blk_lt hb
theorem IsS42.ge (h:IsS42 w0 W g f0 f1 f2):w0.heap.size≤g:=by
 obtain⟨A0,c0,hb,hg,hr0⟩:=h
 exact hg
theorem IsS42.ne_blk {a:Nat} {cs:Array Value} {t:TypeId} {fr:Nat × Nat} (h:IsS42 w0 W g f0 f1 f2) (hb2:W.heap[a]? =some (.cells cs t fr)) (ht:t≠42):g≠a:=by
 obtain⟨A0,c0,hb,hg,hr0⟩:=h
 rintro rfl
 rw[hb] at hb2
 injection hb2 with hb2
 injection hb2 with _ ht2
 exact ht ht2.symm
theorem IsS42.far {p:Addr} (h:IsS42 w0 W g f0 f1 f2) (hne:g≠p.block) (u:Value):IsS42 w0 (W.setCell p u) g f0 f1 f2:=by
 obtain⟨A0,c0,hb,hg,hr0⟩:=h
 exact⟨A0,c0,blk_far hb hne u,hg,hr0⟩
end
section
variable {W:World} {g:Nat} {A0:Option Addr} {c0:Nat} {f0:List Int} {f1:Int} {f2:Int}
theorem cellS42_0 (h:W.heap[g]? =some (.cells #[.slice A0 f0.length c0,.int .i64 f1,.int .u64 f2] 42 (0,0))):W.cell? ⟨g,0,none⟩=some (.slice A0 f0.length c0):=(blk_cell h 0).trans rfl
theorem cellS42_1 (h:W.heap[g]? =some (.cells #[.slice A0 f0.length c0,.int .i64 f1,.int .u64 f2] 42 (0,0))):W.cell? ⟨g,1,none⟩=some (.int .i64 f1):=(blk_cell h 1).trans rfl
end
theorem IsS42.set_1 {w0 W:World} {g:Nat} {f0:List Int} {f1:Int} {f2:Int} (h:IsS42 w0 W g f0 f1 f2) (x:Int):IsS42 w0 (W.setCell ⟨g,1,none⟩ (.int .i64 x)) g f0 x f2:=by
 obtain⟨A0,c0,hb,hg,hr0⟩:=h
 exact⟨A0,c0,by simpa using blk_set hb 1 (.int .i64 x),hg,hr0⟩
theorem cellS42_2 {W:World} {g:Nat} {A0:Option Addr} {c0:Nat} {f0:List Int} {f1:Int} {f2:Int} (h:W.heap[g]? =some (.cells #[.slice A0 f0.length c0,.int .i64 f1,.int .u64 f2] 42 (0,0))):W.cell? ⟨g,2,none⟩=some (.int .u64 f2):=(blk_cell h 2).trans rfl
theorem IsS42.set_2 {w0 W:World} {g:Nat} {f0:List Int} {f1:Int} {f2:Int} (h:IsS42 w0 W g f0 f1 f2) (x:Int):IsS42 w0 (W.setCell ⟨g,2,none⟩ (.int .u64 x)) g f0 f1 x:=by
 obtain⟨A0,c0,hb,hg,hr0⟩:=h
 exact⟨A0,c0,by simpa using blk_set hb 2 (.int .u64 x),hg,hr0⟩
theorem IsS42.new (w0 W:World) (A0:Option Addr) (c0:Nat) (f0:List Int) (f1:Int) (f2:Int) (hB:Below w0.heap.size w0 W) (hr0:Kd.C (Kd.int .u8) w0 A0 f0.length f0):IsS42 w0 (W.alloc (.cells #[.slice A0 f0.length c0,.int .i64 f1,.int .u64 f2] 42)) W.heap.size f0 f1 f2:=⟨A0,c0,by simpa using heap_alloc_new W _,hB.size,hr0⟩

theorem y1 {p q:Prop} (x:q) (h:q→p:=by intro h;repeat (first|(with_reducible first|exact h|apply IsS42.alloc|apply IsS42.drewN|apply IsS42.drew|apply IsS42.set_1|apply IsS42.set_2)|exact h)):p:=h x
theorem y2 {p q:Prop} (x:q) (h:q→p:=by intro h;repeat (first|(with_reducible first|exact h|apply below_alloc|apply pw_below_drewN|apply below_drew1|refine below_set ?_ (IsS42.ge (Aside0.out (by assumption))))|exact h)):p:=h x
theorem y3 {p q:Prop} (x:q) (h:q→p:=by intro h;repeat (first|(with_reducible first|exact h|apply IsS42.alloc|apply IsS42.drewN|apply IsS42.drew|apply IsS42.set_1|apply IsS42.set_2|refine IsS42.far ?_ (Aside0.out (by assumption)) _)|exact h)):p:=h x
theorem y5 {p q:Prop} (x:q) (h:q→p:=by intro h;repeat (first|(with_reducible first|exact h|apply below_alloc|apply pw_below_drewN|apply below_drew1|refine below_set ?_ (IsS42.ge (Aside0.out (by assumption)))|refine below_set ?_ (Aside0.out (by assumption)))|exact h)):p:=h x
/-! ### spec_l1Cur_next: function 28 -/
def spec_l1Cur_next.f (s0_0:List Int) (s0_1:Int) (s0_2:Int):Option (Int × Int × Int):=if s0_1<(s0_0.length:Int) then (if 0≤s0_1 then (if (wrap64 (s0_1+1))≤(s0_0.length:Int) then (some (wrap64 (rd s0_0 s0_1),wrap64 (s0_1+1),IntKind.u64.wrap ((IntKind.u64.wrap ((IntKind.u64.wrap (s0_2*6364136223846793005))+(IntKind.u64.wrap (wrap64 (rd s0_0 s0_1)))))+1442695040888963407))) else (some (wrap64 (Go.bits .and .u64 ((IntKind.u64.wrap ((IntKind.u64.wrap ((IntKind.u64.wrap (s0_2*6364136223846793005))+(IntKind.u64.wrap (wrap64 (rd s0_0 s0_1)))))+1442695040888963407)) / 1099511627776) 255),wrap64 (s0_1+1),IntKind.u64.wrap ((IntKind.u64.wrap ((IntKind.u64.wrap (s0_2*6364136223846793005))+(IntKind.u64.wrap (wrap64 (rd s0_0 s0_1)))))+1442695040888963407)))) else (none)) else (if (wrap64 (s0_1+1))≤(s0_0.length:Int) then (some (0,wrap64 (s0_1+1),IntKind.u64.wrap ((IntKind.u64.wrap (IntKind.u64.wrap (s0_2*6364136223846793005)))+1442695040888963407))) else (some (wrap64 (Go.bits .and .u64 ((IntKind.u64.wrap ((IntKind.u64.wrap (IntKind.u64.wrap (s0_2*6364136223846793005)))+1442695040888963407)) / 1099511627776) 255),wrap64 (s0_1+1),IntKind.u64.wrap ((IntKind.u64.wrap (IntKind.u64.wrap (s0_2*6364136223846793005)))+1442695040888963407))))
theorem spec_l1Cur_next.calls (g:Nat) (s0_0:List Int) (s0_1:Int) (s0_2:Int) (r1:Int) (r2:Int) (r3:Int) (w0 w:World) (hI:IsS42 w0 w g s0_0 s0_1 s0_2) (hB:Below w0.heap.size w0 w) (h:spec_l1Cur_next.f s0_0 s0_1 s0_2=some (r1,r2,r3)):
  Calls Try.prog 28 #[.pointer (some ⟨g,0,none⟩)] w fun e w'=>e=.returned (.int .i64 r1)∧IsS42 w0 w' g s0_0 r2 r3∧Below w0.heap.size w0 w'∧KeepBut w w' g none:=by
 have HI0:=A_ hI
 have HK:=A_ (KeepBut.refl w g none)
 have HL:=A_ hB.size
 clear hI
 have HW0:=A_ hB.size
 have HB:=A_ hB
 clear hB
 have H:(if s0_1<(s0_0.length:Int) then (if 0≤s0_1 then (if (wrap64 (s0_1+1))≤(s0_0.length:Int) then (some (wrap64 (rd s0_0 s0_1),wrap64 (s0_1+1),IntKind.u64.wrap ((IntKind.u64.wrap ((IntKind.u64.wrap (s0_2*6364136223846793005))+(IntKind.u64.wrap (wrap64 (rd s0_0 s0_1)))))+1442695040888963407))) else (some (wrap64 (Go.bits .and .u64 ((IntKind.u64.wrap ((IntKind.u64.wrap ((IntKind.u64.wrap (s0_2*6364136223846793005))+(IntKind.u64.wrap (wrap64 (rd s0_0 s0_1)))))+1442695040888963407)) / 1099511627776) 255),wrap64 (s0_1+1),IntKind.u64.wrap ((IntKind.u64.wrap ((IntKind.u64.wrap (s0_2*6364136223846793005))+(IntKind.u64.wrap (wrap64 (rd s0_0 s0_1)))))+1442695040888963407)))) else (none)) else (if (wrap64 (s0_1+1))≤(s0_0.length:Int) then (some (0,wrap64 (s0_1+1),IntKind.u64.wrap ((IntKind.u64.wrap (IntKind.u64.wrap (s0_2*6364136223846793005)))+1442695040888963407))) else (some (wrap64 (Go.bits .and .u64 ((IntKind.u64.wrap ((IntKind.u64.wrap (IntKind.u64.wrap (s0_2*6364136223846793005)))+1442695040888963407)) / 1099511627776) 255),wrap64 (s0_1+1),IntKind.u64.wrap ((IntKind.u64.wrap (IntKind.u64.wrap (s0_2*6364136223846793005)))+1442695040888963407)))))=some (r1,r2,r3):=h
 clear h
 by_cases c2:s0_1<(s0_0.length:Int)
 ·
  rw[if_pos c2] at H
  have c2b0:=decide_eq_true c2
  clear c2
  by_cases c3:0≤s0_1
  ·
   rw[if_pos c3] at H
   have c3b0:=decide_eq_true c3
   clear c3
   by_cases c4:(wrap64 (s0_1+1))≤(s0_0.length:Int)
   ·
    rw[if_pos c4] at H
    have c4b0:=decide_eq_true c4
    clear c4
    simp only[Option.some.injEq,Prod.mk.injEq] at H
    obtain⟨rfl,rfl,rfl⟩:=H
    obtain⟨ASz5_0,cSz5_0,HGz5,hgz5,HSz5_0⟩:=HI0.out
    have hcz5_0:=cellS42_0 HGz5
    have hcz5_1:=cellS42_1 HGz5
    have hcz5_2:=cellS42_2 HGz5
    have hfz5_1:=blk_frozen HGz5 1
    have hfz5_2:=blk_frozen HGz5 2
    clear HGz5 hgz5
    have p101:0≤(s0_1:Int):=od_
    have q101:s0_1<(s0_0.length:Int):=od_
    obtain⟨ad101,e101,hx101_0⟩:=Kd.at_int HSz5_0 s0_1 p101 q101
    cases e101
    replace hx101_0:=pw_cell_below HB.out hx101_0
    replace p101:=eq_true p101
    replace q101:=eq_true q101
    go_enter Try.func28,Try.ntmps28
    go_wp2
    repeat (go_quiet (fail);try go_wp2)
    go_ret
    exact⟨rr_,y1 HI0.out,y2 HB.out,y0 HK.out⟩
   rw[if_neg c4] at H
   have c4b0:=decide_eq_false c4
   clear c4
   simp only[Option.some.injEq,Prod.mk.injEq] at H
   obtain⟨rfl,rfl,rfl⟩:=H
   obtain⟨ASz6_0,cSz6_0,HGz6,hgz6,HSz6_0⟩:=HI0.out
   have hcz6_0:=cellS42_0 HGz6
   have hcz6_1:=cellS42_1 HGz6
   have hcz6_2:=cellS42_2 HGz6
   have hfz6_1:=blk_frozen HGz6 1
   have hfz6_2:=blk_frozen HGz6 2
   clear HGz6 hgz6
   have p101:0≤(s0_1:Int):=od_
   have q101:s0_1<(s0_0.length:Int):=od_
   obtain⟨ad101,e101,hx101_0⟩:=Kd.at_int HSz6_0 s0_1 p101 q101
   cases e101
   replace hx101_0:=pw_cell_below HB.out hx101_0
   replace p101:=eq_true p101
   replace q101:=eq_true q101
   go_enter Try.func28,Try.ntmps28
   go_wp2
   repeat (go_quiet (fail);try go_wp2)
   go_ret
   exact⟨rr_,y1 HI0.out,y2 HB.out,y0 HK.out⟩
  rw[if_neg c3] at H
  exact absurd H (by simp)
 rw[if_neg c2] at H
 have c2b0:=decide_eq_false c2
 clear c2
 by_cases c7:(wrap64 (s0_1+1))≤(s0_0.length:Int)
 ·
  rw[if_pos c7] at H
  have c7b0:=decide_eq_true c7
  clear c7
  simp only[Option.some.injEq,Prod.mk.injEq] at H
  obtain⟨rfl,rfl,rfl⟩:=H
  obtain⟨ASz8_0,cSz8_0,HGz8,hgz8,HSz8_0⟩:=HI0.out
  have hcz8_0:=cellS42_0 HGz8
  have hcz8_1:=cellS42_1 HGz8
  have hcz8_2:=cellS42_2 HGz8
  have hfz8_1:=blk_frozen HGz8 1
  have hfz8_2:=blk_frozen HGz8 2
  clear HGz8 hgz8
  go_enter Try.func28,Try.ntmps28
  go_wp2
  repeat (go_quiet (fail);try go_wp2)
  go_ret
  exact⟨rr_,y1 HI0.out,y2 HB.out,y0 HK.out⟩
 rw[if_neg c7] at H
 have c7b0:=decide_eq_false c7
 clear c7
 simp only[Option.some.injEq,Prod.mk.injEq] at H
 obtain⟨rfl,rfl,rfl⟩:=H
 obtain⟨ASz9_0,cSz9_0,HGz9,hgz9,HSz9_0⟩:=HI0.out
 have hcz9_0:=cellS42_0 HGz9
 have hcz9_1:=cellS42_1 HGz9
 have hcz9_2:=cellS42_2 HGz9
 have hfz9_1:=blk_frozen HGz9 1
 have hfz9_2:=blk_frozen HGz9 2
 clear HGz9 hgz9
 go_enter Try.func28,Try.ntmps28
 go_wp2
 repeat (go_quiet (fail);try go_wp2)
 go_ret
 exact⟨rr_,y1 HI0.out,y2 HB.out,y0 HK.out⟩

/-! ### spec_l1Cur_pick: function 14 -/
def spec_l1Cur_pick.f (s0_0:List Int) (s0_1:Int) (s0_2:Int) (a1:Int):Option (Int × Int × Int):=if a1≤1 then (some (0,s0_1,s0_2)) else ((spec_l1Cur_next.f s0_0 s0_1 s0_2).bind fun bt102=>(if a1 > 200 then ((spec_l1Cur_next.f s0_0 bt102.2.1 bt102.2.2).bind fun bt105=>(if a1=0 then (none) else (some (Int.tmod (wrap64 ((wrap64 (bt102.1*256))+bt105.1)) a1,bt105.2.1,bt105.2.2)))) else (if a1=0 then (none) else (some (Int.tmod bt102.1 a1,bt102.2.1,bt102.2.2)))))
theorem spec_l1Cur_pick.calls (g:Nat) (s0_0:List Int) (s0_1:Int) (s0_2:Int) (a1:Int) (r1:Int) (r2:Int) (r3:Int) (w0 w:World) (hI:IsS42 w0 w g s0_0 s0_1 s0_2) (hB:Below w0.heap.size w0 w) (h:spec_l1Cur_pick.f s0_0 s0_1 s0_2 a1=some (r1,r2,r3)):
  Calls Try.prog 14 #[.pointer (some ⟨g,0,none⟩),.int .i64 a1] w fun e w'=>e=.returned (.int .i64 r1)∧IsS42 w0 w' g s0_0 r2 r3∧Below w0.heap.size w0 w'∧KeepBut w w' g none:=by
 have HI0:=A_ hI
 have HK:=A_ (KeepBut.refl w g none)
 have HL:=A_ hB.size
 clear hI
 have HW0:=A_ hB.size
 have HB:=A_ hB
 clear hB
 have H:(if a1≤1 then (some (0,s0_1,s0_2)) else ((spec_l1Cur_next.f s0_0 s0_1 s0_2).bind fun bt102=>(if a1 > 200 then ((spec_l1Cur_next.f s0_0 bt102.2.1 bt102.2.2).bind fun bt105=>(if a1=0 then (none) else (some (Int.tmod (wrap64 ((wrap64 (bt102.1*256))+bt105.1)) a1,bt105.2.1,bt105.2.2)))) else (if a1=0 then (none) else (some (Int.tmod bt102.1 a1,bt102.2.1,bt102.2.2))))))=some (r1,r2,r3):=h
 clear h
 by_cases c3:a1≤1
 ·
  rw[if_pos c3] at H
  have c3b0:=decide_eq_true c3
  clear c3
  simp only[Option.some.injEq,Prod.mk.injEq] at H
  obtain⟨rfl,rfl,rfl⟩:=H
  go_enter Try.func14,Try.ntmps14
  go_wp2
  go_ret
  exact⟨rr_,y1 HI0.out,y2 HB.out,y0 HK.out⟩
 rw[if_neg c3] at H
 have c3b0:=decide_eq_false c3
 clear c3
 replace H:=Option.bind_eq_some_iff.mp H
 obtain⟨⟨t102,t103,t104⟩,A40,H⟩:=H
 replace H:(if a1 > 200 then ((spec_l1Cur_next.f s0_0 t103 t104).bind fun bt105=>(if a1=0 then (none) else (some (Int.tmod (wrap64 ((wrap64 (t102*256))+bt105.1)) a1,bt105.2.1,bt105.2.2)))) else (if a1=0 then (none) else (some (Int.tmod t102 a1,t103,t104))))=some (r1,r2,r3):=H
 have A4:=A_ A40
 clear A40
 by_cases c5:a1 > 200
 ·
  rw[if_pos c5] at H
  have c5b0:=decide_eq_true c5
  clear c5
  replace H:=Option.bind_eq_some_iff.mp H
  obtain⟨⟨t105,t106,t107⟩,A60,H⟩:=H
  replace H:(if a1=0 then (none) else (some (Int.tmod (wrap64 ((wrap64 (t102*256))+t105)) a1,t106,t107)))=some (r1,r2,r3):=H
  have A6:=A_ A60
  clear A60
  by_cases c7:a1=0
  ·
   rw[if_pos c7] at H
   exact absurd H (by simp)
  rw[if_neg c7] at H
  obtain⟨c7b0,c7b1⟩:=eF_ c7
  simp only[Option.some.injEq,Prod.mk.injEq] at H
  obtain⟨rfl,rfl,rfl⟩:=H
  go_enter Try.func14,Try.ntmps14
  go_wp2_with (first|((with_reducible refine gc_ 28 rfl ?_);refine goesL_ (some 9) rfl rfl Try.func28 (by kernel_rfl) rfl #[.pointer (some ⟨g,0,none⟩)] rfl ar ?_;(with_reducible refine(spec_l1Cur_next.calls g s0_0 s0_1 s0_2 t102 t103 t104 w0 _ ?side1 ?side2 A4.out).mono ?_);(case side1=>repeat (first|(with_reducible first|exact HI0.out|apply IsS42.alloc|apply IsS42.drewN|apply IsS42.drew|apply IsS42.set_1|apply IsS42.set_2)|exact HI0.out));(case side2=>repeat (first|(with_reducible first|exact HB.out|apply below_alloc|apply pw_below_drewN|apply below_drew1|refine below_set ?_ (IsS42.ge HI0.out))|exact HB.out));rintro e w8 ⟨rfl,hi,hb,hk⟩;refine⟨_,rfl,?_⟩;replace HK:=A_ (KeepBut.trans (y0 HK.out) hk (.inl rfl));replace HB:=A_ (hb);replace HI0:=A_ (hi);(try clear hb);(try clear hb2);(try clear hk);(try clear hi))|((with_reducible refine gc_ 28 rfl ?_);refine goesL_ (some 15) rfl rfl Try.func28 (by kernel_rfl) rfl #[.pointer (some ⟨g,0,none⟩)] rfl ar ?_;(with_reducible refine(spec_l1Cur_next.calls g s0_0 t103 t104 t105 t106 t107 w0 _ ?side1 ?side2 A6.out).mono ?_);(case side1=>repeat (first|(with_reducible first|exact HI0.out|apply IsS42.alloc|apply IsS42.drewN|apply IsS42.drew|apply IsS42.set_1|apply IsS42.set_2)|exact HI0.out));(case side2=>repeat (first|(with_reducible first|exact HB.out|apply below_alloc|apply pw_below_drewN|apply below_drew1|refine below_set ?_ (IsS42.ge HI0.out))|exact HB.out));rintro e w9 ⟨rfl,hi,hb,hk⟩;refine⟨_,rfl,?_⟩;replace HK:=A_ (KeepBut.trans (y0 HK.out) hk (.inl rfl));replace HB:=A_ (hb);replace HI0:=A_ (hi);(try clear hb);(try clear hb2);(try clear hk);(try clear hi)))
  go_ret
  exact⟨rr_,y1 HI0.out,y2 HB.out,y0 HK.out⟩
 rw[if_neg c5] at H
 have c5b0:=decide_eq_false c5
 clear c5
 by_cases c10:a1=0
 ·
  rw[if_pos c10] at H
  exact absurd H (by simp)
 rw[if_neg c10] at H
 obtain⟨c10b0,c10b1⟩:=eF_ c10
 simp only[Option.some.injEq,Prod.mk.injEq] at H
 obtain⟨rfl,rfl,rfl⟩:=H
 go_enter Try.func14,Try.ntmps14
 go_wp2_with (first|((with_reducible refine gc_ 28 rfl ?_);refine goesL_ (some 9) rfl rfl Try.func28 (by kernel_rfl) rfl #[.pointer (some ⟨g,0,none⟩)] rfl ar ?_;(with_reducible refine(spec_l1Cur_next.calls g s0_0 s0_1 s0_2 t102 t103 t104 w0 _ ?side1 ?side2 A4.out).mono ?_);(case side1=>repeat (first|(with_reducible first|exact HI0.out|apply IsS42.alloc|apply IsS42.drewN|apply IsS42.drew|apply IsS42.set_1|apply IsS42.set_2)|exact HI0.out));(case side2=>repeat (first|(with_reducible first|exact HB.out|apply below_alloc|apply pw_below_drewN|apply below_drew1|refine below_set ?_ (IsS42.ge HI0.out))|exact HB.out));rintro e w11 ⟨rfl,hi,hb,hk⟩;refine⟨_,rfl,?_⟩;replace HK:=A_ (KeepBut.trans (y0 HK.out) hk (.inl rfl));replace HB:=A_ (hb);replace HI0:=A_ (hi);(try clear hb);(try clear hb2);(try clear hk);(try clear hi)))
 go_ret
 exact⟨rr_,y1 HI0.out,y2 HB.out,y0 HK.out⟩

/-! ### spec_l1Cur_one: function 13 -/
def spec_l1Cur_one.f (s0_0:List Int) (s0_1:Int) (s0_2:Int) (a1:Int):Option (Bool × Int × Int):=(spec_l1Cur_pick.f s0_0 s0_1 s0_2 a1).bind fun bt108=>(some ((bt108.1==0),bt108.2.1,bt108.2.2))
theorem spec_l1Cur_one.calls (g:Nat) (s0_0:List Int) (s0_1:Int) (s0_2:Int) (a1:Int) (r1:Bool) (r2:Int) (r3:Int) (w0 w:World) (hI:IsS42 w0 w g s0_0 s0_1 s0_2) (hB:Below w0.heap.size w0 w) (h:spec_l1Cur_one.f s0_0 s0_1 s0_2 a1=some (r1,r2,r3)):
  Calls Try.prog 13 #[.pointer (some ⟨g,0,none⟩),.int .i64 a1] w fun e w'=>e=.returned (.bool r1)∧IsS42 w0 w' g s0_0 r2 r3∧Below w0.heap.size w0 w'∧KeepBut w w' g none:=by
 have HI0:=A_ hI
 have HK:=A_ (KeepBut.refl w g none)
 have HL:=A_ hB.size
 clear hI
 have HW0:=A_ hB.size
 have HB:=A_ hB
 clear hB
 have H:((spec_l1Cur_pick.f s0_0 s0_1 s0_2 a1).bind fun bt108=>(some ((bt108.1==0),bt108.2.1,bt108.2.2)))=some (r1,r2,r3):=h
 clear h
 replace H:=Option.bind_eq_some_iff.mp H
 obtain⟨⟨t108,t109,t110⟩,A30,H⟩:=H
 replace H:(some ((t108==0),t109,t110))=some (r1,r2,r3):=H
 have A3:=A_ A30
 clear A30
 simp only[Option.some.injEq,Prod.mk.injEq] at H
 obtain⟨rfl,rfl,rfl⟩:=H
 go_enter Try.func13,Try.ntmps13
 go_wp2_with (first|((with_reducible refine gc_ 14 rfl ?_);refine goesL_ (some 7) rfl rfl Try.func14 (by kernel_rfl) rfl #[.pointer (some ⟨g,0,none⟩),.int .i64 a1] rfl ar ?_;(with_reducible refine(spec_l1Cur_pick.calls g s0_0 s0_1 s0_2 a1 t108 t109 t110 w0 _ ?side1 ?side2 A3.out).mono ?_);(case side1=>repeat (first|(with_reducible first|exact HI0.out|apply IsS42.alloc|apply IsS42.drewN|apply IsS42.drew|apply IsS42.set_1|apply IsS42.set_2)|exact HI0.out));(case side2=>repeat (first|(with_reducible first|exact HB.out|apply below_alloc|apply pw_below_drewN|apply below_drew1|refine below_set ?_ (IsS42.ge HI0.out))|exact HB.out));rintro e w4 ⟨rfl,hi,hb,hk⟩;refine⟨_,rfl,?_⟩;replace HK:=A_ (KeepBut.trans (y0 HK.out) hk (.inl rfl));replace HB:=A_ (hb);replace HI0:=A_ (hi);(try clear hb);(try clear hb2);(try clear hk);(try clear hi)))
 go_ret
 exact⟨rr_,y1 HI0.out,y2 HB.out,y0 HK.out⟩

/-! ### spec_l1Cur_among: function 30 -/
def spec_l1Cur_among.f (s0_0:List Int) (s0_1:Int) (s0_2:Int) (l1:List Int):Option (Int × Int × Int):=(spec_l1Cur_pick.f s0_0 s0_1 s0_2 (l1.length:Int)).bind fun bt111=>(if 0≤bt111.1 then (if bt111.1<(l1.length:Int) then (some (rd l1 bt111.1,bt111.2.1,bt111.2.2)) else (none)) else (none))
theorem spec_l1Cur_among.calls (g:Nat) (s0_0:List Int) (s0_1:Int) (s0_2:Int) (A1:Option Addr) (c1:Nat) (l1:List Int) (r1:Int) (r2:Int) (r3:Int) (w0 w:World) (hI:IsS42 w0 w g s0_0 s0_1 s0_2) (hB:Below w0.heap.size w0 w) (hr1:Kd.C (Kd.int .i64) w A1 l1.length l1) (hc1:l1.length≤c1) (hf1:∀ ad,A1=some ad→0<l1.length→ad.block≠g) (h:spec_l1Cur_among.f s0_0 s0_1 s0_2 l1=some (r1,r2,r3)):
  Calls Try.prog 30 #[.pointer (some ⟨g,0,none⟩),.slice A1 l1.length c1] w fun e w'=>e=.returned (.int .i64 r1)∧IsS42 w0 w' g s0_0 r2 r3∧Below w0.heap.size w0 w'∧KeepBut w w' g none:=by
 have HR1:=A_ hr1
 have HC1:=A_ hc1
 clear hr1 hc1
 have HI0:=A_ hI
 have HK:=A_ (KeepBut.refl w g none)
 have HL:=A_ hB.size
 clear hI
 have HW0:=A_ hB.size
 have HB:=A_ hB
 clear hB
 have H:((spec_l1Cur_pick.f s0_0 s0_1 s0_2 (l1.length:Int)).bind fun bt111=>(if 0≤bt111.1 then (if bt111.1<(l1.length:Int) then (some (rd l1 bt111.1,bt111.2.1,bt111.2.2)) else (none)) else (none)))=some (r1,r2,r3):=h
 clear h
 replace H:=Option.bind_eq_some_iff.mp H
 obtain⟨⟨t111,t112,t113⟩,A30,H⟩:=H
 replace H:(if 0≤t111 then (if t111<(l1.length:Int) then (some (rd l1 t111,t112,t113)) else (none)) else (none))=some (r1,r2,r3):=H
 have A3:=A_ A30
 clear A30
 by_cases c4:0≤t111
 ·
  rw[if_pos c4] at H
  have c4b0:=decide_eq_true c4
  clear c4
  by_cases c5:t111<(l1.length:Int)
  ·
   rw[if_pos c5] at H
   have c5b0:=decide_eq_true c5
   clear c5
   simp only[Option.some.injEq,Prod.mk.injEq] at H
   obtain⟨rfl,rfl,rfl⟩:=H
   go_enter Try.func30,Try.ntmps30
   go_wp2_with (first|((with_reducible refine gc_ 14 rfl ?_);refine goesL_ (some 9) rfl rfl Try.func14 (by kernel_rfl) rfl #[.pointer (some ⟨g,0,none⟩),.int .i64 (l1.length:Int)] rfl ar ?_;(with_reducible refine(spec_l1Cur_pick.calls g s0_0 s0_1 s0_2 (l1.length:Int) t111 t112 t113 w0 _ ?side1 ?side2 A3.out).mono ?_);(case side1=>repeat (first|(with_reducible first|exact HI0.out|apply IsS42.alloc|apply IsS42.drewN|apply IsS42.drew|apply IsS42.set_1|apply IsS42.set_2)|exact HI0.out));(case side2=>repeat (first|(with_reducible first|exact HB.out|apply below_alloc|apply pw_below_drewN|apply below_drew1|refine below_set ?_ (IsS42.ge HI0.out))|exact HB.out));rintro e w6 ⟨rfl,hi,hb,hk⟩;refine⟨_,rfl,?_⟩;replace HK:=A_ (KeepBut.trans (y0 HK.out) hk (.inl rfl));replace HB:=A_ (hb);replace HI0:=A_ (hi);(try clear hb);(try clear hb2);(try clear hk);(try clear hi);have p114:0≤(t111:Int):=od_;have q114:t111<(l1.length:Int):=od_;obtain⟨ad114,e114,hx114_0⟩:=Kd.at_int HR1.out t111 p114 q114;cases e114;replace hx114_0:=keep_cell HK.out hx114_0 (by first|(rw[add_block];exact hf1 _ rfl (by omega))|exact hf1 _ rfl (by omega)|exact hf1 ad114 rfl (by omega));replace p114:=eq_true p114;replace q114:=eq_true q114))
   go_ret
   exact⟨rr_,y1 HI0.out,y2 HB.out,y0 HK.out⟩
  rw[if_neg c5] at H
  exact absurd H (by simp)
 rw[if_neg c4] at H
 exact absurd H (by simp)

/-! ### spec_l1Cur_wide: function 48 -/
def spec_l1Cur_wide.l0:Nat→Int→Int→List Int→Int→Int→Option (Int × Int × Int)
 |0,_,_,_,_,_=>none
 |k+1,x3,x4,x1000,x1001,x1002=>if x4<8 then ((spec_l1Cur_next.f x1000 x1001 x1002).bind fun bt115=>(spec_l1Cur_wide.l0 k (Go.bits .or .i64 (wrap64 (x3*256)) bt115.1) (wrap64 (x4+1)) x1000 bt115.2.1 bt115.2.2)) else (some (x3,x1001,x1002))
def spec_l1Cur_wide.f (k:Nat) (s0_0:List Int) (s0_1:Int) (s0_2:Int):Option (Int × Int × Int):=spec_l1Cur_wide.l0 k 0 0 s0_0 s0_1 s0_2
theorem spec_l1Cur_wide.mono_l:∀ k,(∀ y0 y1 y2 y3 y4,LeO (spec_l1Cur_wide.l0 k y0 y1 y2 y3 y4) (spec_l1Cur_wide.l0 (k+1) y0 y1 y2 y3 y4))
 |0=>fun _ _ _ _ _ r h=>by simp[spec_l1Cur_wide.l0] at h
 |k+1=>by
  have ih0:=spec_l1Cur_wide.mono_l k
  intro y0 y1 y2 y3 y4
  unfold spec_l1Cur_wide.l0
  repeat' first
  |(with_reducible exact ih0 _ _ _ _ _)
  |(with_reducible exact LeO.refl _)
  |(with_reducible exact LeO.none _)
  |(with_reducible refine LeO.ite ?_ ?_)
  |(with_reducible refine LeO.bind ?_ (fun _=>?_))
  |exact ih0 _ _ _ _ _
  |exact LeO.none _
  |refine LeO.ite ?_ ?_
  |refine LeO.bind ?_ (fun _=>?_)
theorem spec_l1Cur_wide.mono:∀ a0 a1 a2 k,LeO (spec_l1Cur_wide.f k a0 a1 a2) (spec_l1Cur_wide.f (k+1) a0 a1 a2):=by
 intro a0 a1 a2 k
 have ih0:=spec_l1Cur_wide.mono_l k
 unfold spec_l1Cur_wide.f
 repeat' first
   |(with_reducible exact ih0 _ _ _ _ _)
   |(with_reducible exact LeO.refl _)
   |(with_reducible exact LeO.none _)
   |(with_reducible refine LeO.ite ?_ ?_)
   |(with_reducible refine LeO.bind ?_ (fun _=>?_))
   |exact ih0 _ _ _ _ _
   |exact LeO.none _
   |refine LeO.ite ?_ ?_
   |refine LeO.bind ?_ (fun _=>?_)
theorem spec_l1Cur_wide.calls (k:Nat) (g:Nat) (s0_0:List Int) (s0_1:Int) (s0_2:Int) (r1:Int) (r2:Int) (r3:Int) (w0 w:World) (hI:IsS42 w0 w g s0_0 s0_1 s0_2) (hB:Below w0.heap.size w0 w) (h:spec_l1Cur_wide.f k s0_0 s0_1 s0_2=some (r1,r2,r3)):
  Calls Try.prog 48 #[.pointer (some ⟨g,0,none⟩)] w fun e w'=>e=.returned (.int .i64 r1)∧IsS42 w0 w' g s0_0 r2 r3∧Below w0.heap.size w0 w'∧KeepBut w w' g none:=by
 have HI0:=A_ hI
 have HK:=A_ (KeepBut.refl w g none)
 have HL:=A_ hB.size
 clear hI
 have HW0:=A_ hB.size
 have HB:=A_ hB
 clear hB
 have H:(spec_l1Cur_wide.l0 k 0 0 s0_0 s0_1 s0_2)=some (r1,r2,r3):=h
 clear h
 have H':=A_ H
 clear H
 go_enter Try.func48,Try.ntmps48
 go_wp2
 (try simp only[Act.put,List.setIfInBounds_toArray,List.set_cons_zero,List.set_cons_succ])
 go_loopg [3,4] k (fun kq v3 v4 w'=>∃ (x3_1:Int) (x4_1:Int) (x1001_1:Int) (x1002_1:Int),v3=.int .i64 x3_1∧v4=.int .i64 x4_1∧Aside0 (spec_l1Cur_wide.l0 kq x3_1 x4_1 s0_0 x1001_1 x1002_1=some (r1,r2,r3))∧Aside0 (kq≤k)∧Aside0 (IsS42 w0 w' g s0_0 x1001_1 x1002_1)∧Aside0 (KeepBut w w' g none)∧Aside0 (Below w0.heap.size w0 w'))
 case atStart=>exact⟨(0),(0),(s0_1),(s0_2),rs_,rs_,H',⟨Nat.le_refl _⟩,⟨y1 HI0.out⟩,⟨y0 HK.out⟩,⟨y2 HB.out⟩⟩
 case round=>
  clear H'
  obtain⟨x3_1,x4_1,x1001_1,x1002_1,rfl,rfl,HA,HK1,HI0,HK,HB⟩:=hrel
  cases gk with
  |zero=>exact absurd HA.out (by simp[spec_l1Cur_wide.l0])
  |succ k1=>
   have H:=HA.out
   clear HA
   simp only[spec_l1Cur_wide.l0] at H
   by_cases c2:x4_1<8
   ·
    rw[if_pos c2] at H
    have c2b0:=decide_eq_true c2
    clear c2
    replace H:=Option.bind_eq_some_iff.mp H
    obtain⟨⟨t115,t116,t117⟩,A30,H⟩:=H
    replace H:(spec_l1Cur_wide.l0 k1 (Go.bits .or .i64 (wrap64 (x3_1*256)) t115) (wrap64 (x4_1+1)) s0_0 t116 t117)=some (r1,r2,r3):=H
    have A3:=A_ A30
    clear A30
    have H':=A_ H
    clear H
    go_wp2_with (first|((with_reducible refine gc_ 28 rfl ?_);refine goesL_ (some 12) rfl rfl Try.func28 (by kernel_rfl) rfl #[.pointer (some ⟨g,0,none⟩)] rfl ar ?_;(with_reducible refine(spec_l1Cur_next.calls g s0_0 x1001_1 x1002_1 t115 t116 t117 w0 _ ?side1 ?side2 A3.out).mono ?_);(case side1=>repeat (first|(with_reducible first|exact HI0.out|apply IsS42.alloc|apply IsS42.drewN|apply IsS42.drew|apply IsS42.set_1|apply IsS42.set_2)|exact HI0.out));(case side2=>repeat (first|(with_reducible first|exact HB.out|apply below_alloc|apply pw_below_drewN|apply below_drew1|refine below_set ?_ (IsS42.ge HI0.out))|exact HB.out));rintro e w4 ⟨rfl,hi,hb,hk⟩;refine⟨_,rfl,?_⟩;replace HK:=A_ (KeepBut.trans (y0 HK.out) hk (.inl rfl));replace HB:=A_ (hb);replace HI0:=A_ (hi);(try clear hb);(try clear hb2);(try clear hk);(try clear hi)))
    go_roundg k1
    case measure=>have:=HK1.out;omega
    case rel=>exact⟨(Go.bits .or .i64 (wrap64 (x3_1*256)) t115),(wrap64 (x4_1+1)),(t116),(t117),rs_,rs_,H',⟨by have:=HK1.out;omega⟩,⟨y1 HI0.out⟩,⟨y0 HK.out⟩,⟨y2 HB.out⟩⟩
   rw[if_neg c2] at H
   have c2b0:=decide_eq_false c2
   clear c2
   simp only[Option.some.injEq,Prod.mk.injEq] at H
   obtain⟨rfl,rfl,rfl⟩:=H
   go_wp2
   go_ret
   exact⟨rr_,y1 HI0.out,y2 HB.out,y0 HK.out⟩

/-! ### spec_l1Cur_word: function 47 -/
def spec_l1Cur_word.f (k:Nat) (s0_0:List Int) (s0_1:Int) (s0_2:Int):Option (Int × Int × Int):=(spec_l1Cur_pick.f s0_0 s0_1 s0_2 6).bind fun bt118=>(if bt118.1=0 then ((spec_l1Cur_among.f s0_0 bt118.2.1 bt118.2.2 (([0,1,127,128,255,256,16383,16384,4294967295,4294967296,(-1),9223372036854775807,(-9223372036854775808)]:List Int))).bind fun bt124=>(some (IntKind.u64.wrap (bt124.1),bt124.2.1,bt124.2.2))) else (if bt118.1=1 then ((spec_l1Cur_wide.f k s0_0 bt118.2.1 bt118.2.2).bind fun bt127=>(some (IntKind.u64.wrap (bt127.1),bt127.2.1,bt127.2.2))) else (if bt118.1=2 then ((spec_l1Cur_wide.f k s0_0 bt118.2.1 bt118.2.2).bind fun bt130=>((spec_l1Cur_pick.f s0_0 bt130.2.1 bt130.2.2 64).bind fun bt133=>(if 0≤(IntKind.u64.wrap (bt133.1)) then (some (shr .u64 (IntKind.u64.wrap (bt130.1)) (IntKind.u64.wrap (bt133.1)),bt133.2.1,bt133.2.2)) else (none)))) else (if bt118.1=3 then ((spec_l1Cur_wide.f k s0_0 bt118.2.1 bt118.2.2).bind fun bt136=>(some (IntKind.u64.wrap (Go.bits .and .i64 bt136.1 4294967295),bt136.2.1,bt136.2.2))) else ((spec_l1Cur_pick.f s0_0 bt118.2.1 bt118.2.2 300).bind fun bt139=>(some (IntKind.u64.wrap (bt139.1),bt139.2.1,bt139.2.2)))))))
theorem spec_l1Cur_word.mono:∀ a0 a1 a2 k,LeO (spec_l1Cur_word.f k a0 a1 a2) (spec_l1Cur_word.f (k+1) a0 a1 a2):=by
 intro a0 a1 a2 k
 unfold spec_l1Cur_word.f
 repeat' first
   |(with_reducible exact spec_l1Cur_wide.mono _ _ _ _)
   |(with_reducible exact LeO.refl _)
   |(with_reducible exact LeO.none _)
   |(with_reducible refine LeO.ite ?_ ?_)
   |(with_reducible refine LeO.bind ?_ (fun _=>?_))
   |exact spec_l1Cur_wide.mono _ _ _ _
   |exact LeO.none _
   |refine LeO.ite ?_ ?_
   |refine LeO.bind ?_ (fun _=>?_)
theorem spec_l1Cur_word.calls (k:Nat) (g:Nat) (s0_0:List Int) (s0_1:Int) (s0_2:Int) (r1:Int) (r2:Int) (r3:Int) (w0 w:World) (hI:IsS42 w0 w g s0_0 s0_1 s0_2) (hB:Below w0.heap.size w0 w) (h:spec_l1Cur_word.f k s0_0 s0_1 s0_2=some (r1,r2,r3)):
  Calls Try.prog 47 #[.pointer (some ⟨g,0,none⟩)] w fun e w'=>e=.returned (.int .u64 r1)∧IsS42 w0 w' g s0_0 r2 r3∧Below w0.heap.size w0 w'∧KeepBut w w' g none:=by
 have HI0:=A_ hI
 have HK:=A_ (KeepBut.refl w g none)
 have HL:=A_ hB.size
 clear hI
 have HW0:=A_ hB.size
 have HB:=A_ hB
 clear hB
 have H:((spec_l1Cur_pick.f s0_0 s0_1 s0_2 6).bind fun bt118=>(if bt118.1=0 then ((spec_l1Cur_among.f s0_0 bt118.2.1 bt118.2.2 (([0,1,127,128,255,256,16383,16384,4294967295,4294967296,(-1),9223372036854775807,(-9223372036854775808)]:List Int))).bind fun bt124=>(some (IntKind.u64.wrap (bt124.1),bt124.2.1,bt124.2.2))) else (if bt118.1=1 then ((spec_l1Cur_wide.f k s0_0 bt118.2.1 bt118.2.2).bind fun bt127=>(some (IntKind.u64.wrap (bt127.1),bt127.2.1,bt127.2.2))) else (if bt118.1=2 then ((spec_l1Cur_wide.f k s0_0 bt118.2.1 bt118.2.2).bind fun bt130=>((spec_l1Cur_pick.f s0_0 bt130.2.1 bt130.2.2 64).bind fun bt133=>(if 0≤(IntKind.u64.wrap (bt133.1)) then (some (shr .u64 (IntKind.u64.wrap (bt130.1)) (IntKind.u64.wrap (bt133.1)),bt133.2.1,bt133.2.2)) else (none)))) else (if bt118.1=3 then ((spec_l1Cur_wide.f k s0_0 bt118.2.1 bt118.2.2).bind fun bt136=>(some (IntKind.u64.wrap (Go.bits .and .i64 bt136.1 4294967295),bt136.2.1,bt136.2.2))) else ((spec_l1Cur_pick.f s0_0 bt118.2.1 bt118.2.2 300).bind fun bt139=>(some (IntKind.u64.wrap (bt139.1),bt139.2.1,bt139.2.2))))))))=some (r1,r2,r3):=h
 clear h
 replace H:=Option.bind_eq_some_iff.mp H
 obtain⟨⟨t118,t119,t120⟩,A20,H⟩:=H
 replace H:(if t118=0 then ((spec_l1Cur_among.f s0_0 t119 t120 (([0,1,127,128,255,256,16383,16384,4294967295,4294967296,(-1),9223372036854775807,(-9223372036854775808)]:List Int))).bind fun bt124=>(some (IntKind.u64.wrap (bt124.1),bt124.2.1,bt124.2.2))) else (if t118=1 then ((spec_l1Cur_wide.f k s0_0 t119 t120).bind fun bt127=>(some (IntKind.u64.wrap (bt127.1),bt127.2.1,bt127.2.2))) else (if t118=2 then ((spec_l1Cur_wide.f k s0_0 t119 t120).bind fun bt130=>((spec_l1Cur_pick.f s0_0 bt130.2.1 bt130.2.2 64).bind fun bt133=>(if 0≤(IntKind.u64.wrap (bt133.1)) then (some (shr .u64 (IntKind.u64.wrap (bt130.1)) (IntKind.u64.wrap (bt133.1)),bt133.2.1,bt133.2.2)) else (none)))) else (if t118=3 then ((spec_l1Cur_wide.f k s0_0 t119 t120).bind fun bt136=>(some (IntKind.u64.wrap (Go.bits .and .i64 bt136.1 4294967295),bt136.2.1,bt136.2.2))) else ((spec_l1Cur_pick.f s0_0 t119 t120 300).bind fun bt139=>(some (IntKind.u64.wrap (bt139.1),bt139.2.1,bt139.2.2)))))))=some (r1,r2,r3):=H
 have A2:=A_ A20
 clear A20
 by_cases c3:t118=0
 ·
  rw[if_pos c3] at H
  obtain⟨c3b0,c3b1⟩:=eT_ c3
  clear c3
  obtain⟨y121,hy121⟩:∃ y_:List Int,y_=(([0,1,127,128,255,256,16383,16384,4294967295,4294967296,(-1),9223372036854775807,(-9223372036854775808)]:List Int)):=⟨_,rfl⟩
  replace H:((spec_l1Cur_among.f s0_0 t119 t120 y121).bind fun bt124=>(some (IntKind.u64.wrap (bt124.1),bt124.2.1,bt124.2.2)))=some (r1,r2,r3):=by first|(rw[hy121];with_reducible exact H)|(have H2_:=(Option.bind_some _ _).symm.trans H;rw[hy121];with_reducible exact H2_)|(have H2_:=(Option.bind_some _ _).symm.trans H;with_reducible exact H2_)|with_reducible exact H|(rw[hy121];exact H)|exact H
  have Ny121:=A_ hy121
  clear hy121
  replace H:=Option.bind_eq_some_iff.mp H
  obtain⟨⟨t124,t125,t126⟩,A40,H⟩:=H
  replace H:(some (IntKind.u64.wrap (t124),t125,t126))=some (r1,r2,r3):=H
  have A4:=A_ A40
  clear A40
  simp only[Option.some.injEq,Prod.mk.injEq] at H
  obtain⟨rfl,rfl,rfl⟩:=H
  go_enter Try.func47,Try.ntmps47
  go_wp2_with (first|((with_reducible refine gc_ 14 rfl ?_);refine goesL_ (some 4) rfl rfl Try.func14 (by kernel_rfl) rfl #[.pointer (some ⟨g,0,none⟩),.int .i64 6] rfl ar ?_;(with_reducible refine(spec_l1Cur_pick.calls g s0_0 s0_1 s0_2 6 t118 t119 t120 w0 _ ?side1 ?side2 A2.out).mono ?_);(case side1=>repeat (first|(with_reducible first|exact HI0.out|apply IsS42.alloc|apply IsS42.drewN|apply IsS42.drew|apply IsS42.set_1|apply IsS42.set_2)|exact HI0.out));(case side2=>repeat (first|(with_reducible first|exact HB.out|apply below_alloc|apply pw_below_drewN|apply below_drew1|refine below_set ?_ (IsS42.ge HI0.out))|exact HB.out));rintro e w5 ⟨rfl,hi,hb,hk⟩;refine⟨_,rfl,?_⟩;replace HK:=A_ (KeepBut.trans (y0 HK.out) hk (.inl rfl));replace HB:=A_ (hb);replace HI0:=A_ (hi);(try clear hb);(try clear hb2);(try clear hk);(try clear hi))|((with_reducible refine gd_ 8 rfl ?_);refine Kd.R_lit (Kd.int .i64) _ 3 ?hg (N:=8) ?hd (xs:=([0,1,127,128,255,256,16383,16384,4294967295,4294967296,(-1),9223372036854775807,(-9223372036854775808)]:List Int)) (inner:=[.int .i64 0,.int .i64 1,.int .i64 127,.int .i64 128,.int .i64 255,.int .i64 256,.int .i64 16383,.int .i64 16384,.int .i64 4294967295,.int .i64 4294967296,.int .i64 (-1),.int .i64 9223372036854775807,.int .i64 (-9223372036854775808)]) (ok:=fun _=>True) (okp:=fun _=>True) ?hr ?hp (fun _ hk=>hk) trivial (Below.refl _ _) (Nat.le_refl _) (by simp) ?_;(case hd=>rfl);(case hg=>rfl);(case hr=>first|(go_simp;done)|(go_simp;rfl));(case hp=>exact(Reps.one (show Kd.M (Kd.int .i64) _ _ _ 0 [.int .i64 0] from rfl) (Reps.one (show Kd.M (Kd.int .i64) _ _ _ 1 [.int .i64 1] from rfl) (Reps.one (show Kd.M (Kd.int .i64) _ _ _ 127 [.int .i64 127] from rfl) (Reps.one (show Kd.M (Kd.int .i64) _ _ _ 128 [.int .i64 128] from rfl) (Reps.one (show Kd.M (Kd.int .i64) _ _ _ 255 [.int .i64 255] from rfl) (Reps.one (show Kd.M (Kd.int .i64) _ _ _ 256 [.int .i64 256] from rfl) (Reps.one (show Kd.M (Kd.int .i64) _ _ _ 16383 [.int .i64 16383] from rfl) (Reps.one (show Kd.M (Kd.int .i64) _ _ _ 16384 [.int .i64 16384] from rfl) (Reps.one (show Kd.M (Kd.int .i64) _ _ _ 4294967295 [.int .i64 4294967295] from rfl) (Reps.one (show Kd.M (Kd.int .i64) _ _ _ 4294967296 [.int .i64 4294967296] from rfl) (Reps.one (show Kd.M (Kd.int .i64) _ _ _ (-1) [.int .i64 (-1)] from rfl) (Reps.one (show Kd.M (Kd.int .i64) _ _ _ 9223372036854775807 [.int .i64 9223372036854775807] from rfl) (Reps.one (show Kd.M (Kd.int .i64) _ _ _ (-9223372036854775808) [.int .i64 (-9223372036854775808)] from rfl) (Reps.none _ _)))))))))))))));intro v122 w6 ho7 hb hg_ hnew_;clear hg_ hnew_;(first|rw[←Ny121.out] at ho7|(simp only[Int.reduceToNat] at ho7;rw[←Ny121.out] at ho7));have HO123:=A_ (Kd.R_lower ho7 (keep_size (w:=w) (g:=g) (row:=none) (y0 HK.out)));replace HI0:=A_ (IsS42.below (y1 HI0.out) hb);replace HK:=A_ (KeepBut.trans (y0 HK.out) (KeepBut.of_below hb g none) (.inl rfl));replace HB:=A_ (below_step (y2 HB.out) hb);clear hb ho7;obtain⟨Ao8,co8,eo8⟩:=Kd.R_slice HO123.out;subst eo8)|((with_reducible refine gc_ 30 rfl ?_);refine goesL_ (some 9) rfl rfl Try.func30 (by kernel_rfl) rfl #[.pointer (some ⟨g,0,none⟩),.slice Ao8 y121.length co8] rfl ar ?_;(with_reducible refine(spec_l1Cur_among.calls g s0_0 t119 t120 _ _ y121 t124 t125 t126 w0 _ ?side1 ?side2 ?side3 ?side4 ?side5 A4.out).mono ?_);(case side1=>repeat (first|(with_reducible first|exact HI0.out|apply IsS42.alloc|apply IsS42.drewN|apply IsS42.drew|apply IsS42.set_1|apply IsS42.set_2)|exact HI0.out));(case side2=>repeat (first|(with_reducible first|exact HB.out|apply below_alloc|apply pw_below_drewN|apply below_drew1|refine below_set ?_ (IsS42.ge HI0.out))|exact HB.out));(case side3=>repeat (first|exact(Kd.R_reads' HO123.out).2.2|(with_reducible refine Kd.C_alloc ?_ _)|(with_reducible refine Kd.C_drewN ?_ _)|(with_reducible refine Kd.C_drew ?_)));(case side4=>exact(Kd.R_reads' HO123.out).2.1);(case side5=>exact far_slice (IsS42.own_ne HI0.out HO123.out (by decide)));rintro e w9 ⟨rfl,hi,hb,hk⟩;refine⟨_,rfl,?_⟩;replace HO123:=A_ (Kd.R_mono (Kd.R_keep (IsS42.apart (show IsS42 w0 _ g s0_0 t119 t120 from y1 HI0.out) (kr_ HO123.out) (by decide)) hk (fun _ h=>h.2)) (fun _ h=>h.1));replace HK:=A_ (KeepBut.trans (y0 HK.out) hk (.inl rfl));replace HB:=A_ (hb);replace HI0:=A_ (hi);(try clear hb);(try clear hb2);(try clear hk);(try clear hi)))
  go_ret
  exact⟨rr_,y1 HI0.out,y2 HB.out,y0 HK.out⟩
 rw[if_neg c3] at H
 obtain⟨c3b0,c3b1⟩:=eF_ c3
 by_cases c10:t118=1
 ·
  rw[if_pos c10] at H
  obtain⟨c10b0,c10b1⟩:=eT_ c10
  clear c10
  replace H:=Option.bind_eq_some_iff.mp H
  obtain⟨⟨t127,t128,t129⟩,A110,H⟩:=H
  replace H:(some (IntKind.u64.wrap (t127),t128,t129))=some (r1,r2,r3):=H
  have A11:=A_ A110
  clear A110
  simp only[Option.some.injEq,Prod.mk.injEq] at H
  obtain⟨rfl,rfl,rfl⟩:=H
  go_enter Try.func47,Try.ntmps47
  go_wp2_with (first|((with_reducible refine gc_ 14 rfl ?_);refine goesL_ (some 4) rfl rfl Try.func14 (by kernel_rfl) rfl #[.pointer (some ⟨g,0,none⟩),.int .i64 6] rfl ar ?_;(with_reducible refine(spec_l1Cur_pick.calls g s0_0 s0_1 s0_2 6 t118 t119 t120 w0 _ ?side1 ?side2 A2.out).mono ?_);(case side1=>repeat (first|(with_reducible first|exact HI0.out|apply IsS42.alloc|apply IsS42.drewN|apply IsS42.drew|apply IsS42.set_1|apply IsS42.set_2)|exact HI0.out));(case side2=>repeat (first|(with_reducible first|exact HB.out|apply below_alloc|apply pw_below_drewN|apply below_drew1|refine below_set ?_ (IsS42.ge HI0.out))|exact HB.out));rintro e w12 ⟨rfl,hi,hb,hk⟩;refine⟨_,rfl,?_⟩;replace HK:=A_ (KeepBut.trans (y0 HK.out) hk (.inl rfl));replace HB:=A_ (hb);replace HI0:=A_ (hi);(try clear hb);(try clear hb2);(try clear hk);(try clear hi))|((with_reducible refine gc_ 48 rfl ?_);refine goesL_ (some 14) rfl rfl Try.func48 (by kernel_rfl) rfl #[.pointer (some ⟨g,0,none⟩)] rfl ar ?_;(with_reducible refine(spec_l1Cur_wide.calls k g s0_0 t119 t120 t127 t128 t129 w0 _ ?side1 ?side2 A11.out).mono ?_);(case side1=>repeat (first|(with_reducible first|exact HI0.out|apply IsS42.alloc|apply IsS42.drewN|apply IsS42.drew|apply IsS42.set_1|apply IsS42.set_2)|exact HI0.out));(case side2=>repeat (first|(with_reducible first|exact HB.out|apply below_alloc|apply pw_below_drewN|apply below_drew1|refine below_set ?_ (IsS42.ge HI0.out))|exact HB.out));rintro e w13 ⟨rfl,hi,hb,hk⟩;refine⟨_,rfl,?_⟩;replace HK:=A_ (KeepBut.trans (y0 HK.out) hk (.inl rfl));replace HB:=A_ (hb);replace HI0:=A_ (hi);(try clear hb);(try clear hb2);(try clear hk);(try clear hi)))
  go_ret
  exact⟨rr_,y1 HI0.out,y2 HB.out,y0 HK.out⟩
 rw[if_neg c10] at H
 obtain⟨c10b0,c10b1⟩:=eF_ c10
 by_cases c14:t118=2
 ·
  rw[if_pos c14] at H
  obtain⟨c14b0,c14b1⟩:=eT_ c14
  clear c14
  replace H:=Option.bind_eq_some_iff.mp H
  obtain⟨⟨t130,t131,t132⟩,A150,H⟩:=H
  replace H:((spec_l1Cur_pick.f s0_0 t131 t132 64).bind fun bt133=>(if 0≤(IntKind.u64.wrap (bt133.1)) then (some (shr .u64 (IntKind.u64.wrap (t130)) (IntKind.u64.wrap (bt133.1)),bt133.2.1,bt133.2.2)) else (none)))=some (r1,r2,r3):=H
  have A15:=A_ A150
  clear A150
  replace H:=Option.bind_eq_some_iff.mp H
  obtain⟨⟨t133,t134,t135⟩,A160,H⟩:=H
  replace H:(if 0≤(IntKind.u64.wrap (t133)) then (some (shr .u64 (IntKind.u64.wrap (t130)) (IntKind.u64.wrap (t133)),t134,t135)) else (none))=some (r1,r2,r3):=H
  have A16:=A_ A160
  clear A160
  obtain⟨ji17,hji17⟩:∃ j_:Int,(IntKind.u64.wrap (t133))=j_:=⟨_,rfl⟩
  replace H:(if 0≤(ji17) then (some (shr .u64 (IntKind.u64.wrap (t130)) (ji17),t134,t135)) else (none))=some (r1,r2,r3):=by first|(rw[hji17] at H;exact H)|(simp only[hji17] at H ⊢;exact H)
  (try rw[hji17] at A2)
  (try rw[hji17] at A15)
  (try rw[hji17] at A16)
  by_cases c18:0≤(ji17)
  ·
   rw[if_pos c18] at H
   have c18b0:=eq_true c18
   have c18b1:=decide_eq_true c18
   clear c18
   obtain⟨ji19,hji19⟩:∃ j_:Int,(shr .u64 (IntKind.u64.wrap (t130)) (ji17))=j_:=⟨_,rfl⟩
   replace H:(some (ji19,t134,t135))=some (r1,r2,r3):=by first|(rw[hji19] at H;exact H)|(simp only[hji19] at H ⊢;exact H)
   (try rw[hji19] at A2)
   (try rw[hji19] at A15)
   (try rw[hji19] at A16)
   have hji19_:((IntKind.u64.wrap (t130)) / 2 ^ min (ji17).toNat 64)=ji19:=hji19
   have hji19z:(ji17)≤64→((IntKind.u64.wrap (t130)) / 2 ^ (ji17).toNat)=ji19:=shr_small hji19
   simp only[Option.some.injEq,Prod.mk.injEq] at H
   obtain⟨rfl,rfl,rfl⟩:=H
   go_enter Try.func47,Try.ntmps47
   go_wp2_with (first|((with_reducible refine gc_ 14 rfl ?_);refine goesL_ (some 4) rfl rfl Try.func14 (by kernel_rfl) rfl #[.pointer (some ⟨g,0,none⟩),.int .i64 6] rfl ar ?_;(with_reducible refine(spec_l1Cur_pick.calls g s0_0 s0_1 s0_2 6 t118 t119 t120 w0 _ ?side1 ?side2 A2.out).mono ?_);(case side1=>repeat (first|(with_reducible first|exact HI0.out|apply IsS42.alloc|apply IsS42.drewN|apply IsS42.drew|apply IsS42.set_1|apply IsS42.set_2)|exact HI0.out));(case side2=>repeat (first|(with_reducible first|exact HB.out|apply below_alloc|apply pw_below_drewN|apply below_drew1|refine below_set ?_ (IsS42.ge HI0.out))|exact HB.out));rintro e w20 ⟨rfl,hi,hb,hk⟩;refine⟨_,rfl,?_⟩;replace HK:=A_ (KeepBut.trans (y0 HK.out) hk (.inl rfl));replace HB:=A_ (hb);replace HI0:=A_ (hi);(try clear hb);(try clear hb2);(try clear hk);(try clear hi))|((with_reducible refine gc_ 48 rfl ?_);refine goesL_ (some 19) rfl rfl Try.func48 (by kernel_rfl) rfl #[.pointer (some ⟨g,0,none⟩)] rfl ar ?_;(with_reducible refine(spec_l1Cur_wide.calls k g s0_0 t119 t120 t130 t131 t132 w0 _ ?side1 ?side2 A15.out).mono ?_);(case side1=>repeat (first|(with_reducible first|exact HI0.out|apply IsS42.alloc|apply IsS42.drewN|apply IsS42.drew|apply IsS42.set_1|apply IsS42.set_2)|exact HI0.out));(case side2=>repeat (first|(with_reducible first|exact HB.out|apply below_alloc|apply pw_below_drewN|apply below_drew1|refine below_set ?_ (IsS42.ge HI0.out))|exact HB.out));rintro e w21 ⟨rfl,hi,hb,hk⟩;refine⟨_,rfl,?_⟩;replace HK:=A_ (KeepBut.trans (y0 HK.out) hk (.inl rfl));replace HB:=A_ (hb);replace HI0:=A_ (hi);(try clear hb);(try clear hb2);(try clear hk);(try clear hi))|((with_reducible refine gc_ 14 rfl ?_);refine goesL_ (some 22) rfl rfl Try.func14 (by kernel_rfl) rfl #[.pointer (some ⟨g,0,none⟩),.int .i64 64] rfl ar ?_;(with_reducible refine(spec_l1Cur_pick.calls g s0_0 t131 t132 64 t133 t134 t135 w0 _ ?side1 ?side2 A16.out).mono ?_);(case side1=>repeat (first|(with_reducible first|exact HI0.out|apply IsS42.alloc|apply IsS42.drewN|apply IsS42.drew|apply IsS42.set_1|apply IsS42.set_2)|exact HI0.out));(case side2=>repeat (first|(with_reducible first|exact HB.out|apply below_alloc|apply pw_below_drewN|apply below_drew1|refine below_set ?_ (IsS42.ge HI0.out))|exact HB.out));rintro e w22 ⟨rfl,hi,hb,hk⟩;refine⟨_,rfl,?_⟩;replace HK:=A_ (KeepBut.trans (y0 HK.out) hk (.inl rfl));replace HB:=A_ (hb);replace HI0:=A_ (hi);(try clear hb);(try clear hb2);(try clear hk);(try clear hi)))
   go_ret
   exact⟨by first|rfl|(simp[errW_none,errW_some]<;>rfl)|(simp only[←hji17,←hji19];first|rfl|(simp[errW_none,errW_some]<;>rfl))|(simp[*,errW_none,errW_some]<;>rfl),y1 HI0.out,y2 HB.out,y0 HK.out⟩
  rw[if_neg c18] at H
  exact absurd H (by simp)
 rw[if_neg c14] at H
 obtain⟨c14b0,c14b1⟩:=eF_ c14
 by_cases c23:t118=3
 ·
  rw[if_pos c23] at H
  obtain⟨c23b0,c23b1⟩:=eT_ c23
  clear c23
  replace H:=Option.bind_eq_some_iff.mp H
  obtain⟨⟨t136,t137,t138⟩,A240,H⟩:=H
  replace H:(some (IntKind.u64.wrap (Go.bits .and .i64 t136 4294967295),t137,t138))=some (r1,r2,r3):=H
  have A24:=A_ A240
  clear A240
  simp only[Option.some.injEq,Prod.mk.injEq] at H
  obtain⟨rfl,rfl,rfl⟩:=H
  go_enter Try.func47,Try.ntmps47
  go_wp2_with (first|((with_reducible refine gc_ 14 rfl ?_);refine goesL_ (some 4) rfl rfl Try.func14 (by kernel_rfl) rfl #[.pointer (some ⟨g,0,none⟩),.int .i64 6] rfl ar ?_;(with_reducible refine(spec_l1Cur_pick.calls g s0_0 s0_1 s0_2 6 t118 t119 t120 w0 _ ?side1 ?side2 A2.out).mono ?_);(case side1=>repeat (first|(with_reducible first|exact HI0.out|apply IsS42.alloc|apply IsS42.drewN|apply IsS42.drew|apply IsS42.set_1|apply IsS42.set_2)|exact HI0.out));(case side2=>repeat (first|(with_reducible first|exact HB.out|apply below_alloc|apply pw_below_drewN|apply below_drew1|refine below_set ?_ (IsS42.ge HI0.out))|exact HB.out));rintro e w25 ⟨rfl,hi,hb,hk⟩;refine⟨_,rfl,?_⟩;replace HK:=A_ (KeepBut.trans (y0 HK.out) hk (.inl rfl));replace HB:=A_ (hb);replace HI0:=A_ (hi);(try clear hb);(try clear hb2);(try clear hk);(try clear hi))|((with_reducible refine gc_ 48 rfl ?_);refine goesL_ (some 28) rfl rfl Try.func48 (by kernel_rfl) rfl #[.pointer (some ⟨g,0,none⟩)] rfl ar ?_;(with_reducible refine(spec_l1Cur_wide.calls k g s0_0 t119 t120 t136 t137 t138 w0 _ ?side1 ?side2 A24.out).mono ?_);(case side1=>repeat (first|(with_reducible first|exact HI0.out|apply IsS42.alloc|apply IsS42.drewN|apply IsS42.drew|apply IsS42.set_1|apply IsS42.set_2)|exact HI0.out));(case side2=>repeat (first|(with_reducible first|exact HB.out|apply below_alloc|apply pw_below_drewN|apply below_drew1|refine below_set ?_ (IsS42.ge HI0.out))|exact HB.out));rintro e w26 ⟨rfl,hi,hb,hk⟩;refine⟨_,rfl,?_⟩;replace HK:=A_ (KeepBut.trans (y0 HK.out) hk (.inl rfl));replace HB:=A_ (hb);replace HI0:=A_ (hi);(try clear hb);(try clear hb2);(try clear hk);(try clear hi)))
  go_ret
  exact⟨rr_,y1 HI0.out,y2 HB.out,y0 HK.out⟩
 rw[if_neg c23] at H
 obtain⟨c23b0,c23b1⟩:=eF_ c23
 replace H:=Option.bind_eq_some_iff.mp H
 obtain⟨⟨t139,t140,t141⟩,A270,H⟩:=H
 replace H:(some (IntKind.u64.wrap (t139),t140,t141))=some (r1,r2,r3):=H
 have A27:=A_ A270
 clear A270
 simp only[Option.some.injEq,Prod.mk.injEq] at H
 obtain⟨rfl,rfl,rfl⟩:=H
 go_enter Try.func47,Try.ntmps47
 go_wp2_with (first|((with_reducible refine gc_ 14 rfl ?_);refine goesL_ (some 4) rfl rfl Try.func14 (by kernel_rfl) rfl #[.pointer (some ⟨g,0,none⟩),.int .i64 6] rfl ar ?_;(with_reducible refine(spec_l1Cur_pick.calls g s0_0 s0_1 s0_2 6 t118 t119 t120 w0 _ ?side1 ?side2 A2.out).mono ?_);(case side1=>repeat (first|(with_reducible first|exact HI0.out|apply IsS42.alloc|apply IsS42.drewN|apply IsS42.drew|apply IsS42.set_1|apply IsS42.set_2)|exact HI0.out));(case side2=>repeat (first|(with_reducible first|exact HB.out|apply below_alloc|apply pw_below_drewN|apply below_drew1|refine below_set ?_ (IsS42.ge HI0.out))|exact HB.out));rintro e w28 ⟨rfl,hi,hb,hk⟩;refine⟨_,rfl,?_⟩;replace HK:=A_ (KeepBut.trans (y0 HK.out) hk (.inl rfl));replace HB:=A_ (hb);replace HI0:=A_ (hi);(try clear hb);(try clear hb2);(try clear hk);(try clear hi))|((with_reducible refine gc_ 14 rfl ?_);refine goesL_ (some 32) rfl rfl Try.func14 (by kernel_rfl) rfl #[.pointer (some ⟨g,0,none⟩),.int .i64 300] rfl ar ?_;(with_reducible refine(spec_l1Cur_pick.calls g s0_0 t119 t120 300 t139 t140 t141 w0 _ ?side1 ?side2 A27.out).mono ?_);(case side1=>repeat (first|(with_reducible first|exact HI0.out|apply IsS42.alloc|apply IsS42.drewN|apply IsS42.drew|apply IsS42.set_1|apply IsS42.set_2)|exact HI0.out));(case side2=>repeat (first|(with_reducible first|exact HB.out|apply below_alloc|apply pw_below_drewN|apply below_drew1|refine below_set ?_ (IsS42.ge HI0.out))|exact HB.out));rintro e w29 ⟨rfl,hi,hb,hk⟩;refine⟨_,rfl,?_⟩;replace HK:=A_ (KeepBut.trans (y0 HK.out) hk (.inl rfl));replace HB:=A_ (hb);replace HI0:=A_ (hi);(try clear hb);(try clear hb2);(try clear hk);(try clear hi)))
 go_ret
 exact⟨rr_,y1 HI0.out,y2 HB.out,y0 HK.out⟩

/-! ### spec_l1Cur_signed: function 45 -/
def spec_l1Cur_signed.f (k:Nat) (s0_0:List Int) (s0_1:Int) (s0_2:Int):Option (Int × Int × Int):=(spec_l1Cur_word.f k s0_0 s0_1 s0_2).bind fun bt142=>((spec_l1Cur_one.f s0_0 bt142.2.1 bt142.2.2 2).bind fun bt145=>(if bt145.1=true then (some (wrap64 (-(wrap64 (bt142.1))),bt145.2.1,bt145.2.2)) else (some (wrap64 (bt142.1),bt145.2.1,bt145.2.2))))
theorem spec_l1Cur_signed.mono:∀ a0 a1 a2 k,LeO (spec_l1Cur_signed.f k a0 a1 a2) (spec_l1Cur_signed.f (k+1) a0 a1 a2):=by
 intro a0 a1 a2 k
 unfold spec_l1Cur_signed.f
 repeat' first
   |(with_reducible exact spec_l1Cur_word.mono _ _ _ _)
   |(with_reducible exact LeO.refl _)
   |(with_reducible exact LeO.none _)
   |(with_reducible refine LeO.ite ?_ ?_)
   |(with_reducible refine LeO.bind ?_ (fun _=>?_))
   |exact spec_l1Cur_word.mono _ _ _ _
   |exact LeO.none _
   |refine LeO.ite ?_ ?_
   |refine LeO.bind ?_ (fun _=>?_)
theorem spec_l1Cur_signed.calls (k:Nat) (g:Nat) (s0_0:List Int) (s0_1:Int) (s0_2:Int) (r1:Int) (r2:Int) (r3:Int) (w0 w:World) (hI:IsS42 w0 w g s0_0 s0_1 s0_2) (hB:Below w0.heap.size w0 w) (h:spec_l1Cur_signed.f k s0_0 s0_1 s0_2=some (r1,r2,r3)):
  Calls Try.prog 45 #[.pointer (some ⟨g,0,none⟩)] w fun e w'=>e=.returned (.int .i64 r1)∧IsS42 w0 w' g s0_0 r2 r3∧Below w0.heap.size w0 w'∧KeepBut w w' g none:=by
 have HI0:=A_ hI
 have HK:=A_ (KeepBut.refl w g none)
 have HL:=A_ hB.size
 clear hI
 have HW0:=A_ hB.size
 have HB:=A_ hB
 clear hB
 have H:((spec_l1Cur_word.f k s0_0 s0_1 s0_2).bind fun bt142=>((spec_l1Cur_one.f s0_0 bt142.2.1 bt142.2.2 2).bind fun bt145=>(if bt145.1=true then (some (wrap64 (-(wrap64 (bt142.1))),bt145.2.1,bt145.2.2)) else (some (wrap64 (bt142.1),bt145.2.1,bt145.2.2)))))=some (r1,r2,r3):=h
 clear h
 replace H:=Option.bind_eq_some_iff.mp H
 obtain⟨⟨t142,t143,t144⟩,A20,H⟩:=H
 replace H:((spec_l1Cur_one.f s0_0 t143 t144 2).bind fun bt145=>(if bt145.1=true then (some (wrap64 (-(wrap64 (t142))),bt145.2.1,bt145.2.2)) else (some (wrap64 (t142),bt145.2.1,bt145.2.2))))=some (r1,r2,r3):=H
 have A2:=A_ A20
 clear A20
 replace H:=Option.bind_eq_some_iff.mp H
 obtain⟨⟨t145,t146,t147⟩,A30,H⟩:=H
 replace H:(if t145=true then (some (wrap64 (-(wrap64 (t142))),t146,t147)) else (some (wrap64 (t142),t146,t147)))=some (r1,r2,r3):=H
 have A3:=A_ A30
 clear A30
 by_cases c4:t145=true
 ·
  subst c4
  replace H:=iT_ H
  simp only[Option.some.injEq,Prod.mk.injEq] at H
  obtain⟨rfl,rfl,rfl⟩:=H
  go_enter Try.func45,Try.ntmps45
  go_wp2_with (first|((with_reducible refine gc_ 47 rfl ?_);refine goesL_ (some 5) rfl rfl Try.func47 (by kernel_rfl) rfl #[.pointer (some ⟨g,0,none⟩)] rfl ar ?_;(with_reducible refine(spec_l1Cur_word.calls k g s0_0 s0_1 s0_2 t142 t143 t144 w0 _ ?side1 ?side2 A2.out).mono ?_);(case side1=>repeat (first|(with_reducible first|exact HI0.out|apply IsS42.alloc|apply IsS42.drewN|apply IsS42.drew|apply IsS42.set_1|apply IsS42.set_2)|exact HI0.out));(case side2=>repeat (first|(with_reducible first|exact HB.out|apply below_alloc|apply pw_below_drewN|apply below_drew1|refine below_set ?_ (IsS42.ge HI0.out))|exact HB.out));rintro e w5 ⟨rfl,hi,hb,hk⟩;refine⟨_,rfl,?_⟩;replace HK:=A_ (KeepBut.trans (y0 HK.out) hk (.inl rfl));replace HB:=A_ (hb);replace HI0:=A_ (hi);(try clear hb);(try clear hb2);(try clear hk);(try clear hi))|((with_reducible refine gc_ 13 rfl ?_);refine goesL_ (some 8) rfl rfl Try.func13 (by kernel_rfl) rfl #[.pointer (some ⟨g,0,none⟩),.int .i64 2] rfl ar ?_;(with_reducible refine(spec_l1Cur_one.calls g s0_0 t143 t144 2 true t146 t147 w0 _ ?side1 ?side2 A3.out).mono ?_);(case side1=>repeat (first|(with_reducible first|exact HI0.out|apply IsS42.alloc|apply IsS42.drewN|apply IsS42.drew|apply IsS42.set_1|apply IsS42.set_2)|exact HI0.out));(case side2=>repeat (first|(with_reducible first|exact HB.out|apply below_alloc|apply pw_below_drewN|apply below_drew1|refine below_set ?_ (IsS42.ge HI0.out))|exact HB.out));rintro e w6 ⟨rfl,hi,hb,hk⟩;refine⟨_,rfl,?_⟩;replace HK:=A_ (KeepBut.trans (y0 HK.out) hk (.inl rfl));replace HB:=A_ (hb);replace HI0:=A_ (hi);(try clear hb);(try clear hb2);(try clear hk);(try clear hi)))
  go_ret
  exact⟨rr_,y1 HI0.out,y2 HB.out,y0 HK.out⟩
 replace c4:=Bool.eq_false_iff.mpr c4
 subst c4
 replace H:=iF_ H
 simp only[Option.some.injEq,Prod.mk.injEq] at H
 obtain⟨rfl,rfl,rfl⟩:=H
 go_enter Try.func45,Try.ntmps45
 go_wp2_with (first|((with_reducible refine gc_ 47 rfl ?_);refine goesL_ (some 5) rfl rfl Try.func47 (by kernel_rfl) rfl #[.pointer (some ⟨g,0,none⟩)] rfl ar ?_;(with_reducible refine(spec_l1Cur_word.calls k g s0_0 s0_1 s0_2 t142 t143 t144 w0 _ ?side1 ?side2 A2.out).mono ?_);(case side1=>repeat (first|(with_reducible first|exact HI0.out|apply IsS42.alloc|apply IsS42.drewN|apply IsS42.drew|apply IsS42.set_1|apply IsS42.set_2)|exact HI0.out));(case side2=>repeat (first|(with_reducible first|exact HB.out|apply below_alloc|apply pw_below_drewN|apply below_drew1|refine below_set ?_ (IsS42.ge HI0.out))|exact HB.out));rintro e w7 ⟨rfl,hi,hb,hk⟩;refine⟨_,rfl,?_⟩;replace HK:=A_ (KeepBut.trans (y0 HK.out) hk (.inl rfl));replace HB:=A_ (hb);replace HI0:=A_ (hi);(try clear hb);(try clear hb2);(try clear hk);(try clear hi))|((with_reducible refine gc_ 13 rfl ?_);refine goesL_ (some 8) rfl rfl Try.func13 (by kernel_rfl) rfl #[.pointer (some ⟨g,0,none⟩),.int .i64 2] rfl ar ?_;(with_reducible refine(spec_l1Cur_one.calls g s0_0 t143 t144 2 false t146 t147 w0 _ ?side1 ?side2 A3.out).mono ?_);(case side1=>repeat (first|(with_reducible first|exact HI0.out|apply IsS42.alloc|apply IsS42.drewN|apply IsS42.drew|apply IsS42.set_1|apply IsS42.set_2)|exact HI0.out));(case side2=>repeat (first|(with_reducible first|exact HB.out|apply below_alloc|apply pw_below_drewN|apply below_drew1|refine below_set ?_ (IsS42.ge HI0.out))|exact HB.out));rintro e w8 ⟨rfl,hi,hb,hk⟩;refine⟨_,rfl,?_⟩;replace HK:=A_ (KeepBut.trans (y0 HK.out) hk (.inl rfl));replace HB:=A_ (hb);replace HI0:=A_ (hi);(try clear hb);(try clear hb2);(try clear hk);(try clear hi)))
 go_ret
 exact⟨rr_,y1 HI0.out,y2 HB.out,y0 HK.out⟩

/-! ### spec_l4Kind: function 49 -/
def spec_l4Kind.f (a0:Int):Option (Int × Int × Bool):=if a0=16 then (some (5,10,true)) else (if a0=32 then (some (8,23,true)) else (some (0,0,false)))
theorem spec_l4Kind.calls (a0:Int) (r1:Int) (r2:Int) (r3:Bool) (w:World) (h:spec_l4Kind.f a0=some (r1,r2,r3)):
  Calls Try.prog 49 #[.int .i64 a0] w fun e w'=>e=.returned (.tuple #[.agg #[.int .u64 r1,.int .u64 r2],.bool r3])∧Below w.heap.size w w':=by
 have hu76:=Try.underlying76
 have HB:=A_ (Below.refl w.heap.size w)
 have H:(if a0=16 then (some (5,10,true)) else (if a0=32 then (some (8,23,true)) else (some (0,0,false))))=some (r1,r2,r3):=h
 clear h
 by_cases c2:a0=16
 ·
  rw[if_pos c2] at H
  obtain⟨c2b0,c2b1⟩:=eT_ c2
  clear c2
  simp only[Option.some.injEq,Prod.mk.injEq] at H
  obtain⟨rfl,rfl,rfl⟩:=H
  go_enter Try.func49,Try.ntmps49
  go_wp2_with (first|((with_reducible refine gd_ 2 rfl ?_);refine bx_ #[.int .u64 0,.int .u64 0] 76 ?_;intro gb148 hg w3 hbox hb;have BK148:=A_ hbox;have GW148:=gw_ hg HB;have GE148:=GW148;replace HB:=bs_ HB hb;clear hb hbox hg;obtain⟨hcz4_0,hcz4_1⟩:=cs2_ BK148.out;obtain⟨hfz4_0,hfz4_1⟩:=fz2_ BK148.out))
  refine bodyPost_ret (results_ct rfl _ _ gb148 76 #[.int .u64 5,.int .u64 10] (0,0) _ rfl (by refine blk_put (cs:=#[.int .u64 5,.int .u64 0]) ?_ 1 _ rfl;refine blk_put (cs:=#[.int .u64 0,.int .u64 0]) ?_ 0 _ rfl;(with_reducible repeat (first|refine blk_drewN ?_ _|refine blk_drew ?_|refine blk_alloc ?_ _));exact BK148.out) Try.underlying76 rfl (by kernel_rfl)) rfl ?_
  exact⟨rr_,bw HB.out⟩
 rw[if_neg c2] at H
 obtain⟨c2b0,c2b1⟩:=eF_ c2
 by_cases c5:a0=32
 ·
  rw[if_pos c5] at H
  obtain⟨c5b0,c5b1⟩:=eT_ c5
  clear c5
  simp only[Option.some.injEq,Prod.mk.injEq] at H
  obtain⟨rfl,rfl,rfl⟩:=H
  go_enter Try.func49,Try.ntmps49
  go_wp2_with (first|((with_reducible refine gd_ 2 rfl ?_);refine bx_ #[.int .u64 0,.int .u64 0] 76 ?_;intro gb148 hg w6 hbox hb;have BK148:=A_ hbox;have GW148:=gw_ hg HB;have GE148:=GW148;replace HB:=bs_ HB hb;clear hb hbox hg;obtain⟨hcz7_0,hcz7_1⟩:=cs2_ BK148.out;obtain⟨hfz7_0,hfz7_1⟩:=fz2_ BK148.out))
  refine bodyPost_ret (results_ct rfl _ _ gb148 76 #[.int .u64 8,.int .u64 23] (0,0) _ rfl (by refine blk_put (cs:=#[.int .u64 8,.int .u64 0]) ?_ 1 _ rfl;refine blk_put (cs:=#[.int .u64 0,.int .u64 0]) ?_ 0 _ rfl;(with_reducible repeat (first|refine blk_drewN ?_ _|refine blk_drew ?_|refine blk_alloc ?_ _));exact BK148.out) Try.underlying76 rfl (by kernel_rfl)) rfl ?_
  exact⟨rr_,bw HB.out⟩
 rw[if_neg c5] at H
 obtain⟨c5b0,c5b1⟩:=eF_ c5
 simp only[Option.some.injEq,Prod.mk.injEq] at H
 obtain⟨rfl,rfl,rfl⟩:=H
 go_enter Try.func49,Try.ntmps49
 go_wp2_with (first|((with_reducible refine gd_ 2 rfl ?_);refine bx_ #[.int .u64 0,.int .u64 0] 76 ?_;intro gb148 hg w8 hbox hb;have BK148:=A_ hbox;have GW148:=gw_ hg HB;have GE148:=GW148;replace HB:=bs_ HB hb;clear hb hbox hg;obtain⟨hcz9_0,hcz9_1⟩:=cs2_ BK148.out;obtain⟨hfz9_0,hfz9_1⟩:=fz2_ BK148.out))
 refine bodyPost_ret (results_ct rfl _ _ gb148 76 #[.int .u64 0,.int .u64 0] (0,0) _ rfl (by refine blk_put (cs:=#[.int .u64 0,.int .u64 0]) ?_ 1 _ rfl;refine blk_put (cs:=#[.int .u64 0,.int .u64 0]) ?_ 0 _ rfl;(with_reducible repeat (first|refine blk_drewN ?_ _|refine blk_drew ?_|refine blk_alloc ?_ _));exact BK148.out) Try.underlying76 rfl (by kernel_rfl)) rfl ?_
 exact⟨rr_,bw HB.out⟩

/-! ### spec_l4K_sign: function 52 -/
def spec_l4K_sign.f (a0_0:Int) (a0_1:Int) (a1:Bool):Option (Int):=if a1=true then (if 0≤(IntKind.u64.wrap (a0_0+a0_1)) then (some (shl .u32 1 (IntKind.u64.wrap (a0_0+a0_1)))) else (none)) else (some 0)
theorem spec_l4K_sign.calls (a0_0:Int) (a0_1:Int) (a1:Bool) (r:Int) (w:World) (h:spec_l4K_sign.f a0_0 a0_1 a1=some r):
  Calls Try.prog 52 #[.agg #[.int .u64 a0_0,.int .u64 a0_1],.bool a1] w fun e w'=>e=.returned (.int .u32 r)∧Below w.heap.size w w':=by
 have hu76:=Try.underlying76
 have HB:=A_ (Below.refl w.heap.size w)
 have H:(if a1=true then (if 0≤(IntKind.u64.wrap (a0_0+a0_1)) then (some (shl .u32 1 (IntKind.u64.wrap (a0_0+a0_1)))) else (none)) else (some 0))=some r:=h
 clear h
 by_cases c3:a1=true
 ·
  subst c3
  replace H:=iT_ H
  obtain⟨ji4,hji4⟩:∃ j_:Int,(IntKind.u64.wrap (a0_0+a0_1))=j_:=⟨_,rfl⟩
  replace H:(if 0≤(ji4) then (some (shl .u32 1 (ji4))) else (none))=some r:=by first|(rw[hji4] at H;exact H)|(simp only[hji4] at H ⊢;exact H)
  by_cases c5:0≤(ji4)
  ·
   rw[if_pos c5] at H
   have c5b0:=eq_true c5
   have c5b1:=decide_eq_true c5
   clear c5
   obtain⟨ji6,hji6⟩:∃ j_:Int,(shl .u32 1 (ji4))=j_:=⟨_,rfl⟩
   replace H:(some ji6)=some r:=by first|(rw[hji6] at H;exact H)|(simp only[hji6] at H ⊢;exact H)
   have hji6_:(IntKind.u32.wrap (1*2 ^ min (ji4).toNat 32))=ji6:=hji6
   have hji6z:(ji4)≤32→(IntKind.u32.wrap (1*2 ^ (ji4).toNat))=ji6:=shl_small hji6
   have hji6u:(IntKind.u32.wrap (2 ^ min (ji4).toNat 32))=ji6:=by have h_:=hji6_;rw[Int.one_mul] at h_;exact h_
   have hji6v:(ji4)≤32→(IntKind.u32.wrap (2 ^ (ji4).toNat))=ji6:=fun hle_=>by have h_:=hji6z hle_;rw[Int.one_mul] at h_;exact h_
   obtain rfl:=Option.some.inj H
   clear H
   go_enter Try.func52,Try.ntmps52
   go_wp2_with (first|((with_reducible refine gd_ 2 rfl ?_);refine bx_ #[.int .u64 a0_0,.int .u64 a0_1] 76 ?_;intro gb149 hg w7 hbox hb;have BK149:=A_ hbox;have GW149:=gw_ hg HB;have GE149:=GW149;replace HB:=bs_ HB hb;clear hb hbox hg;obtain⟨hcz8_0,hcz8_1⟩:=cs2_ BK149.out;obtain⟨hfz8_0,hfz8_1⟩:=fz2_ BK149.out))
   go_ret
   exact⟨by first|rfl|(simp[errW_none,errW_some]<;>rfl)|(simp only[←hji4,←hji6];first|rfl|(simp[errW_none,errW_some]<;>rfl))|(simp[*,errW_none,errW_some]<;>rfl),bw HB.out⟩
  rw[if_neg c5] at H
  exact absurd H (by simp)
 replace c3:=Bool.eq_false_iff.mpr c3
 subst c3
 replace H:=iF_ H
 obtain rfl:=Option.some.inj H
 clear H
 go_enter Try.func52,Try.ntmps52
 go_wp2_with (first|((with_reducible refine gd_ 2 rfl ?_);refine bx_ #[.int .u64 a0_0,.int .u64 a0_1] 76 ?_;intro gb149 hg w9 hbox hb;have BK149:=A_ hbox;have GW149:=gw_ hg HB;have GE149:=GW149;replace HB:=bs_ HB hb;clear hb hbox hg))
 go_ret
 exact⟨rr_,bw HB.out⟩

/-! ### spec_l4Len: function 53 -/
def spec_l4Len.l0:Nat→Int→Int→Option (Int)
 |0,_,_=>none
 |k+1,x0,x3=>if x0 > 0 then (spec_l4Len.l0 k (x0 / 2) (wrap64 (x3+1))) else (some x3)
def spec_l4Len.f (k:Nat) (a0:Int):Option (Int):=spec_l4Len.l0 k a0 0
theorem spec_l4Len.mono_l:∀ k,(∀ y0 y1,LeO (spec_l4Len.l0 k y0 y1) (spec_l4Len.l0 (k+1) y0 y1))
 |0=>fun _ _ r h=>by simp[spec_l4Len.l0] at h
 |k+1=>by
  have ih0:=spec_l4Len.mono_l k
  intro y0 y1
  unfold spec_l4Len.l0
  repeat' first
  |(with_reducible exact ih0 _ _)
  |(with_reducible exact LeO.refl _)
  |(with_reducible exact LeO.none _)
  |(with_reducible refine LeO.ite ?_ ?_)
  |(with_reducible refine LeO.bind ?_ (fun _=>?_))
  |exact ih0 _ _
  |exact LeO.none _
  |refine LeO.ite ?_ ?_
  |refine LeO.bind ?_ (fun _=>?_)
theorem spec_l4Len.mono:∀ a0 k,LeO (spec_l4Len.f k a0) (spec_l4Len.f (k+1) a0):=by
 intro a0 k
 have ih0:=spec_l4Len.mono_l k
 unfold spec_l4Len.f
 repeat' first
   |(with_reducible exact ih0 _ _)
   |(with_reducible exact LeO.refl _)
   |(with_reducible exact LeO.none _)
   |(with_reducible refine LeO.ite ?_ ?_)
   |(with_reducible refine LeO.bind ?_ (fun _=>?_))
   |exact ih0 _ _
   |exact LeO.none _
   |refine LeO.ite ?_ ?_
   |refine LeO.bind ?_ (fun _=>?_)
theorem spec_l4Len.calls (k:Nat) (a0:Int) (r:Int) (w:World) (h:spec_l4Len.f k a0=some r):
  Calls Try.prog 53 #[.int .u64 a0] w fun e w'=>e=.returned (.int .i64 r)∧Drawn0 w w':=by
 have H:(spec_l4Len.l0 k a0 0)=some r:=h
 clear h
 have H':=A_ H
 clear H
 go_enter Try.func53,Try.ntmps53
 go_wp2
 (try simp only[Act.put,List.setIfInBounds_toArray,List.set_cons_zero,List.set_cons_succ])
 go_loopg [0,3] k (fun kq v0 v3 w'=>∃ (x0_1:Int) (x3_1:Int),v0=.int .u64 x0_1∧v3=.int .i64 x3_1∧Aside0 (spec_l4Len.l0 kq x0_1 x3_1=some r)∧Aside0 (kq≤k)∧Drawn0 w w')
 case atStart=>exact⟨(a0),(0),rs_,rs_,H',⟨Nat.le_refl _⟩,dr_⟩
 case round=>
  clear H'
  obtain⟨x0_1,x3_1,rfl,rfl,HA,HK1,⟨m1,rfl⟩⟩:=hrel
  cases gk with
  |zero=>exact absurd HA.out (by simp[spec_l4Len.l0])
  |succ k1=>
   have H:=HA.out
   clear HA
   simp only[spec_l4Len.l0] at H
   by_cases c2:x0_1 > 0
   ·
    rw[if_pos c2] at H
    have c2b0:=decide_eq_true c2
    clear c2
    have H':=A_ H
    clear H
    go_wp2
    go_roundg k1
    case measure=>have:=HK1.out;omega
    case rel=>exact⟨(x0_1 / 2),(wrap64 (x3_1+1)),rs_,rs_,H',⟨by have:=HK1.out;omega⟩,dr_⟩
   rw[if_neg c2] at H
   have c2b0:=decide_eq_false c2
   clear c2
   obtain rfl:=Option.some.inj H
   clear H
   go_wp2
   go_ret
   exact⟨rs_,dr_⟩

/-! ### spec_l4K_least: function 54 -/
def spec_l4K_least.f (a0_0:Int) (a0_1:Int):Option (Int):=if 0≤(IntKind.u64.wrap (a0_0 - 1)) then (some (wrap64 ((wrap64 (2 - (shl .i64 1 (IntKind.u64.wrap (a0_0 - 1))))) - (wrap64 (a0_1))))) else (none)
theorem spec_l4K_least.calls (a0_0:Int) (a0_1:Int) (r:Int) (w:World) (h:spec_l4K_least.f a0_0 a0_1=some r):
  Calls Try.prog 54 #[.agg #[.int .u64 a0_0,.int .u64 a0_1]] w fun e w'=>e=.returned (.int .i64 r)∧Below w.heap.size w w':=by
 have hu76:=Try.underlying76
 have HB:=A_ (Below.refl w.heap.size w)
 have H:(if 0≤(IntKind.u64.wrap (a0_0 - 1)) then (some (wrap64 ((wrap64 (2 - (shl .i64 1 (IntKind.u64.wrap (a0_0 - 1))))) - (wrap64 (a0_1))))) else (none))=some r:=h
 clear h
 obtain⟨ji2,hji2⟩:∃ j_:Int,(IntKind.u64.wrap (a0_0 - 1))=j_:=⟨_,rfl⟩
 replace H:(if 0≤(ji2) then (some (wrap64 ((wrap64 (2 - (shl .i64 1 (ji2)))) - (wrap64 (a0_1))))) else (none))=some r:=by first|(rw[hji2] at H;exact H)|(simp only[hji2] at H ⊢;exact H)
 by_cases c3:0≤(ji2)
 ·
  rw[if_pos c3] at H
  have c3b0:=eq_true c3
  have c3b1:=decide_eq_true c3
  clear c3
  obtain⟨ji4,hji4⟩:∃ j_:Int,(shl .i64 1 (ji2))=j_:=⟨_,rfl⟩
  replace H:(some (wrap64 ((wrap64 (2 - (ji4))) - (wrap64 (a0_1)))))=some r:=by first|(rw[hji4] at H;exact H)|(simp only[hji4] at H ⊢;exact H)
  have hji4_:(IntKind.i64.wrap (1*2 ^ min (ji2).toNat 64))=ji4:=hji4
  have hji4z:(ji2)≤64→(IntKind.i64.wrap (1*2 ^ (ji2).toNat))=ji4:=shl_small hji4
  have hji4u:(IntKind.i64.wrap (2 ^ min (ji2).toNat 64))=ji4:=by have h_:=hji4_;rw[Int.one_mul] at h_;exact h_
  have hji4v:(ji2)≤64→(IntKind.i64.wrap (2 ^ (ji2).toNat))=ji4:=fun hle_=>by have h_:=hji4z hle_;rw[Int.one_mul] at h_;exact h_
  have hji4y:(wrap64 (1*2 ^ min (ji2).toNat 64))=ji4:=(i64_w _).symm.trans hji4_
  have hji4x:(ji2)≤64→(wrap64 (1*2 ^ (ji2).toNat))=ji4:=fun h_=>(i64_w _).symm.trans (hji4z h_)
  have hji4n:(wrap64 (2 ^ min (ji2).toNat 64))=ji4:=(i64_w _).symm.trans hji4u
  obtain rfl:=Option.some.inj H
  clear H
  go_enter Try.func54,Try.ntmps54
  go_wp2_with (first|((with_reducible refine gd_ 1 rfl ?_);refine bx_ #[.int .u64 a0_0,.int .u64 a0_1] 76 ?_;intro gb150 hg w5 hbox hb;have BK150:=A_ hbox;have GW150:=gw_ hg HB;have GE150:=GW150;replace HB:=bs_ HB hb;clear hb hbox hg;obtain⟨hcz6_0,hcz6_1⟩:=cs2_ BK150.out;obtain⟨hfz6_0,hfz6_1⟩:=fz2_ BK150.out))
  go_ret
  exact⟨by first|rfl|(simp[errW_none,errW_some]<;>rfl)|(simp only[←hji2,←hji4];first|rfl|(simp[errW_none,errW_some]<;>rfl))|(simp[*,errW_none,errW_some]<;>rfl),bw HB.out⟩
 rw[if_neg c3] at H
 exact absurd H (by simp)

/-! ### spec_l4K_inf: function 55 -/
def spec_l4K_inf.f (a0_0:Int) (a0_1:Int) (a1:Bool):Option (Int):=if 0≤a0_0 then (if 0≤a0_1 then ((spec_l4K_sign.f a0_0 a0_1 a1).bind fun t152=>(some (Go.bits .or .u32 (shl .u32 (((shl .u32 1 a0_0) - 1) % 4294967296) a0_1) t152))) else (none)) else (none)
theorem spec_l4K_inf.calls (a0_0:Int) (a0_1:Int) (a1:Bool) (r:Int) (w:World) (h:spec_l4K_inf.f a0_0 a0_1 a1=some r):
  Calls Try.prog 55 #[.agg #[.int .u64 a0_0,.int .u64 a0_1],.bool a1] w fun e w'=>e=.returned (.int .u32 r)∧Below w.heap.size w w':=by
 have hu76:=Try.underlying76
 have HB:=A_ (Below.refl w.heap.size w)
 have H:(if 0≤a0_0 then (if 0≤a0_1 then ((spec_l4K_sign.f a0_0 a0_1 a1).bind fun t152=>(some (Go.bits .or .u32 (shl .u32 (((shl .u32 1 a0_0) - 1) % 4294967296) a0_1) t152))) else (none)) else (none))=some r:=h
 clear h
 by_cases c3:0≤a0_0
 ·
  rw[if_pos c3] at H
  have c3b0:=eq_true c3
  have c3b1:=decide_eq_true c3
  clear c3
  obtain⟨ji4,hji4⟩:∃ j_:Int,(shl .u32 1 a0_0)=j_:=⟨_,rfl⟩
  replace H:(if 0≤a0_1 then ((spec_l4K_sign.f a0_0 a0_1 a1).bind fun t152=>(some (Go.bits .or .u32 (shl .u32 (((ji4) - 1) % 4294967296) a0_1) t152))) else (none))=some r:=by first|(rw[hji4] at H;exact H)|(simp only[hji4] at H ⊢;exact H)
  have hji4_:(IntKind.u32.wrap (1*2 ^ min a0_0.toNat 32))=ji4:=hji4
  have hji4z:a0_0≤32→(IntKind.u32.wrap (1*2 ^ a0_0.toNat))=ji4:=shl_small hji4
  have hji4u:(IntKind.u32.wrap (2 ^ min a0_0.toNat 32))=ji4:=by have h_:=hji4_;rw[Int.one_mul] at h_;exact h_
  have hji4v:a0_0≤32→(IntKind.u32.wrap (2 ^ a0_0.toNat))=ji4:=fun hle_=>by have h_:=hji4z hle_;rw[Int.one_mul] at h_;exact h_
  by_cases c5:0≤a0_1
  ·
   rw[if_pos c5] at H
   have c5b0:=eq_true c5
   have c5b1:=decide_eq_true c5
   clear c5
   obtain⟨ji6,hji6⟩:∃ j_:Int,(shl .u32 (((ji4) - 1) % 4294967296) a0_1)=j_:=⟨_,rfl⟩
   replace H:((spec_l4K_sign.f a0_0 a0_1 a1).bind fun t152=>(some (Go.bits .or .u32 (ji6) t152)))=some r:=by first|(rw[hji6] at H;exact H)|(simp only[hji6] at H ⊢;exact H)
   have hji6_:(IntKind.u32.wrap ((((ji4) - 1) % 4294967296)*2 ^ min a0_1.toNat 32))=ji6:=hji6
   have hji6z:a0_1≤32→(IntKind.u32.wrap ((((ji4) - 1) % 4294967296)*2 ^ a0_1.toNat))=ji6:=shl_small hji6
   replace H:=bi_ H
   obtain⟨t152,A70,H⟩:=H
   have A7:=A_ A70
   clear A70
   obtain rfl:=Option.some.inj H
   clear H
   go_enter Try.func55,Try.ntmps55
   go_wp2_with (first|((with_reducible refine gd_ 2 rfl ?_);refine bx_ #[.int .u64 a0_0,.int .u64 a0_1] 76 ?_;intro gb151 hg w8 hbox hb;have BK151:=A_ hbox;have GW151:=gw_ hg HB;have GE151:=GW151;replace HB:=bs_ HB hb;clear hb hbox hg;obtain⟨hcz9_0,hcz9_1⟩:=cs2_ BK151.out;obtain⟨hfz9_0,hfz9_1⟩:=fz2_ BK151.out)|((with_reducible refine gc_ 52 rfl ?_);refine gm_ (some 16) Try.func52 (spec_l4K_sign.calls a0_0 a0_1 a1 t152 _ A7.out) ?_;intro w10 hb;replace BK151:=kb_ BK151 hb;replace HB:=bs_ HB hb;(try clear hb)))
   go_ret
   exact⟨by first|rfl|(simp[errW_none,errW_some]<;>rfl)|(simp only[←hji4,←hji6];first|rfl|(simp[errW_none,errW_some]<;>rfl))|(simp[*,errW_none,errW_some]<;>rfl),bw HB.out⟩
  rw[if_neg c5] at H
  exact absurd H (by simp)
 rw[if_neg c3] at H
 exact absurd H (by simp)

/-! ### spec_l4K_round: function 51 -/
mutual
def spec_l4K_round.j0:Nat→Bool→Int→Int→Bool→Int→Int→Int→Option (Int)
 |0,_,_,_,_,_,_,_=>none
 |k+1,x1,x2,x3,x4,x11,x154000,x154001=>if (wrap64 (x11 - x3))≤0 then (if 0≤(IntKind.u64.wrap (wrap64 (-(wrap64 (x11 - x3))))) then (spec_l4K_round.j1 k x1 (shl .u64 x2 (IntKind.u64.wrap (wrap64 (-(wrap64 (x11 - x3)))))) x11 x154000 x154001) else (none)) else (if (wrap64 (x11 - x3))<64 then (if 0≤(IntKind.u64.wrap (wrap64 (x11 - x3))) then (if 0≤(IntKind.u64.wrap (wrap64 ((wrap64 (x11 - x3)) - 1))) then (if (Go.bits .and .u64 x2 (IntKind.u64.wrap ((shl .u64 1 (IntKind.u64.wrap (wrap64 (x11 - x3)))) - 1))) > (shl .u64 1 (IntKind.u64.wrap (wrap64 ((wrap64 (x11 - x3)) - 1)))) then (spec_l4K_round.j1 k x1 (IntKind.u64.wrap ((shr .u64 x2 (IntKind.u64.wrap (wrap64 (x11 - x3))))+1)) x11 x154000 x154001) else (if (Go.bits .and .u64 x2 (IntKind.u64.wrap ((shl .u64 1 (IntKind.u64.wrap (wrap64 (x11 - x3)))) - 1)))=(shl .u64 1 (IntKind.u64.wrap (wrap64 ((wrap64 (x11 - x3)) - 1)))) then (if x4=true then (spec_l4K_round.j1 k x1 (IntKind.u64.wrap ((shr .u64 x2 (IntKind.u64.wrap (wrap64 (x11 - x3))))+1)) x11 x154000 x154001) else (if (Go.bits .and .u64 (shr .u64 x2 (IntKind.u64.wrap (wrap64 (x11 - x3)))) 1)=1 then (spec_l4K_round.j1 k x1 (IntKind.u64.wrap ((shr .u64 x2 (IntKind.u64.wrap (wrap64 (x11 - x3))))+1)) x11 x154000 x154001) else (spec_l4K_round.j1 k x1 (shr .u64 x2 (IntKind.u64.wrap (wrap64 (x11 - x3)))) x11 x154000 x154001))) else (spec_l4K_round.j1 k x1 (shr .u64 x2 (IntKind.u64.wrap (wrap64 (x11 - x3)))) x11 x154000 x154001))) else (none)) else (none)) else (if 0 > 1 then (spec_l4K_round.j1 k x1 (0+1) x11 x154000 x154001) else (if 0=1 then (spec_l4K_round.j1 k x1 (0+1) x11 x154000 x154001) else (spec_l4K_round.j1 k x1 0 x11 x154000 x154001))))
def spec_l4K_round.j1:Nat→Bool→Int→Int→Int→Int→Option (Int)
 |0,_,_,_,_,_=>none
 |k+1,x1,x2,x11,x154000,x154001=>if 0≤(IntKind.u64.wrap (x154001+1)) then (if x2=(shl .u64 1 (IntKind.u64.wrap (x154001+1))) then (spec_l4K_round.j2 k x1 (x2 / 2) (wrap64 (x11+1)) x154000 x154001) else (spec_l4K_round.j2 k x1 x2 x11 x154000 x154001)) else (none)
def spec_l4K_round.j2:Nat→Bool→Int→Int→Int→Int→Option (Int)
 |0,_,_,_,_,_=>none
 |k+1,x1,x2,x11,x154000,x154001=>if 0≤x154001 then (if x2<(shl .u64 1 x154001) then ((spec_l4K_sign.f x154000 x154001 x1).bind fun t158=>(some (Go.bits .or .u32 t158 ((x2) % 4294967296)))) else ((spec_l4K_least.f x154000 x154001).bind fun t159=>(if 0≤x154000 then (if (wrap64 ((wrap64 (x11 - t159))+1))≥(wrap64 ((shl .i64 1 x154000) - 1)) then ((spec_l4K_inf.f x154000 x154001 x1).bind fun t160=>(some t160)) else ((spec_l4K_sign.f x154000 x154001 x1).bind fun t161=>(some (Go.bits .or .u32 (Go.bits .or .u32 t161 (shl .u32 ((wrap64 ((wrap64 (x11 - t159))+1)) % 4294967296) x154001)) (Go.bits .and .u32 ((x2) % 4294967296) (((shl .u32 1 x154001) - 1) % 4294967296)))))) else (none)))) else (none)
end
def spec_l4K_round.f (k:Nat) (a0_0:Int) (a0_1:Int) (a1:Bool) (a2:Int) (a3:Int) (a4:Bool):Option (Int):=if a2=0 then ((spec_l4K_sign.f a0_0 a0_1 a1).bind fun t154=>(some t154)) else ((spec_l4Len.f k a2).bind fun t155=>((spec_l4K_least.f a0_0 a0_1).bind fun t156=>(if (wrap64 ((wrap64 ((wrap64 (a3+t155)) - (wrap64 (a0_1)))) - 1))<t156 then ((spec_l4K_least.f a0_0 a0_1).bind fun t157=>(spec_l4K_round.j0 k a1 a2 a3 a4 t157 a0_0 a0_1)) else (spec_l4K_round.j0 k a1 a2 a3 a4 (wrap64 ((wrap64 ((wrap64 (a3+t155)) - (wrap64 (a0_1)))) - 1)) a0_0 a0_1))))
theorem spec_l4K_round.mono_l:∀ k,(∀ y0 y1 y2 y3 y4 y5 y6,LeO (spec_l4K_round.j0 k y0 y1 y2 y3 y4 y5 y6) (spec_l4K_round.j0 (k+1) y0 y1 y2 y3 y4 y5 y6))∧(∀ y0 y1 y2 y3 y4,LeO (spec_l4K_round.j1 k y0 y1 y2 y3 y4) (spec_l4K_round.j1 (k+1) y0 y1 y2 y3 y4))∧(∀ y0 y1 y2 y3 y4,LeO (spec_l4K_round.j2 k y0 y1 y2 y3 y4) (spec_l4K_round.j2 (k+1) y0 y1 y2 y3 y4))
 |0=>⟨fun _ _ _ _ _ _ _ r h=>by simp[spec_l4K_round.j0] at h,fun _ _ _ _ _ r h=>by simp[spec_l4K_round.j1] at h,fun _ _ _ _ _ r h=>by simp[spec_l4K_round.j2] at h⟩
 |k+1=>by
  obtain⟨ih0,ih1,ih2⟩:=spec_l4K_round.mono_l k
  refine⟨?_,?_,?_⟩
  ·
   intro y0 y1 y2 y3 y4 y5 y6
   unfold spec_l4K_round.j0
   repeat' first
   |(with_reducible exact ih0 _ _ _ _ _ _ _)
   |(with_reducible exact ih1 _ _ _ _ _)
   |(with_reducible exact ih2 _ _ _ _ _)
   |(with_reducible exact spec_l4Len.mono _ _)
   |(with_reducible exact LeO.refl _)
   |(with_reducible exact LeO.none _)
   |(with_reducible refine LeO.ite ?_ ?_)
   |(with_reducible refine LeO.bind ?_ (fun _=>?_))
   |exact ih0 _ _ _ _ _ _ _
   |exact ih1 _ _ _ _ _
   |exact ih2 _ _ _ _ _
   |exact spec_l4Len.mono _ _
   |exact LeO.none _
   |refine LeO.ite ?_ ?_
   |refine LeO.bind ?_ (fun _=>?_)
  ·
   intro y0 y1 y2 y3 y4
   unfold spec_l4K_round.j1
   repeat' first
   |(with_reducible exact ih0 _ _ _ _ _ _ _)
   |(with_reducible exact ih1 _ _ _ _ _)
   |(with_reducible exact ih2 _ _ _ _ _)
   |(with_reducible exact spec_l4Len.mono _ _)
   |(with_reducible exact LeO.refl _)
   |(with_reducible exact LeO.none _)
   |(with_reducible refine LeO.ite ?_ ?_)
   |(with_reducible refine LeO.bind ?_ (fun _=>?_))
   |exact ih0 _ _ _ _ _ _ _
   |exact ih1 _ _ _ _ _
   |exact ih2 _ _ _ _ _
   |exact spec_l4Len.mono _ _
   |exact LeO.none _
   |refine LeO.ite ?_ ?_
   |refine LeO.bind ?_ (fun _=>?_)
  intro y0 y1 y2 y3 y4
  unfold spec_l4K_round.j2
  repeat' first
  |(with_reducible exact ih0 _ _ _ _ _ _ _)
  |(with_reducible exact ih1 _ _ _ _ _)
  |(with_reducible exact ih2 _ _ _ _ _)
  |(with_reducible exact spec_l4Len.mono _ _)
  |(with_reducible exact LeO.refl _)
  |(with_reducible exact LeO.none _)
  |(with_reducible refine LeO.ite ?_ ?_)
  |(with_reducible refine LeO.bind ?_ (fun _=>?_))
  |exact ih0 _ _ _ _ _ _ _
  |exact ih1 _ _ _ _ _
  |exact ih2 _ _ _ _ _
  |exact spec_l4Len.mono _ _
  |exact LeO.none _
  |refine LeO.ite ?_ ?_
  |refine LeO.bind ?_ (fun _=>?_)
theorem spec_l4K_round.mono:∀ a0 a1 a2 a3 a4 a5 k,LeO (spec_l4K_round.f k a0 a1 a2 a3 a4 a5) (spec_l4K_round.f (k+1) a0 a1 a2 a3 a4 a5):=by
 intro a0 a1 a2 a3 a4 a5 k
 obtain⟨ih0,ih1,ih2⟩:=spec_l4K_round.mono_l k
 unfold spec_l4K_round.f
 repeat' first
   |(with_reducible exact ih0 _ _ _ _ _ _ _)
   |(with_reducible exact ih1 _ _ _ _ _)
   |(with_reducible exact ih2 _ _ _ _ _)
   |(with_reducible exact spec_l4Len.mono _ _)
   |(with_reducible exact LeO.refl _)
   |(with_reducible exact LeO.none _)
   |(with_reducible refine LeO.ite ?_ ?_)
   |(with_reducible refine LeO.bind ?_ (fun _=>?_))
   |exact ih0 _ _ _ _ _ _ _
   |exact ih1 _ _ _ _ _
   |exact ih2 _ _ _ _ _
   |exact spec_l4Len.mono _ _
   |exact LeO.none _
   |refine LeO.ite ?_ ?_
   |refine LeO.bind ?_ (fun _=>?_)
def spec_l4K_round.T3:Bool × List (List Nat × List Nat):=(true,[([],[]),([],[]),([1],[1]),([0,2],[0,2]),([],[]),([4],[4]),([5],[5]),([3,6],[3,6]),([7],[7]),([8,2,0,1,2,3,4,5,6,7,8],[8])])
def spec_l4K_round.B3:List Nat:=[0,0,2,7,0,16,48,127,255,511]
theorem spec_l4K_round.tab3:rtab .any (opsOf Try.f51 3)=spec_l4K_round.T3:=by kernel_rfl
theorem spec_l4K_round.bits3:waitsOk spec_l4K_round.T3.2 spec_l4K_round.B3=true:=by kernel_rfl
def spec_l4K_round.T29:Bool × List (List Nat × List Nat):=(true,[([],[]),([],[]),([0,1],[0,1]),([],[]),([3],[3]),([],[]),([5],[5]),([4,6],[4,6]),([2,7],[2,7]),([],[]),([9],[9]),([],[]),([11],[11]),([12],[12]),([13],[13]),([10,14],[10,14]),([8,15],[8,15]),([16,2,0,1,2,3,4,5,6,7,8,9,10,11,12,13,14,15,16],[16])])
def spec_l4K_round.B29:List Nat:=[0,0,3,0,8,0,32,120,255,0,512,0,2048,6144,14336,32256,65535,131071]
theorem spec_l4K_round.tab29:rtab .any (opsOf Try.f51 29)=spec_l4K_round.T29:=by kernel_rfl
theorem spec_l4K_round.bits29:waitsOk spec_l4K_round.T29.2 spec_l4K_round.B29=true:=by kernel_rfl
theorem spec_l4K_round.calls (k:Nat) (a0_0:Int) (a0_1:Int) (a1:Bool) (a2:Int) (a3:Int) (a4:Bool) (r:Int) (w:World) (h:spec_l4K_round.f k a0_0 a0_1 a1 a2 a3 a4=some r):
  Calls Try.prog 51 #[.agg #[.int .u64 a0_0,.int .u64 a0_1],.bool a1,.int .u64 a2,.int .i64 a3,.bool a4] w fun e w'=>e=.returned (.int .u32 r)∧Below w.heap.size w w':=by
 have hu76:=Try.underlying76
 have HB:=A_ (Below.refl w.heap.size w)
 have H:(if a2=0 then ((spec_l4K_sign.f a0_0 a0_1 a1).bind fun t154=>(some t154)) else ((spec_l4Len.f k a2).bind fun t155=>((spec_l4K_least.f a0_0 a0_1).bind fun t156=>(if (wrap64 ((wrap64 ((wrap64 (a3+t155)) - (wrap64 (a0_1)))) - 1))<t156 then ((spec_l4K_least.f a0_0 a0_1).bind fun t157=>(spec_l4K_round.j0 k a1 a2 a3 a4 t157 a0_0 a0_1)) else (spec_l4K_round.j0 k a1 a2 a3 a4 (wrap64 ((wrap64 ((wrap64 (a3+t155)) - (wrap64 (a0_1)))) - 1)) a0_0 a0_1)))))=some r:=h
 clear h
 by_cases c6:a2=0
 ·
  rw[if_pos c6] at H
  obtain⟨c6b0,c6b1⟩:=eT_ c6
  clear c6
  replace H:=bi_ H
  obtain⟨t154,A70,H⟩:=H
  have A7:=A_ A70
  clear A70
  obtain rfl:=Option.some.inj H
  clear H
  go_enter Try.func51,Try.ntmps51
  go_wp2_with (first|((with_reducible refine gd_ 5 rfl ?_);refine bx_ #[.int .u64 a0_0,.int .u64 a0_1] 76 ?_;intro gb153 hg w8 hbox hb;have BK153:=A_ hbox;have GW153:=gw_ hg HB;have GE153:=GW153;replace HB:=bs_ HB hb;clear hb hbox hg;obtain⟨hcz9_0,hcz9_1⟩:=cs2_ BK153.out;obtain⟨hfz9_0,hfz9_1⟩:=fz2_ BK153.out)|((with_reducible refine gc_ 52 rfl ?_);refine gm_ (some 20) Try.func52 (spec_l4K_sign.calls a0_0 a0_1 a1 t154 _ A7.out) ?_;intro w10 hb;replace BK153:=kb_ BK153 hb;replace HB:=bs_ HB hb;(try clear hb)))
  go_ret
  exact⟨rr_,bw HB.out⟩
 rw[if_neg c6] at H
 obtain⟨c6b0,c6b1⟩:=eF_ c6
 replace H:=bi_ H
 obtain⟨t155,A110,H⟩:=H
 have A11:=A_ A110
 clear A110
 replace H:=bi_ H
 obtain⟨t156,A120,H⟩:=H
 have A12:=A_ A120
 clear A120
 have HC13:=A_ H
 clear H
 go_enter Try.func51,Try.ntmps51
 try go_wp2_with (first|((with_reducible refine gd_ 5 rfl ?_);refine bx_ #[.int .u64 a0_0,.int .u64 a0_1] 76 ?_;intro gb153 hg w14 hbox hb;have BK153:=A_ hbox;have GW153:=gw_ hg HB;have GE153:=GW153;replace HB:=bs_ HB hb;clear hb hbox hg))
 have n0_:=A_ (blk_drew BK153.out)
 have n1_:=A_ (below_drew1 HB.out)
 clear BK153 HB
 have BK153:=n0_
 have HB:=n1_
 clear n0_ n1_
 refine start_ (n:=10) (S:=fun w'=>w'.cell? ⟨gb153,0,none⟩=some (.int .u64 a0_0)∧w'.cell? ⟨gb153,1,none⟩=some (.int .u64 a0_1)) (ds:=[]) #[false,false,false,false,false,false,false,false,false,false] (by kernel_rfl) rfl rfl ⟨(blk_cell BK153.out 0).trans rfl,(blk_cell BK153.out 1).trans rfl⟩ (fun hHeld=>?_);refine with_tabW spec_l4K_round.tab3 spec_l4K_round.bits3 (fun HT_ HW_=>?_)
 generalize w14.drew=w15 at BK153 HB hHeld ⊢
 refine pure_ (i:=0) (N:=some 21) (v:=?_) (a':=?_) #[true,false,false,false,false,false,false,false,false,false] rfl rfl (any_of HT_.out (by kernel_rfl)) (fun _ _ _ h=>h) (Or.inl ⟨by rfl,?_⟩) ?_ ?_
 rotate_left
 ·
  intro w'
  go_simp
  with_reducible rfl
 rotate_left
 ·
  simp only[Act.put,List.setIfInBounds_toArray,List.set_cons_zero,List.set_cons_succ,i64_w,i32_w]
  rfl
 refine pure_ (i:=1) (N:=some 22) (v:=?_) (a':=?_) #[true,true,false,false,false,false,false,false,false,false] rfl rfl (any_of HT_.out (by kernel_rfl)) (fun _ _ _ h=>h) (Or.inl ⟨by rfl,?_⟩) ?_ ?_
 rotate_left
 ·
  intro w'
  go_simp
  with_reducible rfl
 rotate_left
 ·
  simp only[Act.put,List.setIfInBounds_toArray,List.set_cons_zero,List.set_cons_succ,i64_w,i32_w]
  rfl
 refine pure_ (i:=4) (N:=some 25) (v:=?_) (a':=?_) #[true,true,false,false,true,false,false,false,false,false] rfl rfl (any_of HT_.out (by kernel_rfl)) (fun _ _ _ h=>h) (Or.inl ⟨by rfl,?_⟩) ?_ ?_
 rotate_left
 ·
  intro w'
  go_simp
  with_reducible rfl
 rotate_left
 ·
  simp only[Act.put,List.setIfInBounds_toArray,List.set_cons_zero,List.set_cons_succ,i64_w,i32_w]
  rfl
 refine take_ (i:=5) (N:=some 26) (v:=?_) (a':=?_) #[true,true,false,false,true,true,false,false,false,false] rfl rfl (take_ofW HT_.out HW_.out (by kernel_rfl)) (fun _ _ _ h=>h) (Or.inl ⟨by rfl,?_⟩) hHeld ?_ ?_
 rotate_left
 ·
  rintro w' ⟨s0,s1⟩
  go_simp
  with_reducible rfl
 rotate_left
 ·
  simp only[Act.put,List.setIfInBounds_toArray,List.set_cons_zero,List.set_cons_succ,i64_w,i32_w]
  rfl
 refine pure_ (i:=6) (N:=some 27) (v:=?_) (a':=?_) #[true,true,false,false,true,true,true,false,false,false] rfl rfl (any_of HT_.out (by kernel_rfl)) (fun _ _ _ h=>h) (Or.inl ⟨by rfl,?_⟩) ?_ ?_
 rotate_left
 ·
  intro w'
  go_simp
  with_reducible rfl
 rotate_left
 ·
  simp only[Act.put,List.setIfInBounds_toArray,List.set_cons_zero,List.set_cons_succ,i64_w,i32_w]
  rfl
 refine one_ (i:=2) (N:=some 23) #[true,true,true,false,true,true,true,false,false,false] rfl rfl (one_of HT_.out (by kernel_rfl)) (by decide) (fun K hK=>?_)
 refine goes_ Try.func53 (by kernel_rfl) rfl #[.int .u64 a2] (by rfl) rfl rfl ar ?_
 with_reducible refine(spec_l4Len.calls k a2 t155 _ A11.out).mono ?_
 rintro e w' ⟨rfl,⟨nd,rfl⟩⟩
 refine⟨_,rfl,?_⟩
 refine hK.out _ _ ⟨(blk_cell BK153.out 0).trans rfl,(blk_cell BK153.out 1).trans rfl⟩ (fun hHeld=>?_)
 clear hK K
 refine norm_ (a':=?_) ?_ ?_
 rotate_left
 ·
  show Act.put _ (some 23) _=_
  simp only[Act.put,List.setIfInBounds_toArray,List.set_cons_zero,List.set_cons_succ,i64_w,i32_w]
  rfl
 refine pure_ (i:=3) (N:=some 24) (v:=?_) (a':=?_) #[true,true,true,true,true,true,true,false,false,false] rfl rfl (any_of HT_.out (by kernel_rfl)) (fun _ _ _ h=>h) (Or.inl ⟨by rfl,?_⟩) ?_ ?_
 rotate_left
 ·
  intro w'
  go_simp
  with_reducible rfl
 rotate_left
 ·
  simp only[Act.put,List.setIfInBounds_toArray,List.set_cons_zero,List.set_cons_succ,i64_w,i32_w]
  rfl
 refine pure_ (i:=7) (N:=some 28) (v:=?_) (a':=?_) #[true,true,true,true,true,true,true,true,false,false] rfl rfl (any_of HT_.out (by kernel_rfl)) (fun _ _ _ h=>h) (Or.inl ⟨by rfl,?_⟩) ?_ ?_
 rotate_left
 ·
  intro w'
  go_simp
  with_reducible rfl
 rotate_left
 ·
  simp only[Act.put,List.setIfInBounds_toArray,List.set_cons_zero,List.set_cons_succ,i64_w,i32_w]
  rfl
 refine pure_ (i:=8) (N:=some 29) (v:=?_) (a':=?_) #[true,true,true,true,true,true,true,true,true,false] rfl rfl (any_of HT_.out (by kernel_rfl)) (fun _ _ _ h=>h) (Or.inl ⟨by rfl,?_⟩) ?_ ?_
 rotate_left
 ·
  intro w'
  go_simp
  with_reducible rfl
 rotate_left
 ·
  simp only[Act.put,List.setIfInBounds_toArray,List.set_cons_zero,List.set_cons_succ,i64_w,i32_w]
  rfl
 refine pure_ (i:=9) (N:=some 11) (v:=?_) (a':=?_) #[true,true,true,true,true,true,true,true,true,true] rfl rfl (any_of HT_.out (by kernel_rfl)) (fun _ _ _ h=>h) (Or.inl ⟨by rfl,?_⟩) ?_ ?_
 rotate_left
 ·
  intro w'
  go_simp
  with_reducible rfl
 rotate_left
 ·
  simp only[Act.put,List.setIfInBounds_toArray,List.set_cons_zero,List.set_cons_succ,i64_w,i32_w]
  rfl
 refine done_ (done_of HT_.out (by kernel_rfl)) ?_
 obtain⟨hcz16_0,hcz16_1⟩:=cs2_ BK153.out
 obtain⟨hfz16_0,hfz16_1⟩:=fz2_ BK153.out
 go_upto_if 33 with (first|((with_reducible refine gc_ 54 rfl ?_);refine gm_ (some 32) Try.func54 (spec_l4K_least.calls a0_0 a0_1 t156 _ A12.out) ?_;intro w17 hb;replace BK153:=kb_ BK153 hb;replace HB:=bs_ HB hb;(try clear hb)))
 (try simp only[Act.put,List.setIfInBounds_toArray,List.set_cons_zero,List.set_cons_succ])
 go_cut [11] (fun v11 wc=>∃ (kq:Nat) (x11_12:Int),v11=.int .i64 x11_12∧Aside0 (spec_l4K_round.j0 kq a1 a2 a3 a4 x11_12 a0_0 a0_1=some r)∧Aside0 (kq≤k)∧Aside0 (wc.heap[gb153]? =some (.cells #[.int .u64 a0_0,.int .u64 a0_1] 76 (0,0)))∧Aside0 (Below w.heap.size w wc))
 case first=>
  have H:=HC13.out
  clear HC13
  by_cases c18:(wrap64 ((wrap64 ((wrap64 (a3+t155)) - (wrap64 (a0_1)))) - 1))<t156
  ·
   rw[if_pos c18] at H
   have c18b0:=decide_eq_true c18
   clear c18
   (first|rw[c18b0]|(simp only[i64_w,i32_w];rw[c18b0])|skip)
   replace H:=bi_ H
   obtain⟨t157,A190,H⟩:=H
   have A19:=A_ A190
   clear A190
   have H':=A_ H
   clear H
   obtain⟨hcz20_0,hcz20_1⟩:=cs2_ BK153.out
   obtain⟨hfz20_0,hfz20_1⟩:=fz2_ BK153.out
   go_wp2_with (first|((with_reducible refine gc_ 54 rfl ?_);refine gm_ (some 35) Try.func54 (spec_l4K_least.calls a0_0 a0_1 t157 _ A19.out) ?_;intro w21 hb;replace BK153:=kb_ BK153 hb;replace HB:=bs_ HB hb;(try clear hb)))
   go_meet
   case rel=>exact⟨_,(t157),rs_,H',⟨by first|omega|exact Nat.le_refl _⟩,⟨bk BK153.out⟩,⟨bw HB.out⟩⟩
  rw[if_neg c18] at H
  have c18b0:=decide_eq_false c18
  clear c18
  (first|rw[c18b0]|(simp only[i64_w,i32_w];rw[c18b0])|skip)
  have H':=A_ H
  clear H
  go_wp2
  go_meet
  case rel=>exact⟨_,(wrap64 ((wrap64 ((wrap64 (a3+t155)) - (wrap64 (a0_1)))) - 1)),rs_,H',⟨by first|omega|exact Nat.le_refl _⟩,⟨bk BK153.out⟩,⟨bw HB.out⟩⟩
 case rest=>
  clear HC13
  try clear c6 c6b0 c6b1 hcz16_0 hcz16_1 hfz16_0 hfz16_1
  obtain⟨kq,x11_12,rfl,HA,HJ12,BK153,HB⟩:=hcut
  cases kq with
  |zero=>exact absurd HA.out (by simp[spec_l4K_round.j0])
  |succ kj12=>
   have H:=HA.out
   clear HA
   simp only[spec_l4K_round.j0] at H
   have HC22:=A_ H
   clear H
   go_upto_if 40 with (fail)
   go_cut [2] (fun v2 wc=>∃ (kq:Nat) (x2_21:Int),v2=.int .u64 x2_21∧Aside0 (spec_l4K_round.j1 kq a1 x2_21 x11_12 a0_0 a0_1=some r)∧Aside0 (kq≤kj12)∧Aside0 (wc.heap[gb153]? =some (.cells #[.int .u64 a0_0,.int .u64 a0_1] 76 (0,0)))∧Aside0 (Below w.heap.size w wc))
   case first=>
    have H:=HC22.out
    clear HC22
    by_cases c23:(wrap64 (x11_12 - a3))≤0
    ·
     rw[if_pos c23] at H
     have c23b0:=decide_eq_true c23
     clear c23
     (first|rw[c23b0]|(simp only[i64_w,i32_w];rw[c23b0])|skip)
     obtain⟨ji24,hji24⟩:∃ j_:Int,(IntKind.u64.wrap (wrap64 (-(wrap64 (x11_12 - a3)))))=j_:=⟨_,rfl⟩
     replace H:(if 0≤(ji24) then (spec_l4K_round.j1 kj12 a1 (shl .u64 a2 (ji24)) x11_12 a0_0 a0_1) else (none))=some r:=by first|(rw[hji24] at H;exact H)|(simp only[hji24] at H ⊢;exact H)
     by_cases c25:0≤(ji24)
     ·
      rw[if_pos c25] at H
      have c25b0:=eq_true c25
      have c25b1:=decide_eq_true c25
      clear c25
      obtain⟨ji26,hji26⟩:∃ j_:Int,(shl .u64 a2 (ji24))=j_:=⟨_,rfl⟩
      replace H:(spec_l4K_round.j1 kj12 a1 ji26 x11_12 a0_0 a0_1)=some r:=by first|(rw[hji26] at H;exact H)|(simp only[hji26] at H ⊢;exact H)
      have hji26_:(IntKind.u64.wrap (a2*2 ^ min (ji24).toNat 64))=ji26:=hji26
      have hji26z:(ji24)≤64→(IntKind.u64.wrap (a2*2 ^ (ji24).toNat))=ji26:=shl_small hji26
      have H':=A_ H
      clear H
      go_wp2
      first|go_meet|((simp only[←hji26]);go_meet)|((simp only[←hji24]);go_meet)|((simp only[←hji26,←hji24]);go_meet)
      case rel=>exact⟨_,(ji26),(by first|rfl|(simp;done)|(simp only[←hji26]<;>(first|rfl|simp))|(simp[*];done)),H',⟨by have:=HJ12.out;first|omega|exact Nat.le_refl _⟩,⟨bk BK153.out⟩,⟨bw HB.out⟩⟩
     rw[if_neg c25] at H
     exact absurd H (by simp)
    rw[if_neg c23] at H
    have c23b0:=decide_eq_false c23
    clear c23
    (first|rw[c23b0]|(simp only[i64_w,i32_w];rw[c23b0])|skip)
    by_cases c27:(wrap64 (x11_12 - a3))<64
    ·
     rw[if_pos c27] at H
     have c27b0:=decide_eq_true c27
     clear c27
     obtain⟨ji28,hji28⟩:∃ j_:Int,(IntKind.u64.wrap (wrap64 (x11_12 - a3)))=j_:=⟨_,rfl⟩
     replace H:(if 0≤(ji28) then (if 0≤(IntKind.u64.wrap (wrap64 ((wrap64 (x11_12 - a3)) - 1))) then (if (Go.bits .and .u64 a2 (IntKind.u64.wrap ((shl .u64 1 (ji28)) - 1))) > (shl .u64 1 (IntKind.u64.wrap (wrap64 ((wrap64 (x11_12 - a3)) - 1)))) then (spec_l4K_round.j1 kj12 a1 (IntKind.u64.wrap ((shr .u64 a2 (ji28))+1)) x11_12 a0_0 a0_1) else (if (Go.bits .and .u64 a2 (IntKind.u64.wrap ((shl .u64 1 (ji28)) - 1)))=(shl .u64 1 (IntKind.u64.wrap (wrap64 ((wrap64 (x11_12 - a3)) - 1)))) then (if a4=true then (spec_l4K_round.j1 kj12 a1 (IntKind.u64.wrap ((shr .u64 a2 (ji28))+1)) x11_12 a0_0 a0_1) else (if (Go.bits .and .u64 (shr .u64 a2 (ji28)) 1)=1 then (spec_l4K_round.j1 kj12 a1 (IntKind.u64.wrap ((shr .u64 a2 (ji28))+1)) x11_12 a0_0 a0_1) else (spec_l4K_round.j1 kj12 a1 (shr .u64 a2 (ji28)) x11_12 a0_0 a0_1))) else (spec_l4K_round.j1 kj12 a1 (shr .u64 a2 (ji28)) x11_12 a0_0 a0_1))) else (none)) else (none))=some r:=by first|(rw[hji28] at H;exact H)|(simp only[hji28] at H ⊢;exact H)
     by_cases c29:0≤(ji28)
     ·
      rw[if_pos c29] at H
      have c29b0:=eq_true c29
      have c29b1:=decide_eq_true c29
      clear c29
      obtain⟨ji30,hji30⟩:∃ j_:Int,(shl .u64 1 (ji28))=j_:=⟨_,rfl⟩
      replace H:(if 0≤(IntKind.u64.wrap (wrap64 ((wrap64 (x11_12 - a3)) - 1))) then (if (Go.bits .and .u64 a2 (IntKind.u64.wrap ((ji30) - 1))) > (shl .u64 1 (IntKind.u64.wrap (wrap64 ((wrap64 (x11_12 - a3)) - 1)))) then (spec_l4K_round.j1 kj12 a1 (IntKind.u64.wrap ((shr .u64 a2 (ji28))+1)) x11_12 a0_0 a0_1) else (if (Go.bits .and .u64 a2 (IntKind.u64.wrap ((ji30) - 1)))=(shl .u64 1 (IntKind.u64.wrap (wrap64 ((wrap64 (x11_12 - a3)) - 1)))) then (if a4=true then (spec_l4K_round.j1 kj12 a1 (IntKind.u64.wrap ((shr .u64 a2 (ji28))+1)) x11_12 a0_0 a0_1) else (if (Go.bits .and .u64 (shr .u64 a2 (ji28)) 1)=1 then (spec_l4K_round.j1 kj12 a1 (IntKind.u64.wrap ((shr .u64 a2 (ji28))+1)) x11_12 a0_0 a0_1) else (spec_l4K_round.j1 kj12 a1 (shr .u64 a2 (ji28)) x11_12 a0_0 a0_1))) else (spec_l4K_round.j1 kj12 a1 (shr .u64 a2 (ji28)) x11_12 a0_0 a0_1))) else (none))=some r:=by first|(rw[hji30] at H;exact H)|(simp only[hji30] at H ⊢;exact H)
      have hji30_:(IntKind.u64.wrap (1*2 ^ min (ji28).toNat 64))=ji30:=hji30
      have hji30z:(ji28)≤64→(IntKind.u64.wrap (1*2 ^ (ji28).toNat))=ji30:=shl_small hji30
      have hji30u:(IntKind.u64.wrap (2 ^ min (ji28).toNat 64))=ji30:=by have h_:=hji30_;rw[Int.one_mul] at h_;exact h_
      have hji30v:(ji28)≤64→(IntKind.u64.wrap (2 ^ (ji28).toNat))=ji30:=fun hle_=>by have h_:=hji30z hle_;rw[Int.one_mul] at h_;exact h_
      obtain⟨ji31,hji31⟩:∃ j_:Int,(IntKind.u64.wrap (wrap64 ((wrap64 (x11_12 - a3)) - 1)))=j_:=⟨_,rfl⟩
      replace H:(if 0≤(ji31) then (if (Go.bits .and .u64 a2 (IntKind.u64.wrap ((ji30) - 1))) > (shl .u64 1 (ji31)) then (spec_l4K_round.j1 kj12 a1 (IntKind.u64.wrap ((shr .u64 a2 (ji28))+1)) x11_12 a0_0 a0_1) else (if (Go.bits .and .u64 a2 (IntKind.u64.wrap ((ji30) - 1)))=(shl .u64 1 (ji31)) then (if a4=true then (spec_l4K_round.j1 kj12 a1 (IntKind.u64.wrap ((shr .u64 a2 (ji28))+1)) x11_12 a0_0 a0_1) else (if (Go.bits .and .u64 (shr .u64 a2 (ji28)) 1)=1 then (spec_l4K_round.j1 kj12 a1 (IntKind.u64.wrap ((shr .u64 a2 (ji28))+1)) x11_12 a0_0 a0_1) else (spec_l4K_round.j1 kj12 a1 (shr .u64 a2 (ji28)) x11_12 a0_0 a0_1))) else (spec_l4K_round.j1 kj12 a1 (shr .u64 a2 (ji28)) x11_12 a0_0 a0_1))) else (none))=some r:=by first|(rw[hji31] at H;exact H)|(simp only[hji31] at H ⊢;exact H)
      by_cases c32:0≤(ji31)
      ·
       rw[if_pos c32] at H
       have c32b0:=eq_true c32
       have c32b1:=decide_eq_true c32
       clear c32
       obtain⟨ji33,hji33⟩:∃ j_:Int,(shl .u64 1 (ji31))=j_:=⟨_,rfl⟩
       replace H:(if (Go.bits .and .u64 a2 (IntKind.u64.wrap ((ji30) - 1))) > (ji33) then (spec_l4K_round.j1 kj12 a1 (IntKind.u64.wrap ((shr .u64 a2 (ji28))+1)) x11_12 a0_0 a0_1) else (if (Go.bits .and .u64 a2 (IntKind.u64.wrap ((ji30) - 1)))=(ji33) then (if a4=true then (spec_l4K_round.j1 kj12 a1 (IntKind.u64.wrap ((shr .u64 a2 (ji28))+1)) x11_12 a0_0 a0_1) else (if (Go.bits .and .u64 (shr .u64 a2 (ji28)) 1)=1 then (spec_l4K_round.j1 kj12 a1 (IntKind.u64.wrap ((shr .u64 a2 (ji28))+1)) x11_12 a0_0 a0_1) else (spec_l4K_round.j1 kj12 a1 (shr .u64 a2 (ji28)) x11_12 a0_0 a0_1))) else (spec_l4K_round.j1 kj12 a1 (shr .u64 a2 (ji28)) x11_12 a0_0 a0_1)))=some r:=by first|(rw[hji33] at H;exact H)|(simp only[hji33] at H ⊢;exact H)
       have hji33_:(IntKind.u64.wrap (1*2 ^ min (ji31).toNat 64))=ji33:=hji33
       have hji33z:(ji31)≤64→(IntKind.u64.wrap (1*2 ^ (ji31).toNat))=ji33:=shl_small hji33
       have hji33u:(IntKind.u64.wrap (2 ^ min (ji31).toNat 64))=ji33:=by have h_:=hji33_;rw[Int.one_mul] at h_;exact h_
       have hji33v:(ji31)≤64→(IntKind.u64.wrap (2 ^ (ji31).toNat))=ji33:=fun hle_=>by have h_:=hji33z hle_;rw[Int.one_mul] at h_;exact h_
       have c34b0:=eq_true (od_:0≤(ji28))
       obtain⟨ji35,hji35⟩:∃ j_:Int,(shr .u64 a2 (ji28))=j_:=⟨_,rfl⟩
       replace H:(if (Go.bits .and .u64 a2 (IntKind.u64.wrap ((ji30) - 1))) > (ji33) then (spec_l4K_round.j1 kj12 a1 (IntKind.u64.wrap ((ji35)+1)) x11_12 a0_0 a0_1) else (if (Go.bits .and .u64 a2 (IntKind.u64.wrap ((ji30) - 1)))=(ji33) then (if a4=true then (spec_l4K_round.j1 kj12 a1 (IntKind.u64.wrap ((ji35)+1)) x11_12 a0_0 a0_1) else (if (Go.bits .and .u64 (ji35) 1)=1 then (spec_l4K_round.j1 kj12 a1 (IntKind.u64.wrap ((ji35)+1)) x11_12 a0_0 a0_1) else (spec_l4K_round.j1 kj12 a1 ji35 x11_12 a0_0 a0_1))) else (spec_l4K_round.j1 kj12 a1 ji35 x11_12 a0_0 a0_1)))=some r:=by first|(rw[hji35] at H;exact H)|(simp only[hji35] at H ⊢;exact H)
       have hji35_:(a2 / 2 ^ min (ji28).toNat 64)=ji35:=hji35
       have hji35z:(ji28)≤64→(a2 / 2 ^ (ji28).toNat)=ji35:=shr_small hji35
       by_cases c36:(Go.bits .and .u64 a2 (IntKind.u64.wrap ((ji30) - 1))) > (ji33)
       ·
        rw[if_pos c36] at H
        have c36b0:=decide_eq_true c36
        clear c36
        have H':=A_ H
        clear H
        go_wp2
        first|go_meet|((simp only[←hji35]);go_meet)|((simp only[←hji33]);go_meet)|((simp only[←hji31]);go_meet)|((simp only[←hji30]);go_meet)|((simp only[←hji28]);go_meet)|((simp only[←hji35,←hji33,←hji31,←hji30,←hji28]);go_meet)
        case rel=>exact⟨_,(IntKind.u64.wrap ((ji35)+1)),(by first|rfl|(simp;done)|(simp only[←hji35]<;>(first|rfl|simp))|(simp[*];done)),H',⟨by have:=HJ12.out;first|omega|exact Nat.le_refl _⟩,⟨bk BK153.out⟩,⟨bw HB.out⟩⟩
       rw[if_neg c36] at H
       have c36b0:=decide_eq_false c36
       clear c36
       by_cases c37:(Go.bits .and .u64 a2 (IntKind.u64.wrap ((ji30) - 1)))=(ji33)
       ·
        rw[if_pos c37] at H
        obtain⟨c37b0,c37b1⟩:=eT_ c37
        clear c37
        by_cases c38:a4=true
        ·
         subst c38
         replace H:=iT_ H
         have H':=A_ H
         clear H
         go_wp2
         first|go_meet|((simp only[←hji35]);go_meet)|((simp only[←hji33]);go_meet)|((simp only[←hji31]);go_meet)|((simp only[←hji30]);go_meet)|((simp only[←hji28]);go_meet)|((simp only[←hji35,←hji33,←hji31,←hji30,←hji28]);go_meet)
         case rel=>exact⟨_,(IntKind.u64.wrap ((ji35)+1)),(by first|rfl|(simp;done)|(simp only[←hji35]<;>(first|rfl|simp))|(simp[*];done)),H',⟨by have:=HJ12.out;first|omega|exact Nat.le_refl _⟩,⟨bk BK153.out⟩,⟨bw HB.out⟩⟩
        replace c38:=Bool.eq_false_iff.mpr c38
        subst c38
        replace H:=iF_ H
        by_cases c39:(Go.bits .and .u64 (ji35) 1)=1
        ·
         rw[if_pos c39] at H
         obtain⟨c39b0,c39b1⟩:=eT_ c39
         clear c39
         have H':=A_ H
         clear H
         go_wp2
         first|go_meet|((simp only[←hji35]);go_meet)|((simp only[←hji33]);go_meet)|((simp only[←hji31]);go_meet)|((simp only[←hji30]);go_meet)|((simp only[←hji28]);go_meet)|((simp only[←hji35,←hji33,←hji31,←hji30,←hji28]);go_meet)
         case rel=>exact⟨_,(IntKind.u64.wrap ((ji35)+1)),(by first|rfl|(simp;done)|(simp only[←hji35]<;>(first|rfl|simp))|(simp[*];done)),H',⟨by have:=HJ12.out;first|omega|exact Nat.le_refl _⟩,⟨bk BK153.out⟩,⟨bw HB.out⟩⟩
        rw[if_neg c39] at H
        obtain⟨c39b0,c39b1⟩:=eF_ c39
        have H':=A_ H
        clear H
        go_wp2
        first|go_meet|((simp only[←hji35]);go_meet)|((simp only[←hji33]);go_meet)|((simp only[←hji31]);go_meet)|((simp only[←hji30]);go_meet)|((simp only[←hji28]);go_meet)|((simp only[←hji35,←hji33,←hji31,←hji30,←hji28]);go_meet)
        case rel=>exact⟨_,(ji35),(by first|rfl|(simp;done)|(simp only[←hji35]<;>(first|rfl|simp))|(simp[*];done)),H',⟨by have:=HJ12.out;first|omega|exact Nat.le_refl _⟩,⟨bk BK153.out⟩,⟨bw HB.out⟩⟩
       rw[if_neg c37] at H
       obtain⟨c37b0,c37b1⟩:=eF_ c37
       have H':=A_ H
       clear H
       go_wp2
       first|go_meet|((simp only[←hji35]);go_meet)|((simp only[←hji33]);go_meet)|((simp only[←hji31]);go_meet)|((simp only[←hji30]);go_meet)|((simp only[←hji28]);go_meet)|((simp only[←hji35,←hji33,←hji31,←hji30,←hji28]);go_meet)
       case rel=>exact⟨_,(ji35),(by first|rfl|(simp;done)|(simp only[←hji35]<;>(first|rfl|simp))|(simp[*];done)),H',⟨by have:=HJ12.out;first|omega|exact Nat.le_refl _⟩,⟨bk BK153.out⟩,⟨bw HB.out⟩⟩
      rw[if_neg c32] at H
      exact absurd H (by simp)
     rw[if_neg c29] at H
     exact absurd H (by simp)
    rw[if_neg c27] at H
    have c27b0:=decide_eq_false c27
    clear c27
    by_cases c40:0 > 1
    ·
     exact absurd c40 (by decide)
    rw[if_neg c40] at H
    have c40b0:=decide_eq_false c40
    clear c40
    by_cases c41:0=1
    ·
     exact absurd c41 (by decide)
    rw[if_neg c41] at H
    obtain⟨c41b0,c41b1⟩:=eF_ c41
    have H':=A_ H
    clear H
    go_wp2
    go_meet
    case rel=>exact⟨_,(0),rs_,H',⟨by have:=HJ12.out;first|omega|exact Nat.le_refl _⟩,⟨bk BK153.out⟩,⟨bw HB.out⟩⟩
   case rest=>
    clear HC22
    try clear c6 c6b0 c6b1 hcz16_0 hcz16_1 hfz16_0 hfz16_1
    obtain⟨kq,x2_21,rfl,HA,HJ21,BK153,HB⟩:=hcut
    cases kq with
    |zero=>exact absurd HA.out (by simp[spec_l4K_round.j1])
    |succ kj21=>
     have H:=HA.out
     clear HA
     simp only[spec_l4K_round.j1] at H
     obtain⟨ji42,hji42⟩:∃ j_:Int,(IntKind.u64.wrap (a0_1+1))=j_:=⟨_,rfl⟩
     replace H:(if 0≤(ji42) then (if x2_21=(shl .u64 1 (ji42)) then (spec_l4K_round.j2 kj21 a1 (x2_21 / 2) (wrap64 (x11_12+1)) a0_0 a0_1) else (spec_l4K_round.j2 kj21 a1 x2_21 x11_12 a0_0 a0_1)) else (none))=some r:=by first|(rw[hji42] at H;exact H)|(simp only[hji42] at H ⊢;exact H)
     by_cases c43:0≤(ji42)
     ·
      rw[if_pos c43] at H
      have c43b0:=eq_true c43
      have c43b1:=decide_eq_true c43
      clear c43
      obtain⟨ji44,hji44⟩:∃ j_:Int,(shl .u64 1 (ji42))=j_:=⟨_,rfl⟩
      replace H:(if x2_21=(ji44) then (spec_l4K_round.j2 kj21 a1 (x2_21 / 2) (wrap64 (x11_12+1)) a0_0 a0_1) else (spec_l4K_round.j2 kj21 a1 x2_21 x11_12 a0_0 a0_1))=some r:=by first|(rw[hji44] at H;exact H)|(simp only[hji44] at H ⊢;exact H)
      have hji44_:(IntKind.u64.wrap (1*2 ^ min (ji42).toNat 64))=ji44:=hji44
      have hji44z:(ji42)≤64→(IntKind.u64.wrap (1*2 ^ (ji42).toNat))=ji44:=shl_small hji44
      have hji44u:(IntKind.u64.wrap (2 ^ min (ji42).toNat 64))=ji44:=by have h_:=hji44_;rw[Int.one_mul] at h_;exact h_
      have hji44v:(ji42)≤64→(IntKind.u64.wrap (2 ^ (ji42).toNat))=ji44:=fun hle_=>by have h_:=hji44z hle_;rw[Int.one_mul] at h_;exact h_
      have HC45:=A_ H
      clear H
      obtain⟨hcz46_0,hcz46_1⟩:=cs2_ BK153.out
      obtain⟨hfz46_0,hfz46_1⟩:=fz2_ BK153.out
      go_upto_if 86 with (fail)
      go_cut [2,11] (fun v2 v11 wc=>∃ (kq:Nat) (x2_44:Int) (x11_44:Int),v2=.int .u64 x2_44∧v11=.int .i64 x11_44∧Aside0 (spec_l4K_round.j2 kq a1 x2_44 x11_44 a0_0 a0_1=some r)∧Aside0 (kq≤kj21)∧Aside0 (wc.heap[gb153]? =some (.cells #[.int .u64 a0_0,.int .u64 a0_1] 76 (0,0)))∧Aside0 (Below w.heap.size w wc))
      case first=>
       have H:=HC45.out
       clear HC45
       by_cases c47:x2_21=(ji44)
       ·
        rw[if_pos c47] at H
        obtain⟨c47b0,c47b1⟩:=eT_ c47
        clear c47
        (first|rw[c47b0]|(simp only[i64_w,i32_w];rw[c47b0])|skip)
        have H':=A_ H
        clear H
        go_wp2
        first|go_meet|((simp only[←hji44]);go_meet)|((simp only[←hji42]);go_meet)|((simp only[←hji44,←hji42]);go_meet)
        case rel=>exact⟨_,(x2_21 / 2),(wrap64 (x11_12+1)),rs_,rs_,H',⟨by have:=HJ12.out;have:=HJ21.out;first|omega|exact Nat.le_refl _⟩,⟨bk BK153.out⟩,⟨bw HB.out⟩⟩
       rw[if_neg c47] at H
       obtain⟨c47b0,c47b1⟩:=eF_ c47
       (first|rw[c47b0]|(simp only[i64_w,i32_w];rw[c47b0])|skip)
       have H':=A_ H
       clear H
       go_wp2
       first|go_meet|((simp only[←hji44]);go_meet)|((simp only[←hji42]);go_meet)|((simp only[←hji44,←hji42]);go_meet)
       case rel=>exact⟨_,(x2_21),(x11_12),rs_,rs_,H',⟨by have:=HJ12.out;have:=HJ21.out;first|omega|exact Nat.le_refl _⟩,⟨bk BK153.out⟩,⟨bw HB.out⟩⟩
      case rest=>
       clear HC45
       try clear c6 c6b0 c6b1 c43 c43b0 c43b1 hcz16_0 hcz16_1 hcz46_0 hcz46_1 hfz16_0 hfz16_1 hfz46_0 hfz46_1
       obtain⟨kq,x2_44,x11_44,rfl,rfl,HA,HJ44,BK153,HB⟩:=hcut
       cases kq with
       |zero=>exact absurd HA.out (by simp[spec_l4K_round.j2])
       |succ kj44=>
        have H:=HA.out
        clear HA
        simp only[spec_l4K_round.j2] at H
        by_cases c48:0≤a0_1
        ·
         rw[if_pos c48] at H
         have c48b0:=eq_true c48
         have c48b1:=decide_eq_true c48
         clear c48
         obtain⟨ji49,hji49⟩:∃ j_:Int,(shl .u64 1 a0_1)=j_:=⟨_,rfl⟩
         replace H:(if x2_44<(ji49) then ((spec_l4K_sign.f a0_0 a0_1 a1).bind fun t158=>(some (Go.bits .or .u32 t158 ((x2_44) % 4294967296)))) else ((spec_l4K_least.f a0_0 a0_1).bind fun t159=>(if 0≤a0_0 then (if (wrap64 ((wrap64 (x11_44 - t159))+1))≥(wrap64 ((shl .i64 1 a0_0) - 1)) then ((spec_l4K_inf.f a0_0 a0_1 a1).bind fun t160=>(some t160)) else ((spec_l4K_sign.f a0_0 a0_1 a1).bind fun t161=>(some (Go.bits .or .u32 (Go.bits .or .u32 t161 (shl .u32 ((wrap64 ((wrap64 (x11_44 - t159))+1)) % 4294967296) a0_1)) (Go.bits .and .u32 ((x2_44) % 4294967296) (((shl .u32 1 a0_1) - 1) % 4294967296)))))) else (none))))=some r:=by first|(rw[hji49] at H;exact H)|(simp only[hji49] at H ⊢;exact H)
         have hji49_:(IntKind.u64.wrap (1*2 ^ min a0_1.toNat 64))=ji49:=hji49
         have hji49z:a0_1≤64→(IntKind.u64.wrap (1*2 ^ a0_1.toNat))=ji49:=shl_small hji49
         have hji49u:(IntKind.u64.wrap (2 ^ min a0_1.toNat 64))=ji49:=by have h_:=hji49_;rw[Int.one_mul] at h_;exact h_
         have hji49v:a0_1≤64→(IntKind.u64.wrap (2 ^ a0_1.toNat))=ji49:=fun hle_=>by have h_:=hji49z hle_;rw[Int.one_mul] at h_;exact h_
         by_cases c50:x2_44<(ji49)
         ·
          rw[if_pos c50] at H
          have c50b0:=decide_eq_true c50
          clear c50
          replace H:=bi_ H
          obtain⟨t158,A510,H⟩:=H
          have A51:=A_ A510
          clear A510
          obtain rfl:=Option.some.inj H
          clear H
          obtain⟨hcz52_0,hcz52_1⟩:=cs2_ BK153.out
          obtain⟨hfz52_0,hfz52_1⟩:=fz2_ BK153.out
          go_wp2_with (first|((with_reducible refine gc_ 52 rfl ?_);refine gm_ (some 98) Try.func52 (spec_l4K_sign.calls a0_0 a0_1 a1 t158 _ A51.out) ?_;intro w53 hb;replace BK153:=kb_ BK153 hb;replace HB:=bs_ HB hb;(try clear hb)))
          go_ret
          exact⟨by first|rfl|(simp[errW_none,errW_some]<;>rfl)|(simp only[←hji42,←hji44,←hji49];first|rfl|(simp[errW_none,errW_some]<;>rfl))|(simp[*,errW_none,errW_some]<;>rfl),bw HB.out⟩
         rw[if_neg c50] at H
         have c50b0:=decide_eq_false c50
         clear c50
         replace H:=bi_ H
         obtain⟨t159,A540,H⟩:=H
         have A54:=A_ A540
         clear A540
         by_cases c55:0≤a0_0
         ·
          rw[if_pos c55] at H
          have c55b0:=eq_true c55
          have c55b1:=decide_eq_true c55
          clear c55
          obtain⟨ji56,hji56⟩:∃ j_:Int,(shl .i64 1 a0_0)=j_:=⟨_,rfl⟩
          replace H:(if (wrap64 ((wrap64 (x11_44 - t159))+1))≥(wrap64 ((ji56) - 1)) then ((spec_l4K_inf.f a0_0 a0_1 a1).bind fun t160=>(some t160)) else ((spec_l4K_sign.f a0_0 a0_1 a1).bind fun t161=>(some (Go.bits .or .u32 (Go.bits .or .u32 t161 (shl .u32 ((wrap64 ((wrap64 (x11_44 - t159))+1)) % 4294967296) a0_1)) (Go.bits .and .u32 ((x2_44) % 4294967296) (((shl .u32 1 a0_1) - 1) % 4294967296))))))=some r:=by first|(rw[hji56] at H;exact H)|(simp only[hji56] at H ⊢;exact H)
          (try rw[hji56] at A54)
          have hji56_:(IntKind.i64.wrap (1*2 ^ min a0_0.toNat 64))=ji56:=hji56
          have hji56z:a0_0≤64→(IntKind.i64.wrap (1*2 ^ a0_0.toNat))=ji56:=shl_small hji56
          have hji56u:(IntKind.i64.wrap (2 ^ min a0_0.toNat 64))=ji56:=by have h_:=hji56_;rw[Int.one_mul] at h_;exact h_
          have hji56v:a0_0≤64→(IntKind.i64.wrap (2 ^ a0_0.toNat))=ji56:=fun hle_=>by have h_:=hji56z hle_;rw[Int.one_mul] at h_;exact h_
          have hji56y:(wrap64 (1*2 ^ min a0_0.toNat 64))=ji56:=(i64_w _).symm.trans hji56_
          have hji56x:a0_0≤64→(wrap64 (1*2 ^ a0_0.toNat))=ji56:=fun h_=>(i64_w _).symm.trans (hji56z h_)
          have hji56n:(wrap64 (2 ^ min a0_0.toNat 64))=ji56:=(i64_w _).symm.trans hji56u
          by_cases c57:(wrap64 ((wrap64 (x11_44 - t159))+1))≥(wrap64 ((ji56) - 1))
          ·
           rw[if_pos c57] at H
           have c57b0:=decide_eq_true c57
           clear c57
           replace H:=bi_ H
           obtain⟨t160,A580,H⟩:=H
           have A58:=A_ A580
           clear A580
           obtain rfl:=Option.some.inj H
           clear H
           obtain⟨hcz59_0,hcz59_1⟩:=cs2_ BK153.out
           obtain⟨hfz59_0,hfz59_1⟩:=fz2_ BK153.out
           go_wp2_with (first|((with_reducible refine gc_ 54 rfl ?_);refine gm_ (some 104) Try.func54 (spec_l4K_least.calls a0_0 a0_1 t159 _ A54.out) ?_;intro w60 hb;replace BK153:=kb_ BK153 hb;replace HB:=bs_ HB hb;(try clear hb);obtain⟨hcz61_0,hcz61_1⟩:=cs2_ BK153.out;obtain⟨hfz61_0,hfz61_1⟩:=fz2_ BK153.out)|((with_reducible refine gc_ 55 rfl ?_);refine gm_ (some 115) Try.func55 (spec_l4K_inf.calls a0_0 a0_1 a1 t160 _ A58.out) ?_;intro w62 hb;replace BK153:=kb_ BK153 hb;replace HB:=bs_ HB hb;(try clear hb)))
           go_ret
           exact⟨by first|rfl|(simp[errW_none,errW_some]<;>rfl)|(simp only[←hji42,←hji44,←hji49,←hji56];first|rfl|(simp[errW_none,errW_some]<;>rfl))|(simp[*,errW_none,errW_some]<;>rfl),bw HB.out⟩
          rw[if_neg c57] at H
          have c57b0:=decide_eq_false c57
          clear c57
          replace H:=bi_ H
          obtain⟨t161,A630,H⟩:=H
          have A63:=A_ A630
          clear A630
          have c64b0:=eq_true (od_:0≤a0_1)
          obtain⟨ji65,hji65⟩:∃ j_:Int,(shl .u32 ((wrap64 ((wrap64 (x11_44 - t159))+1)) % 4294967296) a0_1)=j_:=⟨_,rfl⟩
          replace H:(some (Go.bits .or .u32 (Go.bits .or .u32 t161 (ji65)) (Go.bits .and .u32 ((x2_44) % 4294967296) (((shl .u32 1 a0_1) - 1) % 4294967296))))=some r:=by first|(rw[hji65] at H;exact H)|(simp only[hji65] at H ⊢;exact H)
          (try rw[hji65] at A54)
          (try rw[hji65] at A63)
          have hji65_:(IntKind.u32.wrap (((wrap64 ((wrap64 (x11_44 - t159))+1)) % 4294967296)*2 ^ min a0_1.toNat 32))=ji65:=hji65
          have hji65z:a0_1≤32→(IntKind.u32.wrap (((wrap64 ((wrap64 (x11_44 - t159))+1)) % 4294967296)*2 ^ a0_1.toNat))=ji65:=shl_small hji65
          have c66b0:=eq_true (od_:0≤a0_1)
          obtain⟨ji67,hji67⟩:∃ j_:Int,(shl .u32 1 a0_1)=j_:=⟨_,rfl⟩
          replace H:(some (Go.bits .or .u32 (Go.bits .or .u32 t161 (ji65)) (Go.bits .and .u32 ((x2_44) % 4294967296) (((ji67) - 1) % 4294967296))))=some r:=by first|(rw[hji67] at H;exact H)|(simp only[hji67] at H ⊢;exact H)
          (try rw[hji67] at A54)
          (try rw[hji67] at A63)
          have hji67_:(IntKind.u32.wrap (1*2 ^ min a0_1.toNat 32))=ji67:=hji67
          have hji67z:a0_1≤32→(IntKind.u32.wrap (1*2 ^ a0_1.toNat))=ji67:=shl_small hji67
          have hji67u:(IntKind.u32.wrap (2 ^ min a0_1.toNat 32))=ji67:=by have h_:=hji67_;rw[Int.one_mul] at h_;exact h_
          have hji67v:a0_1≤32→(IntKind.u32.wrap (2 ^ a0_1.toNat))=ji67:=fun hle_=>by have h_:=hji67z hle_;rw[Int.one_mul] at h_;exact h_
          obtain rfl:=Option.some.inj H
          clear H
          obtain⟨hcz68_0,hcz68_1⟩:=cs2_ BK153.out
          obtain⟨hfz68_0,hfz68_1⟩:=fz2_ BK153.out
          try go_wp2_with (first|((with_reducible refine gc_ 54 rfl ?_);refine gm_ (some 104) Try.func54 (spec_l4K_least.calls a0_0 a0_1 t159 _ A54.out) ?_;intro w69 hb;replace BK153:=kb_ BK153 hb;replace HB:=bs_ HB hb;(try clear hb);obtain⟨hcz70_0,hcz70_1⟩:=cs2_ BK153.out;obtain⟨hfz70_0,hfz70_1⟩:=fz2_ BK153.out))
          have n0_:=A_ (blk_drew BK153.out)
          have n1_:=A_ (below_drew1 HB.out)
          clear BK153 HB
          have BK153:=n0_
          have HB:=n1_
          clear n0_ n1_
          refine start_ (n:=18) (S:=fun w'=>w'.cell? ⟨gb153,0,none⟩=some (.int .u64 a0_0)∧w'.cell? ⟨gb153,1,none⟩=some (.int .u64 a0_1)) (ds:=[]) #[false,false,false,false,false,false,false,false,false,false,false,false,false,false,false,false,false,false] (by kernel_rfl) rfl rfl ⟨(blk_cell BK153.out 0).trans rfl,(blk_cell BK153.out 1).trans rfl⟩ (fun hHeld=>?_);refine with_tabW spec_l4K_round.tab29 spec_l4K_round.bits29 (fun HT_ HW_=>?_)
          generalize w69.drew=w71 at BK153 HB hHeld ⊢
          refine pure_ (i:=1) (N:=some 117) (v:=?_) (a':=?_) #[false,true,false,false,false,false,false,false,false,false,false,false,false,false,false,false,false,false] rfl rfl (any_of HT_.out (by kernel_rfl)) (fun _ _ _ h=>h) (Or.inl ⟨by rfl,?_⟩) ?_ ?_
          rotate_left
          ·
           intro w'
           go_simp
           with_reducible rfl
          rotate_left
          ·
           simp only[Act.put,List.setIfInBounds_toArray,List.set_cons_zero,List.set_cons_succ,i64_w,i32_w]
           rfl
          refine pure_ (i:=3) (N:=some 119) (v:=?_) (a':=?_) #[false,true,false,true,false,false,false,false,false,false,false,false,false,false,false,false,false,false] rfl rfl (any_of HT_.out (by kernel_rfl)) (fun _ _ _ h=>h) (Or.inl ⟨by rfl,?_⟩) ?_ ?_
          rotate_left
          ·
           intro w'
           go_simp
           with_reducible rfl
          rotate_left
          ·
           simp only[Act.put,List.setIfInBounds_toArray,List.set_cons_zero,List.set_cons_succ,i64_w,i32_w]
           rfl
          refine pure_ (i:=4) (N:=some 120) (v:=?_) (a':=?_) #[false,true,false,true,true,false,false,false,false,false,false,false,false,false,false,false,false,false] rfl rfl (any_of HT_.out (by kernel_rfl)) (fun _ _ _ h=>h) (Or.inl ⟨by rfl,?_⟩) ?_ ?_
          rotate_left
          ·
           intro w'
           go_simp
           with_reducible rfl
          rotate_left
          ·
           simp only[Act.put,List.setIfInBounds_toArray,List.set_cons_zero,List.set_cons_succ,i64_w,i32_w]
           rfl
          refine pure_ (i:=5) (N:=some 121) (v:=?_) (a':=?_) #[false,true,false,true,true,true,false,false,false,false,false,false,false,false,false,false,false,false] rfl rfl (any_of HT_.out (by kernel_rfl)) (fun _ _ _ h=>h) (Or.inl ⟨by rfl,?_⟩) ?_ ?_
          rotate_left
          ·
           intro w'
           go_simp
           with_reducible rfl
          rotate_left
          ·
           simp only[Act.put,List.setIfInBounds_toArray,List.set_cons_zero,List.set_cons_succ,i64_w,i32_w]
           rfl
          refine pure_ (i:=9) (N:=some 125) (v:=?_) (a':=?_) #[false,true,false,true,true,true,false,false,false,true,false,false,false,false,false,false,false,false] rfl rfl (any_of HT_.out (by kernel_rfl)) (fun _ _ _ h=>h) (Or.inl ⟨by rfl,?_⟩) ?_ ?_
          rotate_left
          ·
           intro w'
           go_simp
           with_reducible rfl
          rotate_left
          ·
           simp only[Act.put,List.setIfInBounds_toArray,List.set_cons_zero,List.set_cons_succ,i64_w,i32_w]
           rfl
          refine pure_ (i:=10) (N:=some 126) (v:=?_) (a':=?_) #[false,true,false,true,true,true,false,false,false,true,true,false,false,false,false,false,false,false] rfl rfl (any_of HT_.out (by kernel_rfl)) (fun _ _ _ h=>h) (Or.inl ⟨by rfl,?_⟩) ?_ ?_
          rotate_left
          ·
           intro w'
           go_simp
           with_reducible rfl
          rotate_left
          ·
           simp only[Act.put,List.setIfInBounds_toArray,List.set_cons_zero,List.set_cons_succ,i64_w,i32_w]
           rfl
          refine pure_ (i:=11) (N:=some 127) (v:=?_) (a':=?_) #[false,true,false,true,true,true,false,false,false,true,true,true,false,false,false,false,false,false] rfl rfl (any_of HT_.out (by kernel_rfl)) (fun _ _ _ h=>h) (Or.inl ⟨by rfl,?_⟩) ?_ ?_
          rotate_left
          ·
           intro w'
           go_simp
           with_reducible rfl
          rotate_left
          ·
           simp only[Act.put,List.setIfInBounds_toArray,List.set_cons_zero,List.set_cons_succ,i64_w,i32_w]
           rfl
          refine take_ (i:=0) (N:=some 116) (v:=?_) (a':=?_) #[true,true,false,true,true,true,false,false,false,true,true,true,false,false,false,false,false,false] rfl rfl (take_ofW HT_.out HW_.out (by kernel_rfl)) (fun _ _ _ h=>h) (Or.inl ⟨by rfl,?_⟩) hHeld ?_ ?_
          rotate_left
          ·
           rintro w' ⟨s0,s1⟩
           go_simp
           with_reducible rfl
          rotate_left
          ·
           simp only[Act.put,List.setIfInBounds_toArray,List.set_cons_zero,List.set_cons_succ,i64_w,i32_w]
           rfl
          refine take_ (i:=6) (N:=some 122) (v:=?_) (a':=?_) #[true,true,false,true,true,true,true,false,false,true,true,true,false,false,false,false,false,false] rfl rfl (take_ofW HT_.out HW_.out (by kernel_rfl)) (fun _ _ _ h=>h) (Or.inl ⟨by rfl,?_⟩) hHeld ?_ ?_
          rotate_left
          ·
           rintro w' ⟨s0,s1⟩
           go_simp
           with_reducible rfl
          rotate_left
          ·
           simp only[Act.put,List.setIfInBounds_toArray,List.set_cons_zero,List.set_cons_succ,i64_w,i32_w]
           rfl
          refine pure_ (i:=7) (N:=some 123) (v:=?_) (a':=?_) #[true,true,false,true,true,true,true,true,false,true,true,true,false,false,false,false,false,false] rfl rfl (any_of HT_.out (by kernel_rfl)) (fun _ _ _ h=>h) (Or.inl ⟨by rfl,?_⟩) ?_ ?_
          rotate_left
          ·
           intro w'
           go_simp
           with_reducible rfl
          rotate_left
          ·
           simp only[Act.put,List.setIfInBounds_toArray,List.set_cons_zero,List.set_cons_succ,i64_w,i32_w]
           rfl
          refine take_ (i:=12) (N:=some 128) (v:=?_) (a':=?_) #[true,true,false,true,true,true,true,true,false,true,true,true,true,false,false,false,false,false] rfl rfl (take_ofW HT_.out HW_.out (by kernel_rfl)) (fun _ _ _ h=>h) (Or.inl ⟨by rfl,?_⟩) hHeld ?_ ?_
          rotate_left
          ·
           rintro w' ⟨s0,s1⟩
           go_simp
           with_reducible rfl
          rotate_left
          ·
           simp only[Act.put,List.setIfInBounds_toArray,List.set_cons_zero,List.set_cons_succ,i64_w,i32_w]
           rfl
          refine pure_ (i:=13) (N:=some 129) (v:=?_) (a':=?_) #[true,true,false,true,true,true,true,true,false,true,true,true,true,true,false,false,false,false] rfl rfl (any_of HT_.out (by kernel_rfl)) (fun _ _ _ h=>h) (Or.inl ⟨by rfl,?_⟩) ?_ ?_
          rotate_left
          ·
           intro w'
           go_simp
           with_reducible rfl
          rotate_left
          ·
           simp only[Act.put,List.setIfInBounds_toArray,List.set_cons_zero,List.set_cons_succ,i64_w,i32_w]
           rfl
          refine pure_ (i:=14) (N:=some 130) (v:=?_) (a':=?_) #[true,true,false,true,true,true,true,true,false,true,true,true,true,true,true,false,false,false] rfl rfl (any_of HT_.out (by kernel_rfl)) (fun _ _ _ h=>h) (Or.inl ⟨by rfl,?_⟩) ?_ ?_
          rotate_left
          ·
           intro w'
           go_simp
           with_reducible rfl
          rotate_left
          ·
           simp only[Act.put,List.setIfInBounds_toArray,List.set_cons_zero,List.set_cons_succ,i64_w,i32_w]
           rfl
          refine pure_ (i:=15) (N:=some 131) (v:=?_) (a':=?_) #[true,true,false,true,true,true,true,true,false,true,true,true,true,true,true,true,false,false] rfl rfl (any_of HT_.out (by kernel_rfl)) (fun _ _ _ h=>h) (Or.inl ⟨by rfl,?_⟩) ?_ ?_
          rotate_left
          ·
           intro w'
           go_simp
           with_reducible rfl
          rotate_left
          ·
           simp only[Act.put,List.setIfInBounds_toArray,List.set_cons_zero,List.set_cons_succ,i64_w,i32_w]
           rfl
          refine one_ (i:=2) (N:=some 118) #[true,true,true,true,true,true,true,true,false,true,true,true,true,true,true,true,false,false] rfl rfl (one_of HT_.out (by kernel_rfl)) (by decide) (fun K hK=>?_)
          refine goes_ Try.func52 (by kernel_rfl) rfl #[.agg #[.int .u64 a0_0,.int .u64 a0_1],.bool a1] (by rfl) rfl rfl ar ?_
          with_reducible refine(spec_l4K_sign.calls a0_0 a0_1 a1 t161 _ A63.out).mono ?_
          rintro e w72 ⟨rfl,hb⟩
          refine⟨_,rfl,?_⟩
          have n0_:=A_ (blk_below (g:=gb153) (o:=.cells #[.int .u64 a0_0,.int .u64 a0_1] 76 (0,0)) (bk BK153.out) hb)
          have n1_:=A_ (below_step (bw HB.out) hb)
          clear BK153 HB
          have BK153:=n0_
          have HB:=n1_
          clear n0_ n1_
          (try clear hb)
          (try clear hb2)
          (try clear hk)
          (try clear hi)
          refine hK.out _ _ ⟨(blk_cell BK153.out 0).trans rfl,(blk_cell BK153.out 1).trans rfl⟩ (fun hHeld=>?_)
          clear hK K
          refine norm_ (a':=?_) ?_ ?_
          rotate_left
          ·
           show Act.put _ (some 118) _=_
           simp only[Act.put,List.setIfInBounds_toArray,List.set_cons_zero,List.set_cons_succ,i64_w,i32_w]
           rfl
          refine pure_ (i:=8) (N:=some 124) (v:=?_) (a':=?_) #[true,true,true,true,true,true,true,true,true,true,true,true,true,true,true,true,false,false] rfl rfl (any_of HT_.out (by kernel_rfl)) (fun _ _ _ h=>h) (Or.inl ⟨by rfl,?_⟩) ?_ ?_
          rotate_left
          ·
           intro w'
           go_simp
           with_reducible rfl
          rotate_left
          ·
           simp only[Act.put,List.setIfInBounds_toArray,List.set_cons_zero,List.set_cons_succ,i64_w,i32_w]
           rfl
          refine pure_ (i:=16) (N:=some 132) (v:=?_) (a':=?_) #[true,true,true,true,true,true,true,true,true,true,true,true,true,true,true,true,true,false] rfl rfl (any_of HT_.out (by kernel_rfl)) (fun _ _ _ h=>h) (Or.inl ⟨by rfl,?_⟩) ?_ ?_
          rotate_left
          ·
           intro w'
           go_simp
           with_reducible rfl
          rotate_left
          ·
           simp only[Act.put,List.setIfInBounds_toArray,List.set_cons_zero,List.set_cons_succ,i64_w,i32_w]
           rfl
          refine pure_ (i:=17) (N:=some 10) (v:=?_) (a':=?_) #[true,true,true,true,true,true,true,true,true,true,true,true,true,true,true,true,true,true] rfl rfl (any_of HT_.out (by kernel_rfl)) (fun _ _ _ h=>h) (Or.inl ⟨by rfl,?_⟩) ?_ ?_
          rotate_left
          ·
           intro w'
           go_simp
           with_reducible rfl
          rotate_left
          ·
           simp only[Act.put,List.setIfInBounds_toArray,List.set_cons_zero,List.set_cons_succ,i64_w,i32_w]
           rfl
          refine done_ (done_of HT_.out (by kernel_rfl)) ?_
          try go_wp2
          go_ret
          exact⟨by first|rfl|(simp[errW_none,errW_some]<;>rfl)|(simp only[←hji42,←hji44,←hji49,←hji56,←hji65,←hji67];first|rfl|(simp[errW_none,errW_some]<;>rfl))|(simp[*,errW_none,errW_some]<;>rfl),bw HB.out⟩
         rw[if_neg c55] at H
         exact absurd H (by simp)
        rw[if_neg c48] at H
        exact absurd H (by simp)
     rw[if_neg c43] at H
     exact absurd H (by simp)

end Go.Proofs.Ytmajifnehjlncaa.Q

