-- Written by a program of this session; it walks the functions that the law reaches.
import Derived.Test.YtoeenmajdidfoaaDoorQx0
import Derived.Test.YtoeenmajdidfoaaDoorQx1
import Derived.Test.YtoeenmajdidfoaaDoorQx2
namespace Go.Proofs.YtoeenmajdidfoaaDoor.Q
open Go.RowKit Go.Proofs.YtoeenmajdidfoaaDoorW.PrintWords Go.Proofs.YtoeenmajdidfoaaDoorW.PrintLast Go.Proofs.YtoeenmajdidfoaaDoorW.PrintMore
attribute [local go_sem] max2_int min2_int max_two min_two max_three min_three max_four min_four   -- for this text's walks alone
set_option linter.unusedVariables false
set_option linter.unusedSimpArgs false
set_option maxRecDepth 100000
set_option maxHeartbeats 8000000

/-! ### spec_l1Cur_typeNodes: function 18 -/
def spec_l1Cur_typeNodes.f (k:Nat) (s0_0:List Int) (s0_1:Int) (s0_2:Int):Option ((List (S33)) × Int × Int):=(spec_l1Cur_pick.f s0_0 s0_1 s0_2 4).bind fun bt158=>((spec_l1Cur_one.f s0_0 bt158.2.1 bt158.2.2 3).bind fun bt161=>((spec_l1Cur_typeOf.f k s0_0 bt161.2.1 bt161.2.2 bt158.1 bt161.1).bind fun bt164=>((spec_l11Flat.f ([]:List (S33)) bt164.1 bt164.2.1 bt164.2.2.1 (-1)).bind fun t171=>((spec_l1Cur_pick.f s0_0 bt164.2.2.2.1 bt164.2.2.2.2 30).bind fun bt174=>(if bt174.1=0 then ((spec_l1Cur_among.f s0_0 bt174.2.1 bt174.2.2 (([(-1),301,33]:List Int))).bind fun bt180=>(if 0≤(wrap64 ((t171.length:Int) - 1)) then (if (wrap64 ((t171.length:Int) - 1))<(t171.length:Int) then (some ((t171.set ((wrap64 ((t171.length:Int) - 1)):Int).toNat (⟨(rd_T33 t171 (wrap64 ((t171.length:Int) - 1))).f0,bt180.1,(rd_T33 t171 (wrap64 ((t171.length:Int) - 1))).f2⟩:S33)),bt180.2.1,bt180.2.2)) else (none)) else (none))) else (if bt174.1=1 then ((spec_l1Cur_pick.f s0_0 bt174.2.1 bt174.2.2 4).bind fun bt184=>(if 0≤(wrap64 ((t171.length:Int) - 1)) then (if (wrap64 ((t171.length:Int) - 1))<(t171.length:Int) then (some ((t171.set ((wrap64 ((t171.length:Int) - 1)):Int).toNat (⟨(rd_T33 t171 (wrap64 ((t171.length:Int) - 1))).f0,(rd_T33 t171 (wrap64 ((t171.length:Int) - 1))).f1,wrap64 (bt184.1 - 1)⟩:S33)),bt184.2.1,bt184.2.2)) else (none)) else (none))) else (if bt174.1=2 then (if t171.length<5864062014805 then (some ((t171++[(⟨1,0,0⟩:S33)]),bt174.2.1,bt174.2.2)) else (none)) else (some (t171,bt174.2.1,bt174.2.2)))))))))
theorem spec_l1Cur_typeNodes.calls (k:Nat) (g:Nat) (s0_0:List Int) (s0_1:Int) (s0_2:Int) (r1:List (S33)) (r2:Int) (r3:Int) (w0 w:World) (hI:IsS52 w0 w g s0_0 s0_1 s0_2) (hB:Below w0.heap.size w0 w) (h:spec_l1Cur_typeNodes.f k s0_0 s0_1 s0_2=some (r1,r2,r3)):
  Calls Tryd.prog 18 #[.pointer (some ⟨g,0,none⟩)] w fun e w'=>∃ v0_:Value,e=.returned (v0_)∧Kd.R k33 33 w' w.heap.size (fun _=>True) v0_ r1∧IsS52 w0 w' g s0_0 r2 r3∧Below w0.heap.size w0 w'∧KeepBut w w' g none:=by
 have hu33:=Tryd.underlying33
 have HI0:=A_ hI
 have HK:=A_ (KeepBut.refl w g none)
 have HL:=A_ hB.size
 clear hI
 have HW0:=A_ hB.size
 have HB:=A_ hB
 clear hB
 have H:((spec_l1Cur_pick.f s0_0 s0_1 s0_2 4).bind fun bt158=>((spec_l1Cur_one.f s0_0 bt158.2.1 bt158.2.2 3).bind fun bt161=>((spec_l1Cur_typeOf.f k s0_0 bt161.2.1 bt161.2.2 bt158.1 bt161.1).bind fun bt164=>((spec_l11Flat.f ([]:List (S33)) bt164.1 bt164.2.1 bt164.2.2.1 (-1)).bind fun t171=>((spec_l1Cur_pick.f s0_0 bt164.2.2.2.1 bt164.2.2.2.2 30).bind fun bt174=>(if bt174.1=0 then ((spec_l1Cur_among.f s0_0 bt174.2.1 bt174.2.2 (([(-1),301,33]:List Int))).bind fun bt180=>(if 0≤(wrap64 ((t171.length:Int) - 1)) then (if (wrap64 ((t171.length:Int) - 1))<(t171.length:Int) then (some ((t171.set ((wrap64 ((t171.length:Int) - 1)):Int).toNat (⟨(rd_T33 t171 (wrap64 ((t171.length:Int) - 1))).f0,bt180.1,(rd_T33 t171 (wrap64 ((t171.length:Int) - 1))).f2⟩:S33)),bt180.2.1,bt180.2.2)) else (none)) else (none))) else (if bt174.1=1 then ((spec_l1Cur_pick.f s0_0 bt174.2.1 bt174.2.2 4).bind fun bt184=>(if 0≤(wrap64 ((t171.length:Int) - 1)) then (if (wrap64 ((t171.length:Int) - 1))<(t171.length:Int) then (some ((t171.set ((wrap64 ((t171.length:Int) - 1)):Int).toNat (⟨(rd_T33 t171 (wrap64 ((t171.length:Int) - 1))).f0,(rd_T33 t171 (wrap64 ((t171.length:Int) - 1))).f1,wrap64 (bt184.1 - 1)⟩:S33)),bt184.2.1,bt184.2.2)) else (none)) else (none))) else (if bt174.1=2 then (if t171.length<5864062014805 then (some ((t171++[(⟨1,0,0⟩:S33)]),bt174.2.1,bt174.2.2)) else (none)) else (some (t171,bt174.2.1,bt174.2.2))))))))))=some (r1,r2,r3):=h
 clear h
 replace H:=Option.bind_eq_some_iff.mp H
 obtain⟨⟨t158,t159,t160⟩,A20,H⟩:=H
 try dsimp only at H
 have A2:=A_ A20
 clear A20
 replace H:=Option.bind_eq_some_iff.mp H
 obtain⟨⟨t161,t162,t163⟩,A30,H⟩:=H
 try dsimp only at H
 have A3:=A_ A30
 clear A30
 replace H:=Option.bind_eq_some_iff.mp H
 obtain⟨⟨t164,t165,t166,t169,t170⟩,A40,H⟩:=H
 try dsimp only at H
 have A4:=A_ A40
 clear A40
 replace H:=bA_ H
 obtain⟨t171,A5,H⟩:=H
 replace H:=Option.bind_eq_some_iff.mp H
 obtain⟨⟨t174,t175,t176⟩,A60,H⟩:=H
 try dsimp only at H
 have A6:=A_ A60
 clear A60
 revert H
 refine iE_ (fun c7b0 c7b1 H=>?_) (fun c7 c7b0 c7b1 H=>?_)
 ·
  obtain⟨y177,hy177⟩:∃ y_:List Int,y_=(([(-1),301,33]:List Int)):=⟨_,rfl⟩
  rw[←hy177] at H
  have Ny177:=A_ hy177
  clear hy177
  replace H:=Option.bind_eq_some_iff.mp H
  obtain⟨⟨t180,t181,t182⟩,A80,H⟩:=H
  try dsimp only at H
  have A8:=A_ A80
  clear A80
  obtain⟨ji9,hji9⟩:∃ j_:Int,(wrap64 ((t171.length:Int) - 1))=j_:=⟨_,rfl⟩
  first|rw[hji9] at H|simp only[hji9] at H
  (try rw[hji9] at A2)
  (try rw[hji9] at A3)
  (try rw[hji9] at A4)
  (try rw[hji9] at A5)
  (try rw[hji9] at A6)
  (try rw[hji9] at A8)
  have hji9w:(IntKind.i64.wrap ((t171.length:Int) - 1))=ji9:=(i64_w _).trans hji9
  replace H:=id_ H
  obtain⟨c10b0,H⟩:=H
  replace H:=id_ H
  obtain⟨c11b0,H⟩:=H
  obtain⟨y183,hy183⟩:∃ y_:List (S33),y_=(t171.set ((ji9):Int).toNat (⟨(rd_T33 t171 (ji9)).f0,t180,(rd_T33 t171 (ji9)).f2⟩:S33)):=⟨_,rfl⟩
  rw[←hy183] at H
  have Ny183:=A_ hy183
  clear hy183
  simp only[Option.some.injEq,Prod.mk.injEq] at H
  obtain⟨rfl,rfl,rfl⟩:=H
  go_enter Tryd.func18,Tryd.ntmps18
  go_wp2_with (first|((with_reducible refine gc_ 36 rfl ?_);refine goesL_ (some 6) rfl rfl Tryd.func36 (by kernel_rfl) rfl #[.pointer (some ⟨g,0,none⟩),.int .i64 4] rfl ar ?_;(with_reducible refine(spec_l1Cur_pick.calls g s0_0 s0_1 s0_2 4 t158 t159 t160 w0 _ ?side1 ?side2 A2.out).mono ?_);(case side1=>repeat (first|(with_reducible first|exact HI0.out|apply IsS52.alloc|apply IsS52.drewN|apply IsS52.drew|apply IsS52.set_1|apply IsS52.set_2)|exact HI0.out));(case side2=>repeat (first|(with_reducible first|exact HB.out|apply below_alloc|apply pw_below_drewN|apply below_drew1|refine below_set ?_ (IsS52.ge HI0.out))|exact HB.out));rintro e w13 ⟨rfl,hi,hb,hk⟩;refine⟨_,rfl,?_⟩;replace HK:=A_ (KeepBut.trans (y2 HK.out) hk (.inl rfl));replace HB:=A_ (hb);replace HI0:=A_ (hi);(try clear hb);(try clear hb2);(try clear hk);(try clear hi))|((with_reducible refine gc_ 37 rfl ?_);refine goesL_ (some 8) rfl rfl Tryd.func37 (by kernel_rfl) rfl #[.pointer (some ⟨g,0,none⟩),.int .i64 3] rfl ar ?_;(with_reducible refine(spec_l1Cur_one.calls g s0_0 t159 t160 3 t161 t162 t163 w0 _ ?side1 ?side2 A3.out).mono ?_);(case side1=>repeat (first|(with_reducible first|exact HI0.out|apply IsS52.alloc|apply IsS52.drewN|apply IsS52.drew|apply IsS52.set_1|apply IsS52.set_2)|exact HI0.out));(case side2=>repeat (first|(with_reducible first|exact HB.out|apply below_alloc|apply pw_below_drewN|apply below_drew1|refine below_set ?_ (IsS52.ge HI0.out))|exact HB.out));rintro e w14 ⟨rfl,hi,hb,hk⟩;refine⟨_,rfl,?_⟩;replace HK:=A_ (KeepBut.trans (y2 HK.out) hk (.inl rfl));replace HB:=A_ (hb);replace HI0:=A_ (hi);(try clear hb);(try clear hb2);(try clear hk);(try clear hi))|((with_reducible refine gc_ 35 rfl ?_);refine goesL_ (some 9) rfl rfl Tryd.func35 (by kernel_rfl) rfl #[.pointer (some ⟨g,0,none⟩),.int .i64 t158,.bool t161] rfl ar ?_;(with_reducible refine(spec_l1Cur_typeOf.calls k g s0_0 t162 t163 t158 t161 t164 t165 t166 t169 t170 w0 _ ?side1 ?side2 A4.out).mono ?_);(case side1=>repeat (first|(with_reducible first|exact HI0.out|apply IsS52.alloc|apply IsS52.drewN|apply IsS52.drew|apply IsS52.set_1|apply IsS52.set_2)|exact HI0.out));(case side2=>repeat (first|(with_reducible first|exact HB.out|apply below_alloc|apply pw_below_drewN|apply below_drew1|refine below_set ?_ (IsS52.ge HI0.out))|exact HB.out));rintro e w15 ⟨v167,rfl,ho0,hi,hb,hk⟩;refine⟨_,rfl,?_⟩;have HO168:=A_ (Kd.R_lower ho0 (keep_size (w:=w) (g:=g) (row:=none) (y2 HK.out)));replace HK:=A_ (KeepBut.trans (y2 HK.out) hk (.inl rfl));replace HB:=A_ (hb);replace HI0:=A_ (hi);(try clear hb);(try clear hb2);(try clear hk);(try clear hi);(try clear ho0);obtain⟨Ao16,co16,eo16⟩:=Kd.R_slice HO168.out;subst eo16)|((with_reducible refine gc_ 34 rfl ?_);refine goesL_ (some 10) rfl rfl Tryd.func34 (by kernel_rfl) rfl #[.slice none 0 0,.agg #[.int .i64 t164,.int .i64 t165,.slice Ao16 t166.length co16],.int .i64 (-1)] rfl ar ?_;(refine(spec_l11Flat.calls _ _ ([]:List (S33)) t164 t165 _ _ t166 (-1) t171 _ ?side1 ?side2 ?side3 ?side4 A5.out).mono ?_);(case side1=>exact Kd.C_nil _ _);(case side2=>exact Nat.le_refl _);(case side3=>repeat (first|exact(Kd.R_reads' HO168.out).2.2|(with_reducible refine Kd.C_alloc ?_ _)|(with_reducible refine Kd.C_drewN ?_ _)|(with_reducible refine Kd.C_drew ?_)));(case side4=>exact(Kd.R_reads' HO168.out).2.1);rintro e w17 ⟨v172,rfl,ho0,hb⟩;refine⟨_,rfl,?_⟩;have HO173:=A_ (Kd.R_lower ho0 (keep_size (w:=w) (g:=g) (row:=none) (y2 HK.out)));replace HO168:=A_ (Kd.R_below (kr_ HO168.out) hb);replace HI0:=A_ (IsS52.below (y1 HI0.out) hb);replace HK:=A_ (KeepBut.trans (y2 HK.out) (KeepBut.of_below hb g none) (.inl rfl));replace HB:=A_ (below_step (y0 HB.out) hb);(try clear hb);(try clear hb2);(try clear hk);(try clear hi);(try clear ho0))|((with_reducible refine gc_ 36 rfl ?_);refine goesL_ (some 12) rfl rfl Tryd.func36 (by kernel_rfl) rfl #[.pointer (some ⟨g,0,none⟩),.int .i64 30] rfl ar ?_;(with_reducible refine(spec_l1Cur_pick.calls g s0_0 t169 t170 30 t174 t175 t176 w0 _ ?side1 ?side2 A6.out).mono ?_);(case side1=>repeat (first|(with_reducible first|exact HI0.out|apply IsS52.alloc|apply IsS52.drewN|apply IsS52.drew|apply IsS52.set_1|apply IsS52.set_2)|exact HI0.out));(case side2=>repeat (first|(with_reducible first|exact HB.out|apply below_alloc|apply pw_below_drewN|apply below_drew1|refine below_set ?_ (IsS52.ge HI0.out))|exact HB.out));rintro e w18 ⟨rfl,hi,hb,hk⟩;refine⟨_,rfl,?_⟩;replace HO168:=A_ (Kd.R_mono (Kd.R_keep (IsS52.apart (show IsS52 w0 _ g s0_0 t169 t170 from y1 HI0.out) (kr_ HO168.out) (by decide)) hk (fun _ h=>h.2)) (fun _ h=>h.1));replace HO173:=A_ (Kd.R_mono (Kd.R_keep (IsS52.apart (show IsS52 w0 _ g s0_0 t169 t170 from y1 HI0.out) (kr_ HO173.out) (by decide)) hk (fun _ h=>h.2)) (fun _ h=>h.1));replace HK:=A_ (KeepBut.trans (y2 HK.out) hk (.inl rfl));replace HB:=A_ (hb);replace HI0:=A_ (hi);(try clear hb);(try clear hb2);(try clear hk);(try clear hi);obtain⟨Ao19,co19,eo19⟩:=Kd.R_slice HO173.out;subst eo19)|((with_reducible refine gd_ 20 rfl ?_);refine Kd.R_lit (Kd.int .i64) _ 3 ?hg (N:=20) ?hd (xs:=([(-1),301,33]:List Int)) (inner:=[.int .i64 (-1),.int .i64 301,.int .i64 33]) (ok:=fun _=>True) (okp:=fun _=>True) ?hr ?hp (fun _ hk=>hk) trivial (Below.refl _ _) (Nat.le_refl _) (by simp) ?_;(case hd=>rfl);(case hg=>rfl);(case hr=>first|(go_simp;done)|(go_simp;rfl));(case hp=>exact(Reps.one (show Kd.M (Kd.int .i64) _ _ _ (-1) [.int .i64 (-1)] from rfl) (Reps.one (show Kd.M (Kd.int .i64) _ _ _ 301 [.int .i64 301] from rfl) (Reps.one (show Kd.M (Kd.int .i64) _ _ _ 33 [.int .i64 33] from rfl) (Reps.none _ _)))));intro v178 w20 ho21 hb hg_ hnew_;clear hg_ hnew_;(first|rw[←Ny177.out] at ho21|(simp only[Int.reduceToNat] at ho21;rw[←Ny177.out] at ho21));have HO179:=A_ (Kd.R_lower ho21 (keep_size (w:=w) (g:=g) (row:=none) (y2 HK.out)));replace HO168:=A_ (Kd.R_below (kr_ HO168.out) hb);replace HO173:=A_ (Kd.R_below (kr_ HO173.out) hb);replace HI0:=A_ (IsS52.below (y1 HI0.out) hb);replace HK:=A_ (KeepBut.trans (y2 HK.out) (KeepBut.of_below hb g none) (.inl rfl));replace HB:=A_ (below_step (y0 HB.out) hb);clear hb ho21;obtain⟨Ao22,co22,eo22⟩:=Kd.R_slice HO179.out;subst eo22)|((with_reducible refine gc_ 38 rfl ?_);refine goesL_ (some 21) rfl rfl Tryd.func38 (by kernel_rfl) rfl #[.pointer (some ⟨g,0,none⟩),.slice Ao22 y177.length co22] rfl ar ?_;(with_reducible refine(spec_l1Cur_among.calls g s0_0 t175 t176 _ _ y177 t180 t181 t182 w0 _ ?side1 ?side2 ?side3 ?side4 ?side5 A8.out).mono ?_);(case side1=>repeat (first|(with_reducible first|exact HI0.out|apply IsS52.alloc|apply IsS52.drewN|apply IsS52.drew|apply IsS52.set_1|apply IsS52.set_2)|exact HI0.out));(case side2=>repeat (first|(with_reducible first|exact HB.out|apply below_alloc|apply pw_below_drewN|apply below_drew1|refine below_set ?_ (IsS52.ge HI0.out))|exact HB.out));(case side3=>repeat (first|exact(Kd.R_reads' HO179.out).2.2|(with_reducible refine Kd.C_alloc ?_ _)|(with_reducible refine Kd.C_drewN ?_ _)|(with_reducible refine Kd.C_drew ?_)));(case side4=>exact(Kd.R_reads' HO179.out).2.1);(case side5=>exact far_slice (IsS52.own_ne HI0.out HO179.out (by decide)));rintro e w23 ⟨rfl,hi,hb,hk⟩;refine⟨_,rfl,?_⟩;replace HO168:=A_ (Kd.R_mono (Kd.R_keep (IsS52.apart (show IsS52 w0 _ g s0_0 t175 t176 from y1 HI0.out) (kr_ HO168.out) (by decide)) hk (fun _ h=>h.2)) (fun _ h=>h.1));replace HO173:=A_ (Kd.R_mono (Kd.R_keep (IsS52.apart (show IsS52 w0 _ g s0_0 t175 t176 from y1 HI0.out) (kr_ HO173.out) (by decide)) hk (fun _ h=>h.2)) (fun _ h=>h.1));replace HO179:=A_ (Kd.R_mono (Kd.R_keep (IsS52.apart (show IsS52 w0 _ g s0_0 t175 t176 from y1 HI0.out) (kr_ HO179.out) (by decide)) hk (fun _ h=>h.2)) (fun _ h=>h.1));replace HK:=A_ (KeepBut.trans (y2 HK.out) hk (.inl rfl));replace HB:=A_ (hb);replace HI0:=A_ (hi);(try clear hb);(try clear hb2);(try clear hk);(try clear hi);have p12:0≤((ji9):Int):=od_;have q12:((ji9):Int)<((t171.length:Int):Int):=od_;obtain⟨go12,co12,eo12,gb12,gl12,cl12,HG12⟩:=Kd.R_form HO173.out (by omega);(first|cases eo12|(injection eo12 with ea_ en_ ec_;(first|subst ea_|(injection ea_ with ea_;subst ea_));subst ec_;clear en_));have GB12:=A_ gb12;have GG12:=A_ HG12;clear gb12 gl12 HG12;obtain⟨ce12,hcl12,hM12,hcc12,hfr12⟩:=Kd.R_elem HO173.out z33 ((ji9):Int) p12 q12;obtain rfl:=k33_openM hM12;have hx12_0:w23.cell? ⟨go12,((ji9):Int).toNat*3,none⟩=some (.int .i64 ((rd_T33 t171 (ji9)).f0)):=hcc12 0 _ rfl;have hx12_1:w23.cell? ⟨go12,((ji9):Int).toNat*3+1,none⟩=some (.int .i64 ((rd_T33 t171 (ji9)).f1)):=hcc12 1 _ rfl;have hx12_2:w23.cell? ⟨go12,((ji9):Int).toNat*3+2,none⟩=some (.int .i64 ((rd_T33 t171 (ji9)).f2)):=hcc12 2 _ rfl;have hf12_0:w23.frozen? ⟨go12,((ji9):Int).toNat*3,none⟩=false:=hfr12 0;have hf12_1:w23.frozen? ⟨go12,((ji9):Int).toNat*3+1,none⟩=false:=hfr12 1;have hf12_2:w23.frozen? ⟨go12,((ji9):Int).toNat*3+2,none⟩=false:=hfr12 2;clear hcl12 hcc12 hfr12 hM12;replace p12:=eq_true p12;replace q12:=eq_true q12;have HX24:=A_ (show Kd.R k33 33 w23 w.heap.size (fun _=>True) (.slice (some ⟨go12,0,none⟩) t171.length co19) t171 from(kr_ HO173.out));obtain⟨ce24,hcl24,hM24,hcc24,hfr24⟩:=Kd.R_elem HX24.out z33 ((ji9):Int) (od_) (by have h_:((ji9):Int)<((t171.length:Int):Int):=od_;first|exact h_|(have e_:=(Kd.R_reads' HO173.out).1;omega)|simpa using h_);obtain rfl:=k33_openM hM24;have HP24:=Kd.R_seg HX24.out ((ji9):Int) (od_) (by have h_:((ji9):Int)<((t171.length:Int):Int):=od_;first|exact h_|(have e_:=(Kd.R_reads' HO173.out).1;omega)|simpa using h_) (seg:=[.int .i64 t180]) (j:=1) hcl24 hcc24 (show 2≤3 from by decide) (x':=(⟨(rd_T33 t171 (ji9)).f0,t180,(rd_T33 t171 (ji9)).f2⟩:S33)) (k33_mkM _ _ _ (⟨(rd_T33 t171 (ji9)).f0,t180,(rd_T33 t171 (ji9)).f2⟩:S33)) (fun _ hk=>hk);have hx24_1:=hcc24 1 _ rfl;(try simp only[show (k33).sz=3 from rfl,Nat.mul_one,Nat.add_zero] at hx24_1);have hf24_1:=hfr24 1;(try simp only[show (k33).sz=3 from rfl,Nat.mul_one,Nat.add_zero] at hf24_1);clear hcl24 hcc24 hfr24 hM24)|((with_reducible refine gate_store (t:=3) (p:=23) rfl ?_);refine store_event (t:=3) (p:=23) (v:=?vo_w25) (w1:=(w23.setCell ⟨go12,((ji9):Int).toNat*3+1,none⟩ (.int .i64 t180))) ?hg ?ho ?hn ?hr ?_;(case ho=>rfl);(case hg=>rfl);(case hn=>rfl);(case hr=>first|(go_simp;done)|(go_simp;rfl));intro w25 hw;have hg:w23.grownBy w25 (some go12):=(by rw[hw];exact HP24.2);have hp_:Kd.R k33 33 w25 w.heap.size (fun _=>True) (.slice (some ⟨go12,0,none⟩) t171.length co19) y183:=(by rw[hw,Ny183.out];exact HP24.1);clear HP24;replace HI0:=A_ (IsS52.grown (y1 HI0.out) hg (IsS52.own_ne HI0.out HO173.out (by decide)));replace HO168:=A_ (Kd.R_over' (v:=(.slice (some ⟨go12,0,none⟩) t171.length co19)) (kr_ HO168.out) (Kd.R_typed HO173.out) (by decide) hg);replace HO179:=A_ (Kd.R_over' (v:=(.slice (some ⟨go12,0,none⟩) t171.length co19)) (kr_ HO179.out) (Kd.R_typed HO173.out) (by decide) hg);replace HB:=A_ ((by rw[hw];exact below_set (HB.out) (Nat.le_trans HL.out GB12.out):Below w0.heap.size w0 w25));replace HK:=A_ (KeepBut.trans (y2 HK.out) (KeepBut.of_grown hg g) (Kd.R_base2 HO173.out));replace HO173:=A_ (hp_);clear hg hw hp_))
  go_ret
  exact⟨_,by first|rfl|(simp[errW_none,errW_some]<;>rfl)|(simp only[←hji9];first|rfl|(simp[errW_none,errW_some]<;>rfl))|(simp[*,errW_none,errW_some]<;>rfl),kr_ HO173.out,y1 HI0.out,y0 HB.out,y2 HK.out⟩
 revert H
 refine iE_ (fun c26b0 c26b1 H=>?_) (fun c26 c26b0 c26b1 H=>?_)
 ·
  replace H:=Option.bind_eq_some_iff.mp H
  obtain⟨⟨t184,t185,t186⟩,A270,H⟩:=H
  try dsimp only at H
  have A27:=A_ A270
  clear A270
  obtain⟨ji28,hji28⟩:∃ j_:Int,(wrap64 ((t171.length:Int) - 1))=j_:=⟨_,rfl⟩
  first|rw[hji28] at H|simp only[hji28] at H
  (try rw[hji28] at A2)
  (try rw[hji28] at A3)
  (try rw[hji28] at A4)
  (try rw[hji28] at A5)
  (try rw[hji28] at A6)
  (try rw[hji28] at A27)
  have hji28w:(IntKind.i64.wrap ((t171.length:Int) - 1))=ji28:=(i64_w _).trans hji28
  replace H:=id_ H
  obtain⟨c29b0,H⟩:=H
  replace H:=id_ H
  obtain⟨c30b0,H⟩:=H
  obtain⟨y187,hy187⟩:∃ y_:List (S33),y_=(t171.set ((ji28):Int).toNat (⟨(rd_T33 t171 (ji28)).f0,(rd_T33 t171 (ji28)).f1,wrap64 (t184 - 1)⟩:S33)):=⟨_,rfl⟩
  rw[←hy187] at H
  have Ny187:=A_ hy187
  clear hy187
  simp only[Option.some.injEq,Prod.mk.injEq] at H
  obtain⟨rfl,rfl,rfl⟩:=H
  go_enter Tryd.func18,Tryd.ntmps18
  go_wp2_with (first|((with_reducible refine gc_ 36 rfl ?_);refine goesL_ (some 6) rfl rfl Tryd.func36 (by kernel_rfl) rfl #[.pointer (some ⟨g,0,none⟩),.int .i64 4] rfl ar ?_;(with_reducible refine(spec_l1Cur_pick.calls g s0_0 s0_1 s0_2 4 t158 t159 t160 w0 _ ?side1 ?side2 A2.out).mono ?_);(case side1=>repeat (first|(with_reducible first|exact HI0.out|apply IsS52.alloc|apply IsS52.drewN|apply IsS52.drew|apply IsS52.set_1|apply IsS52.set_2)|exact HI0.out));(case side2=>repeat (first|(with_reducible first|exact HB.out|apply below_alloc|apply pw_below_drewN|apply below_drew1|refine below_set ?_ (IsS52.ge HI0.out))|exact HB.out));rintro e w32 ⟨rfl,hi,hb,hk⟩;refine⟨_,rfl,?_⟩;replace HK:=A_ (KeepBut.trans (y2 HK.out) hk (.inl rfl));replace HB:=A_ (hb);replace HI0:=A_ (hi);(try clear hb);(try clear hb2);(try clear hk);(try clear hi))|((with_reducible refine gc_ 37 rfl ?_);refine goesL_ (some 8) rfl rfl Tryd.func37 (by kernel_rfl) rfl #[.pointer (some ⟨g,0,none⟩),.int .i64 3] rfl ar ?_;(with_reducible refine(spec_l1Cur_one.calls g s0_0 t159 t160 3 t161 t162 t163 w0 _ ?side1 ?side2 A3.out).mono ?_);(case side1=>repeat (first|(with_reducible first|exact HI0.out|apply IsS52.alloc|apply IsS52.drewN|apply IsS52.drew|apply IsS52.set_1|apply IsS52.set_2)|exact HI0.out));(case side2=>repeat (first|(with_reducible first|exact HB.out|apply below_alloc|apply pw_below_drewN|apply below_drew1|refine below_set ?_ (IsS52.ge HI0.out))|exact HB.out));rintro e w33 ⟨rfl,hi,hb,hk⟩;refine⟨_,rfl,?_⟩;replace HK:=A_ (KeepBut.trans (y2 HK.out) hk (.inl rfl));replace HB:=A_ (hb);replace HI0:=A_ (hi);(try clear hb);(try clear hb2);(try clear hk);(try clear hi))|((with_reducible refine gc_ 35 rfl ?_);refine goesL_ (some 9) rfl rfl Tryd.func35 (by kernel_rfl) rfl #[.pointer (some ⟨g,0,none⟩),.int .i64 t158,.bool t161] rfl ar ?_;(with_reducible refine(spec_l1Cur_typeOf.calls k g s0_0 t162 t163 t158 t161 t164 t165 t166 t169 t170 w0 _ ?side1 ?side2 A4.out).mono ?_);(case side1=>repeat (first|(with_reducible first|exact HI0.out|apply IsS52.alloc|apply IsS52.drewN|apply IsS52.drew|apply IsS52.set_1|apply IsS52.set_2)|exact HI0.out));(case side2=>repeat (first|(with_reducible first|exact HB.out|apply below_alloc|apply pw_below_drewN|apply below_drew1|refine below_set ?_ (IsS52.ge HI0.out))|exact HB.out));rintro e w34 ⟨v167,rfl,ho0,hi,hb,hk⟩;refine⟨_,rfl,?_⟩;have HO168:=A_ (Kd.R_lower ho0 (keep_size (w:=w) (g:=g) (row:=none) (y2 HK.out)));replace HK:=A_ (KeepBut.trans (y2 HK.out) hk (.inl rfl));replace HB:=A_ (hb);replace HI0:=A_ (hi);(try clear hb);(try clear hb2);(try clear hk);(try clear hi);(try clear ho0);obtain⟨Ao35,co35,eo35⟩:=Kd.R_slice HO168.out;subst eo35)|((with_reducible refine gc_ 34 rfl ?_);refine goesL_ (some 10) rfl rfl Tryd.func34 (by kernel_rfl) rfl #[.slice none 0 0,.agg #[.int .i64 t164,.int .i64 t165,.slice Ao35 t166.length co35],.int .i64 (-1)] rfl ar ?_;(refine(spec_l11Flat.calls _ _ ([]:List (S33)) t164 t165 _ _ t166 (-1) t171 _ ?side1 ?side2 ?side3 ?side4 A5.out).mono ?_);(case side1=>exact Kd.C_nil _ _);(case side2=>exact Nat.le_refl _);(case side3=>repeat (first|exact(Kd.R_reads' HO168.out).2.2|(with_reducible refine Kd.C_alloc ?_ _)|(with_reducible refine Kd.C_drewN ?_ _)|(with_reducible refine Kd.C_drew ?_)));(case side4=>exact(Kd.R_reads' HO168.out).2.1);rintro e w36 ⟨v172,rfl,ho0,hb⟩;refine⟨_,rfl,?_⟩;have HO173:=A_ (Kd.R_lower ho0 (keep_size (w:=w) (g:=g) (row:=none) (y2 HK.out)));replace HO168:=A_ (Kd.R_below (kr_ HO168.out) hb);replace HI0:=A_ (IsS52.below (y1 HI0.out) hb);replace HK:=A_ (KeepBut.trans (y2 HK.out) (KeepBut.of_below hb g none) (.inl rfl));replace HB:=A_ (below_step (y0 HB.out) hb);(try clear hb);(try clear hb2);(try clear hk);(try clear hi);(try clear ho0))|((with_reducible refine gc_ 36 rfl ?_);refine goesL_ (some 12) rfl rfl Tryd.func36 (by kernel_rfl) rfl #[.pointer (some ⟨g,0,none⟩),.int .i64 30] rfl ar ?_;(with_reducible refine(spec_l1Cur_pick.calls g s0_0 t169 t170 30 t174 t175 t176 w0 _ ?side1 ?side2 A6.out).mono ?_);(case side1=>repeat (first|(with_reducible first|exact HI0.out|apply IsS52.alloc|apply IsS52.drewN|apply IsS52.drew|apply IsS52.set_1|apply IsS52.set_2)|exact HI0.out));(case side2=>repeat (first|(with_reducible first|exact HB.out|apply below_alloc|apply pw_below_drewN|apply below_drew1|refine below_set ?_ (IsS52.ge HI0.out))|exact HB.out));rintro e w37 ⟨rfl,hi,hb,hk⟩;refine⟨_,rfl,?_⟩;replace HO168:=A_ (Kd.R_mono (Kd.R_keep (IsS52.apart (show IsS52 w0 _ g s0_0 t169 t170 from y1 HI0.out) (kr_ HO168.out) (by decide)) hk (fun _ h=>h.2)) (fun _ h=>h.1));replace HO173:=A_ (Kd.R_mono (Kd.R_keep (IsS52.apart (show IsS52 w0 _ g s0_0 t169 t170 from y1 HI0.out) (kr_ HO173.out) (by decide)) hk (fun _ h=>h.2)) (fun _ h=>h.1));replace HK:=A_ (KeepBut.trans (y2 HK.out) hk (.inl rfl));replace HB:=A_ (hb);replace HI0:=A_ (hi);(try clear hb);(try clear hb2);(try clear hk);(try clear hi);obtain⟨Ao38,co38,eo38⟩:=Kd.R_slice HO173.out;subst eo38)|((with_reducible refine gc_ 36 rfl ?_);refine goesL_ (some 31) rfl rfl Tryd.func36 (by kernel_rfl) rfl #[.pointer (some ⟨g,0,none⟩),.int .i64 4] rfl ar ?_;(with_reducible refine(spec_l1Cur_pick.calls g s0_0 t175 t176 4 t184 t185 t186 w0 _ ?side1 ?side2 A27.out).mono ?_);(case side1=>repeat (first|(with_reducible first|exact HI0.out|apply IsS52.alloc|apply IsS52.drewN|apply IsS52.drew|apply IsS52.set_1|apply IsS52.set_2)|exact HI0.out));(case side2=>repeat (first|(with_reducible first|exact HB.out|apply below_alloc|apply pw_below_drewN|apply below_drew1|refine below_set ?_ (IsS52.ge HI0.out))|exact HB.out));rintro e w39 ⟨rfl,hi,hb,hk⟩;refine⟨_,rfl,?_⟩;replace HO168:=A_ (Kd.R_mono (Kd.R_keep (IsS52.apart (show IsS52 w0 _ g s0_0 t175 t176 from y1 HI0.out) (kr_ HO168.out) (by decide)) hk (fun _ h=>h.2)) (fun _ h=>h.1));replace HO173:=A_ (Kd.R_mono (Kd.R_keep (IsS52.apart (show IsS52 w0 _ g s0_0 t175 t176 from y1 HI0.out) (kr_ HO173.out) (by decide)) hk (fun _ h=>h.2)) (fun _ h=>h.1));replace HK:=A_ (KeepBut.trans (y2 HK.out) hk (.inl rfl));replace HB:=A_ (hb);replace HI0:=A_ (hi);(try clear hb);(try clear hb2);(try clear hk);(try clear hi);have p31:0≤((ji28):Int):=od_;have q31:((ji28):Int)<((t171.length:Int):Int):=od_;obtain⟨go31,co31,eo31,gb31,gl31,cl31,HG31⟩:=Kd.R_form HO173.out (by omega);(first|cases eo31|(injection eo31 with ea_ en_ ec_;(first|subst ea_|(injection ea_ with ea_;subst ea_));subst ec_;clear en_));have GB31:=A_ gb31;have GG31:=A_ HG31;clear gb31 gl31 HG31;obtain⟨ce31,hcl31,hM31,hcc31,hfr31⟩:=Kd.R_elem HO173.out z33 ((ji28):Int) p31 q31;obtain rfl:=k33_openM hM31;have hx31_0:w39.cell? ⟨go31,((ji28):Int).toNat*3,none⟩=some (.int .i64 ((rd_T33 t171 (ji28)).f0)):=hcc31 0 _ rfl;have hx31_1:w39.cell? ⟨go31,((ji28):Int).toNat*3+1,none⟩=some (.int .i64 ((rd_T33 t171 (ji28)).f1)):=hcc31 1 _ rfl;have hx31_2:w39.cell? ⟨go31,((ji28):Int).toNat*3+2,none⟩=some (.int .i64 ((rd_T33 t171 (ji28)).f2)):=hcc31 2 _ rfl;have hf31_0:w39.frozen? ⟨go31,((ji28):Int).toNat*3,none⟩=false:=hfr31 0;have hf31_1:w39.frozen? ⟨go31,((ji28):Int).toNat*3+1,none⟩=false:=hfr31 1;have hf31_2:w39.frozen? ⟨go31,((ji28):Int).toNat*3+2,none⟩=false:=hfr31 2;clear hcl31 hcc31 hfr31 hM31;replace p31:=eq_true p31;replace q31:=eq_true q31;have HX40:=A_ (show Kd.R k33 33 w39 w.heap.size (fun _=>True) (.slice (some ⟨go31,0,none⟩) t171.length co38) t171 from(kr_ HO173.out));obtain⟨ce40,hcl40,hM40,hcc40,hfr40⟩:=Kd.R_elem HX40.out z33 ((ji28):Int) (od_) (by have h_:((ji28):Int)<((t171.length:Int):Int):=od_;first|exact h_|(have e_:=(Kd.R_reads' HO173.out).1;omega)|simpa using h_);obtain rfl:=k33_openM hM40;have HP40:=Kd.R_seg HX40.out ((ji28):Int) (od_) (by have h_:((ji28):Int)<((t171.length:Int):Int):=od_;first|exact h_|(have e_:=(Kd.R_reads' HO173.out).1;omega)|simpa using h_) (seg:=[.int .i64 (wrap64 (t184 - 1))]) (j:=2) hcl40 hcc40 (show 3≤3 from by decide) (x':=(⟨(rd_T33 t171 (ji28)).f0,(rd_T33 t171 (ji28)).f1,wrap64 (t184 - 1)⟩:S33)) (k33_mkM _ _ _ (⟨(rd_T33 t171 (ji28)).f0,(rd_T33 t171 (ji28)).f1,wrap64 (t184 - 1)⟩:S33)) (fun _ hk=>hk);have hx40_2:=hcc40 2 _ rfl;(try simp only[show (k33).sz=3 from rfl,Nat.mul_one,Nat.add_zero] at hx40_2);have hf40_2:=hfr40 2;(try simp only[show (k33).sz=3 from rfl,Nat.mul_one,Nat.add_zero] at hf40_2);clear hcl40 hcc40 hfr40 hM40)|((with_reducible refine gate_store (t:=3) (p:=34) rfl ?_);refine store_event (t:=3) (p:=34) (v:=?vo_w41) (w1:=(w39.setCell ⟨go31,((ji28):Int).toNat*3+2,none⟩ (.int .i64 (wrap64 (t184 - 1))))) ?hg ?ho ?hn ?hr ?_;(case ho=>rfl);(case hg=>rfl);(case hn=>rfl);(case hr=>first|(go_simp;done)|(go_simp;rfl));intro w41 hw;have hg:w39.grownBy w41 (some go31):=(by rw[hw];exact HP40.2);have hp_:Kd.R k33 33 w41 w.heap.size (fun _=>True) (.slice (some ⟨go31,0,none⟩) t171.length co38) y187:=(by rw[hw,Ny187.out];exact HP40.1);clear HP40;replace HI0:=A_ (IsS52.grown (y1 HI0.out) hg (IsS52.own_ne HI0.out HO173.out (by decide)));replace HO168:=A_ (Kd.R_over' (v:=(.slice (some ⟨go31,0,none⟩) t171.length co38)) (kr_ HO168.out) (Kd.R_typed HO173.out) (by decide) hg);replace HB:=A_ ((by rw[hw];exact below_set (HB.out) (Nat.le_trans HL.out GB31.out):Below w0.heap.size w0 w41));replace HK:=A_ (KeepBut.trans (y2 HK.out) (KeepBut.of_grown hg g) (Kd.R_base2 HO173.out));replace HO173:=A_ (hp_);clear hg hw hp_))
  go_ret
  exact⟨_,by first|rfl|(simp[errW_none,errW_some]<;>rfl)|(simp only[←hji28];first|rfl|(simp[errW_none,errW_some]<;>rfl))|(simp[*,errW_none,errW_some]<;>rfl),kr_ HO173.out,y1 HI0.out,y0 HB.out,y2 HK.out⟩
 revert H
 refine iE_ (fun c42b0 c42b1 H=>?_) (fun c42 c42b0 c42b1 H=>?_)
 ·
  replace H:=im_ H
  obtain⟨LMc43,H⟩:=H
  obtain⟨y188,hy188⟩:∃ y_:List (S33),y_=(t171++[(⟨1,0,0⟩:S33)]):=⟨_,rfl⟩
  rw[←hy188] at H
  have Ny188:=A_ hy188
  clear hy188
  simp only[Option.some.injEq,Prod.mk.injEq] at H
  obtain⟨rfl,rfl,rfl⟩:=H
  go_enter Tryd.func18,Tryd.ntmps18
  go_wp2_with (first|((with_reducible refine gc_ 36 rfl ?_);refine goesL_ (some 6) rfl rfl Tryd.func36 (by kernel_rfl) rfl #[.pointer (some ⟨g,0,none⟩),.int .i64 4] rfl ar ?_;(with_reducible refine(spec_l1Cur_pick.calls g s0_0 s0_1 s0_2 4 t158 t159 t160 w0 _ ?side1 ?side2 A2.out).mono ?_);(case side1=>repeat (first|(with_reducible first|exact HI0.out|apply IsS52.alloc|apply IsS52.drewN|apply IsS52.drew|apply IsS52.set_1|apply IsS52.set_2)|exact HI0.out));(case side2=>repeat (first|(with_reducible first|exact HB.out|apply below_alloc|apply pw_below_drewN|apply below_drew1|refine below_set ?_ (IsS52.ge HI0.out))|exact HB.out));rintro e w44 ⟨rfl,hi,hb,hk⟩;refine⟨_,rfl,?_⟩;replace HK:=A_ (KeepBut.trans (y2 HK.out) hk (.inl rfl));replace HB:=A_ (hb);replace HI0:=A_ (hi);(try clear hb);(try clear hb2);(try clear hk);(try clear hi))|((with_reducible refine gc_ 37 rfl ?_);refine goesL_ (some 8) rfl rfl Tryd.func37 (by kernel_rfl) rfl #[.pointer (some ⟨g,0,none⟩),.int .i64 3] rfl ar ?_;(with_reducible refine(spec_l1Cur_one.calls g s0_0 t159 t160 3 t161 t162 t163 w0 _ ?side1 ?side2 A3.out).mono ?_);(case side1=>repeat (first|(with_reducible first|exact HI0.out|apply IsS52.alloc|apply IsS52.drewN|apply IsS52.drew|apply IsS52.set_1|apply IsS52.set_2)|exact HI0.out));(case side2=>repeat (first|(with_reducible first|exact HB.out|apply below_alloc|apply pw_below_drewN|apply below_drew1|refine below_set ?_ (IsS52.ge HI0.out))|exact HB.out));rintro e w45 ⟨rfl,hi,hb,hk⟩;refine⟨_,rfl,?_⟩;replace HK:=A_ (KeepBut.trans (y2 HK.out) hk (.inl rfl));replace HB:=A_ (hb);replace HI0:=A_ (hi);(try clear hb);(try clear hb2);(try clear hk);(try clear hi))|((with_reducible refine gc_ 35 rfl ?_);refine goesL_ (some 9) rfl rfl Tryd.func35 (by kernel_rfl) rfl #[.pointer (some ⟨g,0,none⟩),.int .i64 t158,.bool t161] rfl ar ?_;(with_reducible refine(spec_l1Cur_typeOf.calls k g s0_0 t162 t163 t158 t161 t164 t165 t166 t169 t170 w0 _ ?side1 ?side2 A4.out).mono ?_);(case side1=>repeat (first|(with_reducible first|exact HI0.out|apply IsS52.alloc|apply IsS52.drewN|apply IsS52.drew|apply IsS52.set_1|apply IsS52.set_2)|exact HI0.out));(case side2=>repeat (first|(with_reducible first|exact HB.out|apply below_alloc|apply pw_below_drewN|apply below_drew1|refine below_set ?_ (IsS52.ge HI0.out))|exact HB.out));rintro e w46 ⟨v167,rfl,ho0,hi,hb,hk⟩;refine⟨_,rfl,?_⟩;have HO168:=A_ (Kd.R_lower ho0 (keep_size (w:=w) (g:=g) (row:=none) (y2 HK.out)));replace HK:=A_ (KeepBut.trans (y2 HK.out) hk (.inl rfl));replace HB:=A_ (hb);replace HI0:=A_ (hi);(try clear hb);(try clear hb2);(try clear hk);(try clear hi);(try clear ho0);obtain⟨Ao47,co47,eo47⟩:=Kd.R_slice HO168.out;subst eo47)|((with_reducible refine gc_ 34 rfl ?_);refine goesL_ (some 10) rfl rfl Tryd.func34 (by kernel_rfl) rfl #[.slice none 0 0,.agg #[.int .i64 t164,.int .i64 t165,.slice Ao47 t166.length co47],.int .i64 (-1)] rfl ar ?_;(refine(spec_l11Flat.calls _ _ ([]:List (S33)) t164 t165 _ _ t166 (-1) t171 _ ?side1 ?side2 ?side3 ?side4 A5.out).mono ?_);(case side1=>exact Kd.C_nil _ _);(case side2=>exact Nat.le_refl _);(case side3=>repeat (first|exact(Kd.R_reads' HO168.out).2.2|(with_reducible refine Kd.C_alloc ?_ _)|(with_reducible refine Kd.C_drewN ?_ _)|(with_reducible refine Kd.C_drew ?_)));(case side4=>exact(Kd.R_reads' HO168.out).2.1);rintro e w48 ⟨v172,rfl,ho0,hb⟩;refine⟨_,rfl,?_⟩;have HO173:=A_ (Kd.R_lower ho0 (keep_size (w:=w) (g:=g) (row:=none) (y2 HK.out)));replace HO168:=A_ (Kd.R_below (kr_ HO168.out) hb);replace HI0:=A_ (IsS52.below (y1 HI0.out) hb);replace HK:=A_ (KeepBut.trans (y2 HK.out) (KeepBut.of_below hb g none) (.inl rfl));replace HB:=A_ (below_step (y0 HB.out) hb);(try clear hb);(try clear hb2);(try clear hk);(try clear hi);(try clear ho0))|((with_reducible refine gc_ 36 rfl ?_);refine goesL_ (some 12) rfl rfl Tryd.func36 (by kernel_rfl) rfl #[.pointer (some ⟨g,0,none⟩),.int .i64 30] rfl ar ?_;(with_reducible refine(spec_l1Cur_pick.calls g s0_0 t169 t170 30 t174 t175 t176 w0 _ ?side1 ?side2 A6.out).mono ?_);(case side1=>repeat (first|(with_reducible first|exact HI0.out|apply IsS52.alloc|apply IsS52.drewN|apply IsS52.drew|apply IsS52.set_1|apply IsS52.set_2)|exact HI0.out));(case side2=>repeat (first|(with_reducible first|exact HB.out|apply below_alloc|apply pw_below_drewN|apply below_drew1|refine below_set ?_ (IsS52.ge HI0.out))|exact HB.out));rintro e w49 ⟨rfl,hi,hb,hk⟩;refine⟨_,rfl,?_⟩;replace HO168:=A_ (Kd.R_mono (Kd.R_keep (IsS52.apart (show IsS52 w0 _ g s0_0 t169 t170 from y1 HI0.out) (kr_ HO168.out) (by decide)) hk (fun _ h=>h.2)) (fun _ h=>h.1));replace HO173:=A_ (Kd.R_mono (Kd.R_keep (IsS52.apart (show IsS52 w0 _ g s0_0 t169 t170 from y1 HI0.out) (kr_ HO173.out) (by decide)) hk (fun _ h=>h.2)) (fun _ h=>h.1));replace HK:=A_ (KeepBut.trans (y2 HK.out) hk (.inl rfl));replace HB:=A_ (hb);replace HI0:=A_ (hi);(try clear hb);(try clear hb2);(try clear hk);(try clear hi))|((with_reducible refine gate_builtin (b:=.append) (xs:=#[.tmp 37,.tmp 39]) rfl ?_);at_builtin;refine Kd.R_append k33 w.heap.size rfl (.tmp 37) (.tmp 39) 23 33 (.agg #[(.int .i64 0),(.int .i64 0),(.int .i64 0)]) 24 rfl Tryd.underlying23 info33 rfl (by decide) (by omega) v172 t171 (⟨1,0,0⟩:S33) [.int .i64 1,.int .i64 0,.int .i64 0] (fun _=>True) (fun _=>False) rfl rfl ?aP (fun _ hk=>hk.elim) ?aF ?aO (Below.refl _ _) ?aS ?aL ?_;(case aP=>exact k33_mkM _ _ _ (⟨1,0,0⟩:S33));(case aF=>exact(fun _ _=>trivial));(case aO=>exact(kr_ HO173.out));(case aS=>exact(keep_size (w:=w) (g:=g) (row:=none) (y2 HK.out)));(case aL=>have:=LMc43.out;omega);intro v189 w50 ho hb hg hat;rw[←Ny188.out] at ho;have HO190:=A_ (ho);replace HI0:=A_ (IsS52.grown (y1 HI0.out) hg (IsS52.own_ne HI0.out HO173.out (by decide)));replace HO168:=A_ (Kd.R_over' (kr_ HO168.out) (Kd.R_typed (kr_ HO173.out)) (by decide) hg);replace HB:=A_ (below_weaken (y0 HB.out) HL.out hb);replace HK:=A_ (KeepBut.trans (y2 HK.out) (KeepBut.of_grown hg g) (Kd.R_base2 HO173.out));clear HO173;clear ho hb hg hat))
  go_ret
  exact⟨_,rr_,kr_ HO190.out,y1 HI0.out,y0 HB.out,y2 HK.out⟩
 simp only[Option.some.injEq,Prod.mk.injEq] at H
 obtain⟨rfl,rfl,rfl⟩:=H
 go_enter Tryd.func18,Tryd.ntmps18
 go_wp2_with (first|((with_reducible refine gc_ 36 rfl ?_);refine goesL_ (some 6) rfl rfl Tryd.func36 (by kernel_rfl) rfl #[.pointer (some ⟨g,0,none⟩),.int .i64 4] rfl ar ?_;(with_reducible refine(spec_l1Cur_pick.calls g s0_0 s0_1 s0_2 4 t158 t159 t160 w0 _ ?side1 ?side2 A2.out).mono ?_);(case side1=>repeat (first|(with_reducible first|exact HI0.out|apply IsS52.alloc|apply IsS52.drewN|apply IsS52.drew|apply IsS52.set_1|apply IsS52.set_2)|exact HI0.out));(case side2=>repeat (first|(with_reducible first|exact HB.out|apply below_alloc|apply pw_below_drewN|apply below_drew1|refine below_set ?_ (IsS52.ge HI0.out))|exact HB.out));rintro e w51 ⟨rfl,hi,hb,hk⟩;refine⟨_,rfl,?_⟩;replace HK:=A_ (KeepBut.trans (y2 HK.out) hk (.inl rfl));replace HB:=A_ (hb);replace HI0:=A_ (hi);(try clear hb);(try clear hb2);(try clear hk);(try clear hi))|((with_reducible refine gc_ 37 rfl ?_);refine goesL_ (some 8) rfl rfl Tryd.func37 (by kernel_rfl) rfl #[.pointer (some ⟨g,0,none⟩),.int .i64 3] rfl ar ?_;(with_reducible refine(spec_l1Cur_one.calls g s0_0 t159 t160 3 t161 t162 t163 w0 _ ?side1 ?side2 A3.out).mono ?_);(case side1=>repeat (first|(with_reducible first|exact HI0.out|apply IsS52.alloc|apply IsS52.drewN|apply IsS52.drew|apply IsS52.set_1|apply IsS52.set_2)|exact HI0.out));(case side2=>repeat (first|(with_reducible first|exact HB.out|apply below_alloc|apply pw_below_drewN|apply below_drew1|refine below_set ?_ (IsS52.ge HI0.out))|exact HB.out));rintro e w52 ⟨rfl,hi,hb,hk⟩;refine⟨_,rfl,?_⟩;replace HK:=A_ (KeepBut.trans (y2 HK.out) hk (.inl rfl));replace HB:=A_ (hb);replace HI0:=A_ (hi);(try clear hb);(try clear hb2);(try clear hk);(try clear hi))|((with_reducible refine gc_ 35 rfl ?_);refine goesL_ (some 9) rfl rfl Tryd.func35 (by kernel_rfl) rfl #[.pointer (some ⟨g,0,none⟩),.int .i64 t158,.bool t161] rfl ar ?_;(with_reducible refine(spec_l1Cur_typeOf.calls k g s0_0 t162 t163 t158 t161 t164 t165 t166 t169 t170 w0 _ ?side1 ?side2 A4.out).mono ?_);(case side1=>repeat (first|(with_reducible first|exact HI0.out|apply IsS52.alloc|apply IsS52.drewN|apply IsS52.drew|apply IsS52.set_1|apply IsS52.set_2)|exact HI0.out));(case side2=>repeat (first|(with_reducible first|exact HB.out|apply below_alloc|apply pw_below_drewN|apply below_drew1|refine below_set ?_ (IsS52.ge HI0.out))|exact HB.out));rintro e w53 ⟨v167,rfl,ho0,hi,hb,hk⟩;refine⟨_,rfl,?_⟩;have HO168:=A_ (Kd.R_lower ho0 (keep_size (w:=w) (g:=g) (row:=none) (y2 HK.out)));replace HK:=A_ (KeepBut.trans (y2 HK.out) hk (.inl rfl));replace HB:=A_ (hb);replace HI0:=A_ (hi);(try clear hb);(try clear hb2);(try clear hk);(try clear hi);(try clear ho0);obtain⟨Ao54,co54,eo54⟩:=Kd.R_slice HO168.out;subst eo54)|((with_reducible refine gc_ 34 rfl ?_);refine goesL_ (some 10) rfl rfl Tryd.func34 (by kernel_rfl) rfl #[.slice none 0 0,.agg #[.int .i64 t164,.int .i64 t165,.slice Ao54 t166.length co54],.int .i64 (-1)] rfl ar ?_;(refine(spec_l11Flat.calls _ _ ([]:List (S33)) t164 t165 _ _ t166 (-1) t171 _ ?side1 ?side2 ?side3 ?side4 A5.out).mono ?_);(case side1=>exact Kd.C_nil _ _);(case side2=>exact Nat.le_refl _);(case side3=>repeat (first|exact(Kd.R_reads' HO168.out).2.2|(with_reducible refine Kd.C_alloc ?_ _)|(with_reducible refine Kd.C_drewN ?_ _)|(with_reducible refine Kd.C_drew ?_)));(case side4=>exact(Kd.R_reads' HO168.out).2.1);rintro e w55 ⟨v172,rfl,ho0,hb⟩;refine⟨_,rfl,?_⟩;have HO173:=A_ (Kd.R_lower ho0 (keep_size (w:=w) (g:=g) (row:=none) (y2 HK.out)));replace HO168:=A_ (Kd.R_below (kr_ HO168.out) hb);replace HI0:=A_ (IsS52.below (y1 HI0.out) hb);replace HK:=A_ (KeepBut.trans (y2 HK.out) (KeepBut.of_below hb g none) (.inl rfl));replace HB:=A_ (below_step (y0 HB.out) hb);(try clear hb);(try clear hb2);(try clear hk);(try clear hi);(try clear ho0))|((with_reducible refine gc_ 36 rfl ?_);refine goesL_ (some 12) rfl rfl Tryd.func36 (by kernel_rfl) rfl #[.pointer (some ⟨g,0,none⟩),.int .i64 30] rfl ar ?_;(with_reducible refine(spec_l1Cur_pick.calls g s0_0 t169 t170 30 t174 t175 t176 w0 _ ?side1 ?side2 A6.out).mono ?_);(case side1=>repeat (first|(with_reducible first|exact HI0.out|apply IsS52.alloc|apply IsS52.drewN|apply IsS52.drew|apply IsS52.set_1|apply IsS52.set_2)|exact HI0.out));(case side2=>repeat (first|(with_reducible first|exact HB.out|apply below_alloc|apply pw_below_drewN|apply below_drew1|refine below_set ?_ (IsS52.ge HI0.out))|exact HB.out));rintro e w56 ⟨rfl,hi,hb,hk⟩;refine⟨_,rfl,?_⟩;replace HO168:=A_ (Kd.R_mono (Kd.R_keep (IsS52.apart (show IsS52 w0 _ g s0_0 t169 t170 from y1 HI0.out) (kr_ HO168.out) (by decide)) hk (fun _ h=>h.2)) (fun _ h=>h.1));replace HO173:=A_ (Kd.R_mono (Kd.R_keep (IsS52.apart (show IsS52 w0 _ g s0_0 t169 t170 from y1 HI0.out) (kr_ HO173.out) (by decide)) hk (fun _ h=>h.2)) (fun _ h=>h.1));replace HK:=A_ (KeepBut.trans (y2 HK.out) hk (.inl rfl));replace HB:=A_ (hb);replace HI0:=A_ (hi);(try clear hb);(try clear hb2);(try clear hk);(try clear hi)))
 go_ret
 exact⟨_,rr_,kr_ HO173.out,y1 HI0.out,y0 HB.out,y2 HK.out⟩

/-! ### spec_DrawGoodType: function 10 -/
def spec_DrawGoodType.f (k:Nat) (l0:List Int):Option ((List (S33))):=(spec_l1Cur_typeNodes.f k l0 0 0).bind fun bt192=>(some bt192.1)
theorem spec_DrawGoodType.calls (k:Nat) (A0:Option Addr) (c0:Nat) (l0:List Int) (r:List (S33)) (w:World) (hr0:Kd.C (Kd.int .u8) w A0 l0.length l0) (hc0:l0.length≤c0) (h:spec_DrawGoodType.f k l0=some r):
  Calls Tryd.prog 10 #[.slice A0 l0.length c0] w fun e w'=>∃ v0_:Value,e=.returned (v0_)∧Kd.R k33 33 w' w.heap.size (fun _=>True) v0_ r∧Below w.heap.size w w':=by
 have hu52:=Tryd.underlying52
 have HR0:=A_ hr0
 have HC0:=A_ hc0
 clear hr0 hc0
 have HB:=A_ (Below.refl w.heap.size w)
 have H:((spec_l1Cur_typeNodes.f k l0 0 0).bind fun bt192=>(some bt192.1))=some r:=h
 clear h
 replace H:=Option.bind_eq_some_iff.mp H
 obtain⟨⟨t192,t195,t196⟩,A20,H⟩:=H
 try dsimp only at H
 have A2:=A_ A20
 clear A20
 obtain rfl:=Option.some.inj H
 clear H
 go_enter Tryd.func10,Tryd.ntmps10
 go_wp2_with (first|((with_reducible refine gd_ 6 rfl ?_);refine bx_ #[.slice A0 l0.length c0,.int .i64 0,.int .u64 0] 52 ?_;intro gb191 hg w3 hbox hb;have HI191:=A_ ((show IsS52 w w3 gb191 l0 0 0 from ⟨_,_,hbox,(sz_ hg (bw HB.out):w.heap.size≤gb191),HR0.out⟩));have GW191:=gw_ hg HB;have GE191:=GW191;replace HB:=bs_ HB hb;clear hb hbox hg)|((with_reducible refine gc_ 18 rfl ?_);refine goesL_ (some 8) rfl rfl Tryd.func18 (by kernel_rfl) rfl #[.pointer (some ⟨gb191,0,none⟩)] rfl ar ?_;(with_reducible refine(spec_l1Cur_typeNodes.calls k gb191 l0 0 0 t192 t195 t196 w _ ?side1 ?side2 A2.out).mono ?_);(case side1=>repeat (first|(with_reducible first|exact HI191.out|apply IsS52.alloc|apply IsS52.drewN|apply IsS52.drew|apply IsS52.set_1|apply IsS52.set_2)|exact HI191.out));(case side2=>repeat (first|(with_reducible first|exact HB.out|apply below_alloc|apply pw_below_drewN|apply below_drew1|refine below_set ?_ (IsS52.ge HI191.out))|exact HB.out));rintro e w4 ⟨v193,rfl,ho0,hi,hb,hk⟩;refine⟨_,rfl,?_⟩;have HO194:=A_ (Kd.R_lower ho0 (below_size (y0 HB.out)));replace HB:=A_ (hb);replace HI191:=A_ (hi);(try clear hb);(try clear hb2);(try clear hk);(try clear hi);(try clear ho0)))
 go_ret
 exact⟨_,rr_,kr_ HO194.out,y0 HB.out⟩

/-! ### spec_DrawTypeText: function 4 -/
def spec_DrawTypeText.f (k:Nat) (l0:List Int):Option ((List (S33))):=(spec_DrawGoodType.f k l0).bind fun t197=>(some t197)
theorem spec_DrawTypeText.calls (k:Nat) (A0:Option Addr) (c0:Nat) (l0:List Int) (r:List (S33)) (w:World) (hr0:Kd.C (Kd.int .u8) w A0 l0.length l0) (hc0:l0.length≤c0) (h:spec_DrawTypeText.f k l0=some r):
  Calls Tryd.prog 4 #[.slice A0 l0.length c0] w fun e w'=>∃ v0_:Value,e=.returned (v0_)∧Kd.R k33 33 w' w.heap.size (fun _=>True) v0_ r∧Below w.heap.size w w':=by
 have HR0:=A_ hr0
 have HC0:=A_ hc0
 clear hr0 hc0
 have HB:=A_ (Below.refl w.heap.size w)
 have H:((spec_DrawGoodType.f k l0).bind fun t197=>(some t197))=some r:=h
 clear h
 replace H:=bA_ H
 obtain⟨t197,A2,H⟩:=H
 obtain rfl:=Option.some.inj H
 clear H
 go_enter Tryd.func4,Tryd.ntmps4
 go_wp2_with (first|((with_reducible refine gc_ 10 rfl ?_);refine goesL_ (some 4) rfl rfl Tryd.func10 (by kernel_rfl) rfl #[.slice A0 l0.length c0] rfl ar ?_;(with_reducible refine(spec_DrawGoodType.calls k _ _ l0 t197 _ ?side1 ?side2 A2.out).mono ?_);(case side1=>repeat (first|exact HR0.out|(with_reducible refine Kd.C_alloc ?_ _)|(with_reducible refine Kd.C_drewN ?_ _)|(with_reducible refine Kd.C_drew ?_)));(case side2=>exact HC0.out);rintro e w3 ⟨v198,rfl,ho0,hb⟩;refine⟨_,rfl,?_⟩;have HO199:=A_ (Kd.R_lower ho0 (below_size (bw HB.out)));replace HB:=bs_ HB hb;(try clear hb);(try clear hb2);(try clear hk);(try clear hi);(try clear ho0)))
 go_ret
 exact⟨_,rr_,kr_ HO199.out,bw HB.out⟩

/-! ### impl_kin: function 19 -/
mutual
def impl_kin.l0:Nat→List Int→List (List Int)→List Int→Int→Int→Option ((List (List Int)) × Bool)
 |0,_,_,_,_,_=>none
 |k+1,x0,x4,x11,x12,x13=>if x13<x12 then (if 0≤x13 then (if x13<(x11.length:Int) then (if x13=0 then (if (rd x11 x13)=(-1) then (impl_kin.l0 k x0 x4 x11 x12 (wrap64 (x13+1))) else (some (([]:List (List Int)),false))) else (impl_kin.l1 k x0 x4 x13 (rd x11 x13) (wrap64 (x13 - 1)) x11 x12 x13)) else (none)) else (none)) else (some (x4,true))
def impl_kin.l1:Nat→List Int→List (List Int)→Int→Int→Int→List Int→Int→Int→Option ((List (List Int)) × Bool)
 |0,_,_,_,_,_,_,_,_=>none
 |k+1,x0,x4,x5,x6,x7,x11,x12,x13=>if x7≥0 then (if x7=x6 then (if x7<0 then (some (([]:List (List Int)),false)) else (if 0≤x6 then (if x6<(x4.length:Int) then (if (rd_L4 x4 x6).length<17592186044416 then (impl_kin.l0 k x0 (x4.set (x6:Int).toNat ((rd_L4 x4 x6)++[x5])) x11 x12 (wrap64 (x13+1))) else (none)) else (none)) else (none))) else (if 0≤x7 then (if x7<(x0.length:Int) then (impl_kin.l1 k x0 x4 x5 x6 (rd x0 x7) x11 x12 x13) else (none)) else (none))) else (if x7<0 then (some (([]:List (List Int)),false)) else (if 0≤x6 then (if x6<(x4.length:Int) then (if (rd_L4 x4 x6).length<17592186044416 then (impl_kin.l0 k x0 (x4.set (x6:Int).toNat ((rd_L4 x4 x6)++[x5])) x11 x12 (wrap64 (x13+1))) else (none)) else (none)) else (none)))
end
def impl_kin.f (k:Nat) (l0:List Int):Option ((List (List Int)) × Bool):=if 0≤(l0.length:Int) then (if ((l0.length:Int):Int).toNat≤11728124029610 then (impl_kin.l0 k l0 (List.replicate ((l0.length:Int):Int).toNat []) l0 (l0.length:Int) 0) else (none)) else (none)
theorem impl_kin.calls (k:Nat) (A0:Option Addr) (c0:Nat) (l0:List Int) (r1:List (List Int)) (r2:Bool) (w:World) (hr0:Kd.C (Kd.int .i64) w A0 l0.length l0) (hc0:l0.length≤c0) (h:impl_kin.f k l0=some (r1,r2)):
  Calls Tryd.prog 19 #[.slice A0 l0.length c0] w fun e w'=>∃ v0_:Value,e=.returned (.tuple #[v0_,.bool r2])∧Kd.S (Kd.slice 3 (Kd.int .i64)) 54 w' w.heap.size (fun _=>True) v0_ r1∧Below w.heap.size w w':=by
 have HR0:=A_ hr0
 have HC0:=A_ hc0
 clear hr0 hc0
 have HB:=A_ (Below.refl w.heap.size w)
 have H:(if 0≤(l0.length:Int) then (if ((l0.length:Int):Int).toNat≤11728124029610 then (impl_kin.l0 k l0 (List.replicate ((l0.length:Int):Int).toNat []) l0 (l0.length:Int) 0) else (none)) else (none))=some (r1,r2):=h
 clear h
 replace H:=iq_ H
 obtain⟨c2b0,c2b1,H⟩:=H
 replace H:=iq_ H
 obtain⟨c3b0,c3b1,H⟩:=H
 obtain⟨y200,hy200⟩:∃ y_:List (List Int),y_=(List.replicate ((l0.length:Int):Int).toNat []):=⟨_,rfl⟩
 rw[←hy200] at H
 have Ny200:=A_ hy200
 clear hy200
 have H':=A_ H
 clear H
 go_enter Tryd.func19,Tryd.ntmps19
 go_wp2_with (first|((with_reducible refine gd_ 10 rfl ?_);refine Kd.S_make (Kd.slice 3 (Kd.int .i64)) _ 54 rfl (N:=10) rfl 55 _ _ rfl (l0.length:Int) rfl rfl Tryd.underlying55 (.slice none 0 0) 24 info54 rfl (by decide) (by omega) [] (ok:=fun _=>True) (okp:=fun _=>True) ⟨_,rfl,Kd.R_nil _ _ _ _ _⟩ (fun _ hk=>hk) trivial (od_) (Nat.le_trans (Nat.mul_le_mul_right _ (od_:(l0.length:Int).toNat≤11728124029610)) (by omega)) (Below.refl _ _) (Nat.le_refl _) ?_;intro v201 w4 ho5 hb hg_ hnew_;clear hg_ hnew_;(first|rw[←Ny200.out] at ho5|(simp only[Int.reduceToNat] at ho5;rw[←Ny200.out] at ho5));have HO202:=A_ (Kd.S_lower ho5 (below_size (bw HB.out)));replace HB:=bs_ HB hb;clear hb ho5))
 (try simp only[Act.put,List.setIfInBounds_toArray,List.set_cons_zero,List.set_cons_succ])
 go_loopg [13] k (fun kq v13 w'=>∃ (x4_1:List (List Int)) (x13_1:Int),v13=.int .i64 x13_1∧Aside0 (impl_kin.l0 kq l0 x4_1 l0 (l0.length:Int) x13_1=some (r1,r2))∧Aside0 (kq≤k)∧Aside0 (Kd.S (Kd.slice 3 (Kd.int .i64)) 54 w' w.heap.size (fun _=>True) v201 x4_1)∧Aside0 (Below w.heap.size w w'))
 case atStart=>exact⟨(y200),(0),rs_,H',⟨Nat.le_refl _⟩,⟨ks_ HO202.out⟩,⟨bw HB.out⟩⟩
 case round=>
  clear H'
  try clear c2 c2b0 c2b1 c3 c3b0 c3b1
  obtain⟨x4_1,x13_1,rfl,HA,HK1,HO_4,HB⟩:=hrel
  cases gk with
  |zero=>exact absurd HA.out (by simp[impl_kin.l0])
  |succ k1=>
   have H:=HA.out
   clear HA
   simp only[impl_kin.l0] at H
   revert H
   refine iL_ (fun c6b0 H=>?_) (fun c6b0 H=>?_)
   ·
    replace H:=id_ H
    obtain⟨c7b0,H⟩:=H
    replace H:=id_ H
    obtain⟨c8b0,H⟩:=H
    revert H
    refine iE_ (fun c9b0 c9b1 H=>?_) (fun c9 c9b0 c9b1 H=>?_)
    ·
     revert H
     refine iE_ (fun c10b0 c10b1 H=>?_) (fun c10 c10b0 c10b1 H=>?_)
     ·
      have H':=A_ H
      clear H
      have p203:0≤(x13_1:Int):=od_
      have q203:x13_1<(l0.length:Int):=od_
      obtain⟨ad203,e203,hx203_0⟩:=Kd.at_int HR0.out x13_1 p203 q203
      cases e203
      replace hx203_0:=cl_ HB.out hx203_0
      replace p203:=eq_true p203
      replace q203:=eq_true q203
      go_wp2
      go_roundg k1
      case measure=>have:=HK1.out;omega
      case rel=>exact⟨(x4_1),(wrap64 (x13_1+1)),rs_,H',⟨by have:=HK1.out;omega⟩,⟨ks_ HO_4.out⟩,⟨bw HB.out⟩⟩
     simp only[Option.some.injEq,Prod.mk.injEq] at H
     obtain⟨rfl,rfl⟩:=H
     have p203:0≤(x13_1:Int):=od_
     have q203:x13_1<(l0.length:Int):=od_
     obtain⟨ad203,e203,hx203_0⟩:=Kd.at_int HR0.out x13_1 p203 q203
     cases e203
     replace hx203_0:=cl_ HB.out hx203_0
     replace p203:=eq_true p203
     replace q203:=eq_true q203
     go_wp2
     go_ret2
     exact⟨_,rr_,by first|exact Kd.S_nil _ _ _ _ _|exact Kd.N_nil _ _ _ _ _|exact Kd.V_nil _ _ _ _ _|exact Kd.Q_nil _ _ _ _ _|exact Kd.R_nil _ _ _ _ _,bw HB.out⟩
    have H':=A_ H
    clear H
    have p203:0≤(x13_1:Int):=od_
    have q203:x13_1<(l0.length:Int):=od_
    obtain⟨ad203,e203,hx203_0⟩:=Kd.at_int HR0.out x13_1 p203 q203
    cases e203
    replace hx203_0:=cl_ HB.out hx203_0
    replace p203:=eq_true p203
    replace q203:=eq_true q203
    go_wp2
    (try simp only[Act.put,List.setIfInBounds_toArray,List.set_cons_zero,List.set_cons_succ])
    go_loopg [7] k1 (fun kq v7 w'=>∃ (x7_2:Int),v7=.int .i64 x7_2∧Aside0 (impl_kin.l1 kq l0 x4_1 x13_1 (rd l0 x13_1) x7_2 l0 (l0.length:Int) x13_1=some (r1,r2))∧Aside0 (kq≤k1)∧Aside0 (Kd.S (Kd.slice 3 (Kd.int .i64)) 54 w' w.heap.size (fun _=>True) v201 x4_1)∧Aside0 (Below w.heap.size w w'))
    case atStart=>exact⟨(wrap64 (x13_1 - 1)),rs_,H',⟨Nat.le_refl _⟩,⟨ks_ HO_4.out⟩,⟨bw HB.out⟩⟩
    case round=>
     clear H'
     try clear c2 c2b0 c2b1 c3 c3b0 c3b1 c6 c6b0 c7 c7b0 c8 c8b0 c9 c9b0 c9b1 hx203_0 p203 q203
     obtain⟨x7_2,rfl,HA,HK2,HO_4,HB⟩:=hrel
     cases gk with
     |zero=>exact absurd HA.out (by simp[impl_kin.l1])
     |succ k2=>
      have H:=HA.out
      clear HA
      simp only[impl_kin.l1] at H
      revert H
      refine iL_ (fun c11b0 H=>?_) (fun c11b0 H=>?_)
      ·
       revert H
       refine iE_ (fun c12b0 c12b1 H=>?_) (fun c12 c12b0 c12b1 H=>?_)
       ·
        revert H
        refine iL_ (fun c13b0 H=>?_) (fun c13b0 H=>?_)
        ·
         simp only[Option.some.injEq,Prod.mk.injEq] at H
         obtain⟨rfl,rfl⟩:=H
         go_wp2
         go_ret2
         exact⟨_,rr_,by first|exact Kd.S_nil _ _ _ _ _|exact Kd.N_nil _ _ _ _ _|exact Kd.V_nil _ _ _ _ _|exact Kd.Q_nil _ _ _ _ _|exact Kd.R_nil _ _ _ _ _,bw HB.out⟩
        replace H:=id_ H
        obtain⟨c14b0,H⟩:=H
        replace H:=id_ H
        obtain⟨c15b0,H⟩:=H
        replace H:=im_ H
        obtain⟨LMc16,H⟩:=H
        obtain⟨y205,hy205⟩:∃ y_:List Int,y_=((rd_L4 x4_1 (rd l0 x13_1))++[x13_1]):=⟨_,rfl⟩
        rw[←hy205] at H
        have Ny205:=A_ hy205
        clear hy205
        obtain⟨y208,hy208⟩:∃ y_:List (List Int),y_=(x4_1.set ((rd l0 x13_1):Int).toNat y205):=⟨_,rfl⟩
        rw[←hy208] at H
        have Ny208:=A_ hy208
        clear hy208
        have H':=A_ H
        clear H
        obtain⟨Ao18,co18,eo18⟩:=Kd.S_slice HO_4.out
        subst eo18
        have p204:0≤((rd l0 x13_1):Int):=od_
        have q204:(rd l0 x13_1)<(x4_1.length:Int):=od_
        obtain⟨ad204,A204_0,c204_0,e204,hx204_0,hl204_0,hi204_0⟩:=at_L4 (Kd.S_reads' HO_4.out).2.2 (rd l0 x13_1) p204 q204
        cases e204
        obtain⟨ce204,hce204,hMe204,hcc204⟩:=Kd.S_get HO_4.out [] (rd l0 x13_1) p204 (by first|exact q204|exact od_|(have e_:=(Kd.S_reads' HO_4.out).1;omega))
        obtain⟨ve204_0,rfl,ge204_0⟩:=hMe204
        have hv204_0:=hcc204 0 _ rfl
        rw[Nat.add_zero,show ((Kd.slice 3 (Kd.int .i64))).sz=1 from rfl,Nat.mul_one] at hv204_0
        replace hv204_0:=Option.some.inj (hv204_0.symm.trans hx204_0)
        rw[hv204_0] at ge204_0
        have HL204_0:=A_ (show Kd.R (Kd.int .i64) 3 _ _ _ _ (rd_L4 x4_1 (rd l0 x13_1)) from ge204_0)
        clear hv204_0 ge204_0
        have HX204_0:=A_ hx204_0
        clear hcc204 hce204
        have HR204_0:=A_ hi204_0
        have HC204_0:=A_ hl204_0
        clear hi204_0 hl204_0
        replace p204:=eq_true p204
        replace q204:=eq_true q204
        obtain⟨go19,co19,eo19,gb19,gl19,cl19,HG19⟩:=Kd.S_form HO_4.out (by have h_:((rd l0 x13_1):Int)<((x4_1.length:Int):Int):=od_;have h2_:0≤((rd l0 x13_1):Int):=(od_);omega)
        (first|cases eo19|(injection eo19 with ea_ en_ ec_;(first|subst ea_|(injection ea_ with ea_;subst ea_));subst ec_;clear en_))
        have GB19:=A_ gb19
        have GG19:=A_ HG19
        clear gb19 gl19 HG19
        (first|simp only[add_plain] at hx204_0|skip)
        obtain⟨oki19,ce19,hcl19,hM19,hcc19,_,_,hH19⟩:=Kd.S_elem HO_4.out [] ((rd l0 x13_1):Int) (od_) (by have h_:((rd l0 x13_1):Int)<((x4_1.length:Int):Int):=od_;first|exact h_|(have e_:=(Kd.S_reads' HO_4.out).1;omega)|simpa using h_)
        obtain⟨ve19_0,rfl,ge19_0⟩:=hM19
        have hv19:=hcc19 0 _ rfl
        have hX19:=HX204_0.out
        (try simp only[add_plain] at hX19)
        (try simp only[Nat.add_zero] at hv19)
        (try rw[show ((Kd.slice 3 (Kd.int .i64))).sz=1 from rfl,Nat.mul_one] at hv19)
        replace hv19:=Option.some.inj (hv19.symm.trans hX19)
        subst hv19
        clear hX19 hcc19 hcl19
        have UU19:=A_ (show Kd.R (Kd.int .i64) 3 _ w.heap.size oki19 (.slice A204_0 (rd_L4 x4_1 (rd l0 x13_1)).length c204_0) (rd_L4 x4_1 (rd l0 x13_1)) from ge19_0)
        have HH19:=A_ hH19
        have HN19:=A_ (Kd.S_reads' HO_4.out).1
        clear hH19 ge19_0
        go_wp2_with (first|((with_reducible refine gate_builtin (b:=.append) (xs:=#[.tmp 42,.tmp 44]) rfl ?_);at_builtin;refine Kd.R_append (Kd.int .i64) (w0:=w) w.heap.size rfl (.tmp 42) (.tmp 44) 54 3 (.int .i64 0) 8 rfl Tryd.underlying54 info3 rfl (by decide) (by omega) (.slice A204_0 (rd_L4 x4_1 (rd l0 x13_1)).length c204_0) (rd_L4 x4_1 (rd l0 x13_1)) x13_1 [.int .i64 x13_1] (fun k_=>oki19 k_∨((fun _=>True)) k_∧wr.heap.size≤k_) (fun _=>False) rfl rfl ?aP (fun _ hk=>hk.elim) ?aF ?aO ?aB ?aS ?aL ?_;(case aP=>exact rfl);(case aB=>exact(bw HB.out));(case aF=>exact(fun k_ hk=>.inr ⟨trivial,hk⟩));(case aO=>exact(by(with_reducible repeat (first|apply Kd.R_alloc|apply Kd.R_drewN|apply Kd.R_drew));exact Kd.R_mono UU19.out (fun _ hk=>.inl hk)));(case aS=>exact(below_size (bw HB.out)));(case aL=>have:=LMc16.out;omega);intro v206 w20 ho hb hg hat;rw[←Ny205.out] at ho;have HO207:=A_ (ho);replace HB:=A_ (hb);replace HH19:=A_ (Kd.H_grown (Kd.H_widen (by repeat (first|exact HH19.out|refine Kd.H_alloc ?_ _|refine Kd.H_drewN ?_ _|refine Kd.H_drew ?_))) hg (fun k_ e_=>.inl (UU19.out.1 k_ e_)));clear HO_4 UU19 HL204_0;clear ho hb hg hat;have p17:0≤((rd l0 x13_1):Int):=od_;have q17:((rd l0 x13_1):Int)<((x4_1.length:Int):Int):=od_;replace p17:=eq_true p17;replace q17:=eq_true q17;obtain⟨Ao23,co23,eo23⟩:=Kd.R_slice HO207.out;subst eo23;obtain⟨_,_,hraw21,_,_,hcc21,_⟩:=Kd.H_raw HH19.out (od_) (by have h_:((rd l0 x13_1):Int)<((x4_1.length:Int):Int):=od_;first|exact h_|(have e_:=(HN19.out);omega)|simpa using h_);obtain⟨_,hfr21⟩:=Kd.H_at HH19.out (od_) (by have h_:((rd l0 x13_1):Int)<((x4_1.length:Int):Int):=od_;first|exact h_|(have e_:=(HN19.out);omega)|simpa using h_);have hx21_0:=hcc21 0 _ rfl;have hf21_0:=hfr21 0;(try simp only[Nat.add_zero] at hx21_0 hf21_0);(try rw[show ((Kd.slice 3 (Kd.int .i64))).sz=1 from rfl,Nat.mul_one] at hx21_0);(try rw[show ((Kd.slice 3 (Kd.int .i64))).sz=1 from rfl,Nat.mul_one] at hf21_0);have HP21:=Kd.S_seg0 HH19.out (od_) (by have h_:((rd l0 x13_1):Int)<((x4_1.length:Int):Int):=od_;first|exact h_|(have e_:=(HN19.out);omega)|simpa using h_) (seg:=[.slice Ao23 y205.length co23]) (j:=0) (show 1≤1 from by decide) (x':=y205) (Kd.M_row HO207.out) (fun _ hk=>hk);(try simp only[show ((Kd.slice 3 (Kd.int .i64))).sz=1 from rfl,Nat.mul_one,Nat.add_zero] at HP21);clear hcc21 hfr21)|((with_reducible refine gate_store (t:=54) (p:=46) rfl ?_);refine store_event (t:=54) (p:=46) (v:=?vo_w22) (w1:=(w20.setCell ⟨go19,((rd l0 x13_1):Int).toNat,none⟩ (.slice Ao23 y205.length co23))) ?hg ?ho ?hn ?hr ?_;(case ho=>rfl);(case hg=>rfl);(case hn=>rfl);(case hr=>first|(go_simp;done)|(go_simp;rfl));intro w22 hw;have hg:w20.grownBy w22 (some go19):=(by rw[hw];exact HP21.2);have hp_:Kd.S (Kd.slice 3 (Kd.int .i64)) 54 w22 w.heap.size (fun _=>True) (.slice (some ⟨go19,0,none⟩) x4_1.length co18) y208:=(by rw[hw,Ny208.out];exact HP21.1);clear HP21;have HO_4:=A_ (hp_);replace HB:=A_ ((by rw[hw];exact below_set HB.out GB19.out:Below w.heap.size w w22));clear HO207 HH19;clear hg hw hp_ hraw21))
        go_roundg k2
        case measure=>have:=HK1.out;have:=HK2.out;omega
        case rel=>exact⟨(y208),(wrap64 (x13_1+1)),rs_,H',⟨by have:=HK1.out;have:=HK2.out;omega⟩,⟨ks_ HO_4.out⟩,⟨bw HB.out⟩⟩
       replace H:=id_ H
       obtain⟨c24b0,H⟩:=H
       replace H:=id_ H
       obtain⟨c25b0,H⟩:=H
       have H':=A_ H
       clear H
       have p209:0≤(x7_2:Int):=od_
       have q209:x7_2<(l0.length:Int):=od_
       obtain⟨ad209,e209,hx209_0⟩:=Kd.at_int HR0.out x7_2 p209 q209
       obtain rfl:ad203=ad209:=(by injection e209)
       replace hx209_0:=cl_ HB.out hx209_0
       replace p209:=eq_true p209
       replace q209:=eq_true q209
       go_wp2
       go_roundg k2
       case measure=>have:=HK1.out;have:=HK2.out;omega
       case rel=>exact⟨(rd l0 x7_2),rs_,H',⟨by have:=HK1.out;have:=HK2.out;omega⟩,⟨ks_ HO_4.out⟩,⟨bw HB.out⟩⟩
      revert H
      refine iL_ (fun c26b0 H=>?_) (fun c26b0 H=>?_)
      ·
       simp only[Option.some.injEq,Prod.mk.injEq] at H
       obtain⟨rfl,rfl⟩:=H
       go_wp2
       go_ret2
       exact⟨_,rr_,by first|exact Kd.S_nil _ _ _ _ _|exact Kd.N_nil _ _ _ _ _|exact Kd.V_nil _ _ _ _ _|exact Kd.Q_nil _ _ _ _ _|exact Kd.R_nil _ _ _ _ _,bw HB.out⟩
      replace H:=id_ H
      obtain⟨c27b0,H⟩:=H
      replace H:=id_ H
      obtain⟨c28b0,H⟩:=H
      replace H:=im_ H
      obtain⟨LMc29,H⟩:=H
      obtain⟨y211,hy211⟩:∃ y_:List Int,y_=((rd_L4 x4_1 (rd l0 x13_1))++[x13_1]):=⟨_,rfl⟩
      rw[←hy211] at H
      have Ny211:=A_ hy211
      clear hy211
      obtain⟨y214,hy214⟩:∃ y_:List (List Int),y_=(x4_1.set ((rd l0 x13_1):Int).toNat y211):=⟨_,rfl⟩
      rw[←hy214] at H
      have Ny214:=A_ hy214
      clear hy214
      have H':=A_ H
      clear H
      obtain⟨Ao31,co31,eo31⟩:=Kd.S_slice HO_4.out
      subst eo31
      have p210:0≤((rd l0 x13_1):Int):=od_
      have q210:(rd l0 x13_1)<(x4_1.length:Int):=od_
      obtain⟨ad210,A210_0,c210_0,e210,hx210_0,hl210_0,hi210_0⟩:=at_L4 (Kd.S_reads' HO_4.out).2.2 (rd l0 x13_1) p210 q210
      cases e210
      obtain⟨ce210,hce210,hMe210,hcc210⟩:=Kd.S_get HO_4.out [] (rd l0 x13_1) p210 (by first|exact q210|exact od_|(have e_:=(Kd.S_reads' HO_4.out).1;omega))
      obtain⟨ve210_0,rfl,ge210_0⟩:=hMe210
      have hv210_0:=hcc210 0 _ rfl
      rw[Nat.add_zero,show ((Kd.slice 3 (Kd.int .i64))).sz=1 from rfl,Nat.mul_one] at hv210_0
      replace hv210_0:=Option.some.inj (hv210_0.symm.trans hx210_0)
      rw[hv210_0] at ge210_0
      have HL210_0:=A_ (show Kd.R (Kd.int .i64) 3 _ _ _ _ (rd_L4 x4_1 (rd l0 x13_1)) from ge210_0)
      clear hv210_0 ge210_0
      have HX210_0:=A_ hx210_0
      clear hcc210 hce210
      have HR210_0:=A_ hi210_0
      have HC210_0:=A_ hl210_0
      clear hi210_0 hl210_0
      replace p210:=eq_true p210
      replace q210:=eq_true q210
      obtain⟨go32,co32,eo32,gb32,gl32,cl32,HG32⟩:=Kd.S_form HO_4.out (by have h_:((rd l0 x13_1):Int)<((x4_1.length:Int):Int):=od_;have h2_:0≤((rd l0 x13_1):Int):=(od_);omega)
      (first|cases eo32|(injection eo32 with ea_ en_ ec_;(first|subst ea_|(injection ea_ with ea_;subst ea_));subst ec_;clear en_))
      have GB32:=A_ gb32
      have GG32:=A_ HG32
      clear gb32 gl32 HG32
      (first|simp only[add_plain] at hx210_0|skip)
      obtain⟨oki32,ce32,hcl32,hM32,hcc32,_,_,hH32⟩:=Kd.S_elem HO_4.out [] ((rd l0 x13_1):Int) (od_) (by have h_:((rd l0 x13_1):Int)<((x4_1.length:Int):Int):=od_;first|exact h_|(have e_:=(Kd.S_reads' HO_4.out).1;omega)|simpa using h_)
      obtain⟨ve32_0,rfl,ge32_0⟩:=hM32
      have hv32:=hcc32 0 _ rfl
      have hX32:=HX210_0.out
      (try simp only[add_plain] at hX32)
      (try simp only[Nat.add_zero] at hv32)
      (try rw[show ((Kd.slice 3 (Kd.int .i64))).sz=1 from rfl,Nat.mul_one] at hv32)
      replace hv32:=Option.some.inj (hv32.symm.trans hX32)
      subst hv32
      clear hX32 hcc32 hcl32
      have UU32:=A_ (show Kd.R (Kd.int .i64) 3 _ w.heap.size oki32 (.slice A210_0 (rd_L4 x4_1 (rd l0 x13_1)).length c210_0) (rd_L4 x4_1 (rd l0 x13_1)) from ge32_0)
      have HH32:=A_ hH32
      have HN32:=A_ (Kd.S_reads' HO_4.out).1
      clear hH32 ge32_0
      go_wp2_with (first|((with_reducible refine gate_builtin (b:=.append) (xs:=#[.tmp 42,.tmp 44]) rfl ?_);at_builtin;refine Kd.R_append (Kd.int .i64) (w0:=w) w.heap.size rfl (.tmp 42) (.tmp 44) 54 3 (.int .i64 0) 8 rfl Tryd.underlying54 info3 rfl (by decide) (by omega) (.slice A210_0 (rd_L4 x4_1 (rd l0 x13_1)).length c210_0) (rd_L4 x4_1 (rd l0 x13_1)) x13_1 [.int .i64 x13_1] (fun k_=>oki32 k_∨((fun _=>True)) k_∧wr.heap.size≤k_) (fun _=>False) rfl rfl ?aP (fun _ hk=>hk.elim) ?aF ?aO ?aB ?aS ?aL ?_;(case aP=>exact rfl);(case aB=>exact(bw HB.out));(case aF=>exact(fun k_ hk=>.inr ⟨trivial,hk⟩));(case aO=>exact(by(with_reducible repeat (first|apply Kd.R_alloc|apply Kd.R_drewN|apply Kd.R_drew));exact Kd.R_mono UU32.out (fun _ hk=>.inl hk)));(case aS=>exact(below_size (bw HB.out)));(case aL=>have:=LMc29.out;omega);intro v212 w33 ho hb hg hat;rw[←Ny211.out] at ho;have HO213:=A_ (ho);replace HB:=A_ (hb);replace HH32:=A_ (Kd.H_grown (Kd.H_widen (by repeat (first|exact HH32.out|refine Kd.H_alloc ?_ _|refine Kd.H_drewN ?_ _|refine Kd.H_drew ?_))) hg (fun k_ e_=>.inl (UU32.out.1 k_ e_)));clear HO_4 UU32 HL210_0;clear ho hb hg hat;have p30:0≤((rd l0 x13_1):Int):=od_;have q30:((rd l0 x13_1):Int)<((x4_1.length:Int):Int):=od_;replace p30:=eq_true p30;replace q30:=eq_true q30;obtain⟨Ao36,co36,eo36⟩:=Kd.R_slice HO213.out;subst eo36;obtain⟨_,_,hraw34,_,_,hcc34,_⟩:=Kd.H_raw HH32.out (od_) (by have h_:((rd l0 x13_1):Int)<((x4_1.length:Int):Int):=od_;first|exact h_|(have e_:=(HN32.out);omega)|simpa using h_);obtain⟨_,hfr34⟩:=Kd.H_at HH32.out (od_) (by have h_:((rd l0 x13_1):Int)<((x4_1.length:Int):Int):=od_;first|exact h_|(have e_:=(HN32.out);omega)|simpa using h_);have hx34_0:=hcc34 0 _ rfl;have hf34_0:=hfr34 0;(try simp only[Nat.add_zero] at hx34_0 hf34_0);(try rw[show ((Kd.slice 3 (Kd.int .i64))).sz=1 from rfl,Nat.mul_one] at hx34_0);(try rw[show ((Kd.slice 3 (Kd.int .i64))).sz=1 from rfl,Nat.mul_one] at hf34_0);have HP34:=Kd.S_seg0 HH32.out (od_) (by have h_:((rd l0 x13_1):Int)<((x4_1.length:Int):Int):=od_;first|exact h_|(have e_:=(HN32.out);omega)|simpa using h_) (seg:=[.slice Ao36 y211.length co36]) (j:=0) (show 1≤1 from by decide) (x':=y211) (Kd.M_row HO213.out) (fun _ hk=>hk);(try simp only[show ((Kd.slice 3 (Kd.int .i64))).sz=1 from rfl,Nat.mul_one,Nat.add_zero] at HP34);clear hcc34 hfr34)|((with_reducible refine gate_store (t:=54) (p:=46) rfl ?_);refine store_event (t:=54) (p:=46) (v:=?vo_w35) (w1:=(w33.setCell ⟨go32,((rd l0 x13_1):Int).toNat,none⟩ (.slice Ao36 y211.length co36))) ?hg ?ho ?hn ?hr ?_;(case ho=>rfl);(case hg=>rfl);(case hn=>rfl);(case hr=>first|(go_simp;done)|(go_simp;rfl));intro w35 hw;have hg:w33.grownBy w35 (some go32):=(by rw[hw];exact HP34.2);have hp_:Kd.S (Kd.slice 3 (Kd.int .i64)) 54 w35 w.heap.size (fun _=>True) (.slice (some ⟨go32,0,none⟩) x4_1.length co31) y214:=(by rw[hw,Ny214.out];exact HP34.1);clear HP34;have HO_4:=A_ (hp_);replace HB:=A_ ((by rw[hw];exact below_set HB.out GB32.out:Below w.heap.size w w35));clear HO213 HH32;clear hg hw hp_ hraw34))
      go_roundg k2
      case measure=>have:=HK1.out;have:=HK2.out;omega
      case rel=>exact⟨(y214),(wrap64 (x13_1+1)),rs_,H',⟨by have:=HK1.out;have:=HK2.out;omega⟩,⟨ks_ HO_4.out⟩,⟨bw HB.out⟩⟩
   simp only[Option.some.injEq,Prod.mk.injEq] at H
   obtain⟨rfl,rfl⟩:=H
   go_wp2
   go_ret2
   exact⟨_,rr_,ks_ HO_4.out,bw HB.out⟩
end Go.Proofs.YtoeenmajdidfoaaDoor.Q

