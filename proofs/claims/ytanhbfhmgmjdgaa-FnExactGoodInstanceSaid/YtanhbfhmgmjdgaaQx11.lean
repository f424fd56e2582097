-- Written by a program of this session; it walks the functions that the law reaches.
import Derived.Test.YtanhbfhmgmjdgaaQx0
import Derived.Test.YtanhbfhmgmjdgaaQx5
import Derived.Test.YtanhbfhmgmjdgaaQx9
import Derived.Test.YtanhbfhmgmjdgaaQx10
import Derived.Test.YtanhbfhmgmjdgaaQx4
import Derived.Test.YtanhbfhmgmjdgaaQx1
namespace Go.Proofs.Ytanhbfhmgmjdgaa.Q
open Go.RowKit Go.Proofs.YtanhbfhmgmjdgaaW.PrintWords Go.Proofs.YtanhbfhmgmjdgaaW.PrintLast Go.Proofs.YtanhbfhmgmjdgaaW.PrintMore
attribute [local go_sem] max2_int min2_int max_two min_two max_three min_three max_four min_four   -- for this text's walks alone
set_option linter.unusedVariables false
set_option linter.unusedSimpArgs false
set_option maxRecDepth 100000
set_option maxHeartbeats 8000000


/-! ### spec_l7Check: function 39 (walked by hand) -/
def runS (fs:List S88) (gs:List S75) (mem:Bool) (f:S88):Nat→Nat→CS S131→Option (Int × Int × Int)
 |0,_,c=>some (0,0,c.hi)
 |n+1,i,c=>(insS c fs gs mem f.f1 ([]++f.f0++f.f2) (rd_T103 f.f3 (i:Int))).bind fun c1=>if c1.fa=0 then runS fs gs mem f n (i+1) c1 else some (c1.fa,(i:Int),0)
def checkS (fs:List S88) (gs:List S75) (mem:Bool) (kf:Int):Option (Int × Int × Int):=
 if 0≤kf∧kf<(fs.length:Int) then (if (rd_T88 fs kf).f0.length+(rd_T88 fs kf).f2.length≤1000000 then (pushS (⟨[],[],0,0⟩:CS S131) 2 (rd_T88 fs kf).f1).bind fun c=>runS fs gs mem (rd_T88 fs kf) (rd_T88 fs kf).f3.length 0 c else none) else none
def spec_l7Check.T2:Bool × List (List Nat × List Nat):=(true,[([],[]),([],[]),([],[]),([],[]),([3],[3]),([2,4],[2,4]),([],[]),([6],[6]),([5,7,5],[5,7]),([0,1,8],[0,1,8]),([9],[9]),([10,8,0,1,2,3,4,5,6,7,8,9,10],[10])])
def spec_l7Check.B2:List Nat:=[0,0,0,0,8,28,0,64,252,511,1023,2047]
theorem spec_l7Check.tab2:rtab .any (opsOf Try.f39 2)=spec_l7Check.T2:=by kernel_rfl
theorem spec_l7Check.bits2:waitsOk spec_l7Check.T2.2 spec_l7Check.B2=true:=by kernel_rfl
theorem scheck_any (fs:List S88) (gs:List S75) (mem:Bool) (pg mo sta kf:Int) (AF:Option Addr) (cF:Nat) (AG:Option Addr) (cG:Nat) (a b d:Int) (w:World) (rF:Kd.C k88 w AF fs.length fs) (rG:Kd.C k75 w AG gs.length gs) (hr:checkS fs gs mem kf=some (a,b,d)):
  Calls Try.prog 39 #[.agg #[(.slice AF fs.length cF),(.slice AG gs.length cG),(.bool mem),(.int .i64 pg),(.int .i64 mo),(.int .i64 sta)],.int .i64 kf] w fun e w'=>e=.returned (.tuple #[.int .i64 a,.int .i64 b,.int .i64 d])∧Below w.heap.size w w':=by
 unfold checkS at hr
 by_cases hk:0≤kf∧kf<(fs.length:Int)
 ·
  rw[if_pos hk] at hr
  obtain⟨ad,A0,d0,A2,d2,A3,d3,rfl,g0_,g1_,g2_,g3_,l0_,r0,l2_,r2,l3_,r3⟩:=at_T88 rF kf hk.1 hk.2
  have RF:=A_ rF;have RG:=A_ rG
  have R0:=A_ r0;have R2:=A_ r2;have R3:=A_ r3
  have hmax:=Kd.C_max r3
  generalize rd_T88 fs kf=f at*
  by_cases hsm:f.f0.length+f.f2.length≤1000000
  ·
   rw[if_pos hsm] at hr
   obtain⟨cs,hp,hr⟩:=Option.bind_eq_some_iff.1 hr
   have HR:=A_ hr;have HSM:=A_ hsm;have HPS:=A_ hp
   have q0:=eq_true hk.1
   have q1:=eq_true hk.2
   have hu71:=Try.underlying103
   have hu59:=Try.underlying88
   have hu32:=Try.underlying38
   have hu68:=Try.underlying114
   clear hr hk rF rG l0_ r0 l2_ r2 l3_ r3 hsm hp
   go_enter Try.func39,Try.ntmps39
   go_upto_region 2 with (first|((with_reducible refine gd_ 2 rfl ?_);refine bx_ #[(.slice (some ad) fs.length cF),(.slice AG gs.length cG),(.bool mem),(.int .i64 pg),(.int .i64 mo),(.int .i64 sta)] 38 ?_;intro bm hg w1 hbox hb;have BM:=A_ hbox;have HB:=A_ hb;have GM:=A_ (show w.heap.size≤bm from Nat.le_of_eq hg.symm);clear hbox hb hg;obtain⟨z0,z1,z2,z3,z4,z5⟩:=cp6_ BM.out;replace g0_:=cl_ HB.out g0_;replace g1_:=cl_ HB.out g1_;replace g2_:=cl_ HB.out g2_;replace g3_:=cl_ HB.out g3_)|((with_reducible refine gd_ 7 rfl ?_);refine bx_ #[(.slice none 0 0),(.int .i64 0),(.slice none 0 0),(.slice none 0 0)] 88 ?_;intro bf hg w2 hbox hb;have BF:=A_ hbox;have GF:=A_ (show w.heap.size≤bf∧bm≠bf from ⟨by have:=HB.out.size;omega,by have:=blk_lt BM.out;omega⟩);replace HB:=A_ (below_step HB.out hb);replace BM:=A_ (blk_below BM.out hb);clear z0 z1 z2 z3 z4 z5 hbox hb hg;obtain⟨y0,y1,y2,y3⟩:=cp4_ BF.out;obtain⟨v0,v1,v2,v3⟩:=fz4_ BF.out))
   have hBF:((((w2.setCell ⟨bf,0,none⟩ ((.slice A0 f.f0.length d0))).setCell ⟨bf,1,none⟩ ((.int .i64 f.f1))).setCell ⟨bf,2,none⟩ ((.slice A2 f.f2.length d2))).setCell ⟨bf,3,none⟩ ((.slice A3 f.f3.length d3))).heap[bf]? =some (.cells #[(.slice A0 f.f0.length d0),(.int .i64 f.f1),(.slice A2 f.f2.length d2),(.slice A3 f.f3.length d3)] 88 (0,0)):=blk_put (cs:=#[(.slice A0 f.f0.length d0),(.int .i64 f.f1),(.slice A2 f.f2.length d2),(.slice none 0 0)]) (blk_put (cs:=#[(.slice A0 f.f0.length d0),(.int .i64 f.f1),(.slice none 0 0),(.slice none 0 0)]) (blk_put (cs:=#[(.slice A0 f.f0.length d0),(.int .i64 0),(.slice none 0 0),(.slice none 0 0)]) (blk_put (cs:=#[(.slice none 0 0),(.int .i64 0),(.slice none 0 0),(.slice none 0 0)]) (BF.out) 0 ((.slice A0 f.f0.length d0)) rfl) 1 ((.int .i64 f.f1)) rfl) 2 ((.slice A2 f.f2.length d2)) rfl) 3 ((.slice A3 f.f3.length d3)) rfl
   have hBM:((((w2.setCell ⟨bf,0,none⟩ ((.slice A0 f.f0.length d0))).setCell ⟨bf,1,none⟩ ((.int .i64 f.f1))).setCell ⟨bf,2,none⟩ ((.slice A2 f.f2.length d2))).setCell ⟨bf,3,none⟩ ((.slice A3 f.f3.length d3))).heap[bm]? =some (.cells #[(.slice (some ad) fs.length cF),(.slice AG gs.length cG),(.bool mem),(.int .i64 pg),(.int .i64 mo),(.int .i64 sta)] 38 (0,0)):=(Below.heap_setCell (((w2.setCell ⟨bf,0,none⟩ ((.slice A0 f.f0.length d0))).setCell ⟨bf,1,none⟩ ((.int .i64 f.f1))).setCell ⟨bf,2,none⟩ ((.slice A2 f.f2.length d2))) ⟨bf,3,none⟩ ((.slice A3 f.f3.length d3)) bm GF.out.2).trans ((Below.heap_setCell ((w2.setCell ⟨bf,0,none⟩ ((.slice A0 f.f0.length d0))).setCell ⟨bf,1,none⟩ ((.int .i64 f.f1))) ⟨bf,2,none⟩ ((.slice A2 f.f2.length d2)) bm GF.out.2).trans ((Below.heap_setCell (w2.setCell ⟨bf,0,none⟩ ((.slice A0 f.f0.length d0))) ⟨bf,1,none⟩ ((.int .i64 f.f1)) bm GF.out.2).trans ((Below.heap_setCell w2 ⟨bf,0,none⟩ ((.slice A0 f.f0.length d0)) bm GF.out.2).trans (BM.out))))
   have hHB:Below w.heap.size w ((((w2.setCell ⟨bf,0,none⟩ ((.slice A0 f.f0.length d0))).setCell ⟨bf,1,none⟩ ((.int .i64 f.f1))).setCell ⟨bf,2,none⟩ ((.slice A2 f.f2.length d2))).setCell ⟨bf,3,none⟩ ((.slice A3 f.f3.length d3))):=below_set (below_set (below_set (below_set (HB.out) GF.out.1) GF.out.1) GF.out.1) GF.out.1
   replace BF:=A_ hBF;replace BM:=A_ hBM;replace HB:=A_ hHB;clear y0 y1 y2 y3 v0 v1 v2 v3 g0_ g1_ g2_ g3_ hBF hBM hHB;generalize ((((w2.setCell ⟨bf,0,none⟩ ((.slice A0 f.f0.length d0))).setCell ⟨bf,1,none⟩ ((.int .i64 f.f1))).setCell ⟨bf,2,none⟩ ((.slice A2 f.f2.length d2))).setCell ⟨bf,3,none⟩ ((.slice A3 f.f3.length d3)))=w3 at*
   refine sS 12 (fun w'=>w'.cell? ⟨bm,0,none⟩=some (.slice (some ad) fs.length cF)∧w'.cell? ⟨bm,1,none⟩=some (.slice AG gs.length cG)∧w'.cell? ⟨bm,2,none⟩=some (.bool mem)∧w'.cell? ⟨bm,3,none⟩=some (.int .i64 pg)∧w'.cell? ⟨bm,4,none⟩=some (.int .i64 mo)∧w'.cell? ⟨bm,5,none⟩=some (.int .i64 sta)∧w'.cell? ⟨bf,0,none⟩=some (.slice A0 f.f0.length d0)∧w'.cell? ⟨bf,1,none⟩=some (.int .i64 f.f1)∧w'.cell? ⟨bf,2,none⟩=some (.slice A2 f.f2.length d2)∧w'.cell? ⟨bf,3,none⟩=some (.slice A3 f.f3.length d3)) [] ⟨(blk_cell BM.out 0).trans rfl,(blk_cell BM.out 1).trans rfl,(blk_cell BM.out 2).trans rfl,(blk_cell BM.out 3).trans rfl,(blk_cell BM.out 4).trans rfl,(blk_cell BM.out 5).trans rfl,(blk_cell BF.out 0).trans rfl,(blk_cell BF.out 1).trans rfl,(blk_cell BF.out 2).trans rfl,(blk_cell BF.out 3).trans rfl⟩ spec_l7Check.tab2 spec_l7Check.bits2 (fun hHeld HT_ HW_=>?_)
   replace HB:=A_ (below_drew1 HB.out);replace BM:=A_ (blk_drew BM.out);replace BF:=A_ (blk_drew BF.out);generalize w3.drew=wx at*
   refine pS HT_ 3 19 ?_
   refine pS HT_ 6 22 ?_
   refine tS HT_ HW_ 0 16 hHeld ?_
   refine tS HT_ HW_ 1 17 hHeld ?_
   refine tS HT_ HW_ 4 20 hHeld ?_
   refine tS HT_ HW_ 7 23 hHeld ?_
   refine oS HT_ 2 (some 18) (fun K hK=>?_)
   refine Kd.R_lit_step (Kd.int .i64) w.heap.size 3 (by rfl) (N:=18) ?hd (xs:=([]:List Int)) (inner:=[]) (ok:=fun _=>True) (okp:=fun _=>False) ?hr (Reps.none _ _) (fun _ hk=>hk.elim) trivial HB.out HB.out.size (by simp) ?_;(case hd=>rfl);(case hr=>first|(go_simp;done)|(go_simp;rfl))
   intro va wa hv hb hg_ hn_
   have HV:=A_ hv;have m0:=A_ hb;have m1:=A_ (blk_grown BM.out hg_ (by simp));have m2:=A_ (blk_grown BF.out hg_ (by simp));clear HB BM BF hv hb hg_ hn_ hHeld;have HB:=m0;have BM:=m1;have BF:=m2;clear m0 m1 m2
   obtain⟨Ara,cra,era⟩:=Kd.R_slice HV.out;subst era
   refine hK.out _ _ ⟨(blk_cell BM.out 0).trans rfl,(blk_cell BM.out 1).trans rfl,(blk_cell BM.out 2).trans rfl,(blk_cell BM.out 3).trans rfl,(blk_cell BM.out 4).trans rfl,(blk_cell BM.out 5).trans rfl,(blk_cell BF.out 0).trans rfl,(blk_cell BF.out 1).trans rfl,(blk_cell BF.out 2).trans rfl,(blk_cell BF.out 3).trans rfl⟩ (fun hHeld=>?_)
   clear hK K
   refine nS (some 18) ?_
   refine oS HT_ 5 (some 21) (fun K hK=>?_)
   refine Kd.R_append_rows_step (Kd.int .i64) (Rr:=(Kd.int .i64).K w) w.heap.size (by rfl) (.tmp 18) (.tmp 20) 81 3 (.int .i64 0) 8 rfl Try.underlying81 info3 rfl (by decide) (by omega) (.slice Ara 0 cra) ([]:List Int) f.f0 A0 f.f0.length d0 (fun _=>True) (fun _=>False) rfl rfl HV.out (Kd.C_below R0.out HB.out) (fun _ _ h_=>h_) (fun _ hk=>hk.elim) (fun _ _=>trivial) HB.out HB.out.size (by have:=HSM.out;simp only[List.length_nil,List.length_append];omega) ?_
   intro vb wb hv hb hg_ hn_
   have NEM:=Kd.R_ne HV.out BM.out (by decide);have NEF:=Kd.R_ne HV.out BF.out (by decide)
   replace HV:=A_ hv;replace HB:=A_ hb;replace BM:=A_ (blk_grown BM.out hg_ NEM);replace BF:=A_ (blk_grown BF.out hg_ NEF);clear hv hb hg_ hn_ hHeld NEM NEF
   obtain⟨Arb,crb,erb⟩:=Kd.R_slice HV.out;subst erb
   refine hK.out _ _ ⟨(blk_cell BM.out 0).trans rfl,(blk_cell BM.out 1).trans rfl,(blk_cell BM.out 2).trans rfl,(blk_cell BM.out 3).trans rfl,(blk_cell BM.out 4).trans rfl,(blk_cell BM.out 5).trans rfl,(blk_cell BF.out 0).trans rfl,(blk_cell BF.out 1).trans rfl,(blk_cell BF.out 2).trans rfl,(blk_cell BF.out 3).trans rfl⟩ (fun hHeld=>?_)
   clear hK K
   refine nS (some 21) ?_
   refine oS HT_ 8 (some 24) (fun K hK=>?_)
   refine Kd.R_append_rows_step (Kd.int .i64) (Rr:=(Kd.int .i64).K w) w.heap.size (by rfl) (.tmp 21) (.tmp 23) 81 3 (.int .i64 0) 8 rfl Try.underlying81 info3 rfl (by decide) (by omega) (.slice Arb ([]++f.f0).length crb) ([]++f.f0) f.f2 A2 f.f2.length d2 (fun _=>True) (fun _=>False) rfl rfl HV.out (Kd.C_below R2.out HB.out) (fun _ _ h_=>h_) (fun _ hk=>hk.elim) (fun _ _=>trivial) HB.out HB.out.size (by have:=HSM.out;simp only[List.length_nil,List.length_append];omega) ?_
   intro vb wc hv hb hg_ hn_
   have NEM:=Kd.R_ne HV.out BM.out (by decide);have NEF:=Kd.R_ne HV.out BF.out (by decide)
   replace HV:=A_ hv;replace HB:=A_ hb;replace BM:=A_ (blk_grown BM.out hg_ NEM);replace BF:=A_ (blk_grown BF.out hg_ NEF);clear hv hb hg_ hn_ hHeld NEM NEF
   obtain⟨Arc,crc,erc⟩:=Kd.R_slice HV.out;subst erc
   refine hK.out _ _ ⟨(blk_cell BM.out 0).trans rfl,(blk_cell BM.out 1).trans rfl,(blk_cell BM.out 2).trans rfl,(blk_cell BM.out 3).trans rfl,(blk_cell BM.out 4).trans rfl,(blk_cell BM.out 5).trans rfl,(blk_cell BF.out 0).trans rfl,(blk_cell BF.out 1).trans rfl,(blk_cell BF.out 2).trans rfl,(blk_cell BF.out 3).trans rfl⟩ (fun hHeld=>?_)
   clear hK K
   refine nS (some 24) ?_
   refine pS HT_ 9 25 ?_
   refine oS HT_ 10 (some 26) (fun K hK=>?_)
   refine box_step (by rfl) (N:=26) ?hd (cs:=#[(.slice (some ad) fs.length cF),(.slice AG gs.length cG),(.bool mem),(.int .i64 pg),(.int .i64 mo),(.int .i64 sta),(.slice A0 f.f0.length d0),(.int .i64 f.f1),(.slice A2 f.f2.length d2),(.slice A3 f.f3.length d3),(.slice none 0 0),(.slice none 0 0),(.int .i64 0),(.int .i64 0),(.slice Arc ([]++f.f0++f.f2).length crc)]) (t:=114) ?hr ?_;(case hd=>rfl);(case hr=>first|(go_simp;done)|(go_simp;rfl))
   intro g hg wd hbox hb
   have hHeld2:Aside0 (wd.cell? ⟨bm,0,none⟩=some (.slice (some ad) fs.length cF)∧wd.cell? ⟨bm,1,none⟩=some (.slice AG gs.length cG)∧wd.cell? ⟨bm,2,none⟩=some (.bool mem)∧wd.cell? ⟨bm,3,none⟩=some (.int .i64 pg)∧wd.cell? ⟨bm,4,none⟩=some (.int .i64 mo)∧wd.cell? ⟨bm,5,none⟩=some (.int .i64 sta)∧wd.cell? ⟨bf,0,none⟩=some (.slice A0 f.f0.length d0)∧wd.cell? ⟨bf,1,none⟩=some (.int .i64 f.f1)∧wd.cell? ⟨bf,2,none⟩=some (.slice A2 f.f2.length d2)∧wd.cell? ⟨bf,3,none⟩=some (.slice A3 f.f3.length d3)):=⟨by obtain⟨s0_,s1_,s2_,s3_,s4_,s5_,s6_,s7_,s8_,s9_⟩:=hHeld;exact⟨cl_ hb s0_,cl_ hb s1_,cl_ hb s2_,cl_ hb s3_,cl_ hb s4_,cl_ hb s5_,cl_ hb s6_,cl_ hb s7_,cl_ hb s8_,cl_ hb s9_⟩⟩
   clear hHeld
   have BS:=A_ hbox;have HB3:=A_ hb;have GS:=A_ hg;clear hbox hb hg
   refine hK.out _ _ hHeld2.out (fun hHeld=>?_)
   clear hK K
   refine nS (some 26) ?_
   refine pS HT_ 11 8 ?_
   refine dS HT_ ?_
   obtain⟨q,hq⟩:∃ q:Nat→Value,q=fun i=>([(.slice (some ad) fs.length cF),(.slice AG gs.length cG),(.bool mem),(.int .i64 pg),(.int .i64 mo),(.int .i64 sta),(.slice A0 f.f0.length d0),(.int .i64 f.f1),(.slice A2 f.f2.length d2),(.slice A3 f.f3.length d3),(.slice none 0 0),(.slice none 0 0),(.int .i64 0),(.int .i64 0),(.slice Arc ([]++f.f0++f.f2).length crc)]:List Value).getD i undef:=⟨_,rfl⟩
   have hck:Cs wc wd g q ⟨[],[],0,0⟩ none 0 none 0:=⟨Nat.le_of_eq GS.out.symm,HB3.out,by rw[hq];exact BS.out,Kd.R_nil _ _ _ _ _,Kd.R_nil _ _ _ _ _⟩
   have HE:Aside0 (SEnv wc q fs gs mem f.f1 ([]++f.f0++f.f2)):=⟨some ad,cF,AG,cG,Arc,crc,by rw[hq];rfl,by rw[hq];rfl,by rw[hq];rfl,by rw[hq];rfl,by rw[hq];rfl,Kd.C_below RF.out HB.out,Kd.C_below RG.out HB.out,(Kd.R_reads' HV.out).2.2⟩
   have HO:Aside0 (Cs wc wd g q ⟨[],[],0,0⟩ none 0 none 0):=A_ hck
   have HK:=A_ (KeepBut.refl wd g none)
   have R3c:=A_ (Kd.C_below R3.out HB.out)
   have Y1:=A_ ((blk_cell BF.out 1).trans rfl:wc.cell? ⟨bf,1,none⟩=some (.int .i64 f.f1))
   have Y3:=A_ ((blk_cell BF.out 3).trans rfl:wc.cell? ⟨bf,3,none⟩=some (.slice A3 f.f3.length d3))
   clear hck hq hHeld hHeld2 BS HB3 GS HV BM BF
   have y1:=(HO.out.2.1.cell (World.block_lt_of_cell? wc _ Y1.out)).trans Y1.out
   go_upto_region 4 with (first|(go_at_call 56;refine(begin_any 2 f.f1 wc _ g q _ cs none 0 _ 0 HO.out HPS.out).mono ?_;rintro e w5 ⟨rfl,hE⟩;have HE_:=A_ hE;clear hE))
   have H0:=HE_.out
   clear HO HK y1 HE_
   obtain⟨A,n1,B,n2,hO⟩:=H0
   have HO:=A_ hO
   clear hO
   have y3:=(HO.out.2.1.cell (World.block_lt_of_cell? wc _ Y3.out)).trans Y3.out
   go_wp2
   clear y3
   go_loopg [34] f.f3.length (fun kq v34 w'=>∃ (j kk:Nat) (c:CS S131) (A:Option Addr) (n1:Nat) (B:Option Addr) (n2:Nat),kk=kq∧j+kk=f.f3.length∧v34=.int .i64 j∧Aside0 (runS fs gs mem f kk j c=some (a,b,d))∧Aside0 (Cs wc w' g q c A n1 B n2))
   case atStart=>exact⟨0,_,cs,A,n1,B,n2,rfl,by omega,rfl,HR,HO⟩
   case round=>
    clear HO HR
    obtain⟨j,kk,c,A,n1,B,n2,hkk,hjk,rfl,HR,HO⟩:=hrel
    have HKK:=A_ hkk
    clear hkk
    rcases Nat.eq_zero_or_pos kk with hk0|hk0
    ·
     subst hk0
     obtain rfl:j=f.f3.length:=by omega
     have hR':=HR.out
     rw[runS] at hR'
     simp only[Option.some.injEq,Prod.mk.injEq] at hR'
     obtain⟨rfl,rfl,rfl⟩:=hR'
     have c13f:=HO.out.cell13
     clear HR
     go_wp2
     go_quiet (fail)
     go_wp2
     go_ret3
     exact⟨rfl,below_weaken HB.out HB.out.size (HO.out.drewN _).2.1⟩
    obtain⟨km,rfl⟩:∃ km,kk=km+1:=⟨kk - 1,by omega⟩
    have hR':=HR.out
    rw[runS] at hR'
    obtain⟨c2,hs,hR'⟩:=Option.bind_eq_some_iff.1 hR'
    have HST:=A_ hs
    have hlt:j<f.f3.length:=by omega
    obtain⟨ad3,eA,x0_,x1_⟩:=at_T103 R3c.out (j:Int) (by omega) (by omega)
    subst eA
    rw[Int.toNat_natCast] at x0_ x1_
    replace x0_:=(HO.out.2.1.cell (World.block_lt_of_cell? wc _ x0_)).trans x0_
    replace x1_:=(HO.out.2.1.cell (World.block_lt_of_cell? wc _ x1_)).trans x1_
    have q5:((0:Int)≤(j:Int))=True:=eq_true (by omega)
    have q6:((j:Int)<(f.f3.length:Int))=True:=eq_true (by omega)
    have q7:decide ((j:Int)<(f.f3.length:Int))=true:=decide_eq_true (by omega)
    have q8:=decide_eq_true hlt
    have ew:IntKind.i64.wrap ((j:Int)+1)=((j+1:Nat):Int):=ck_w _ (by omega)
    clear HR hs hlt
    by_cases hz:c2.fa=0
    ·
     rw[if_pos hz] at hR'
     have HRn:=A_ hR'
     have bz:(c2.fa !=0)=false:=bne_eq_false_iff_eq.2 hz
     clear hR' hz
     go_upto_region 7 with (first|((with_reducible refine gd_ 10 rfl ?_);refine bx_ #[(.int .i64 0),(.int .i64 0)] 103 ?_;intro gx hg wx hbox hb;have BX:=A_ hbox;have NX:=A_ (HO.out.fresh_ne hg);have G0:=A_ (Nat.le_trans HO.out.2.1.size (Nat.le_of_eq hg.symm));replace HO:=A_ (HO.out.below hb);clear hbox hb hg;obtain⟨z0,z1⟩:=cp2_ BX.out;obtain⟨v0,v1⟩:=fz2_ BX.out))
     replace BX:Aside0 (((wx.setCell ⟨gx,0,none⟩ ((.int .i64 (rd_T103 f.f3 (j:Int)).f0))).setCell ⟨gx,1,none⟩ ((.int .i64 (rd_T103 f.f3 (j:Int)).f1))).heap[gx]? =some (.cells #[(.int .i64 (rd_T103 f.f3 (j:Int)).f0),(.int .i64 (rd_T103 f.f3 (j:Int)).f1)] 103 (0,0))):=⟨blk_put (cs:=#[(.int .i64 (rd_T103 f.f3 (j:Int)).f0),(.int .i64 0)]) (blk_put (cs:=#[(.int .i64 0),(.int .i64 0)]) (BX.out) 0 ((.int .i64 (rd_T103 f.f3 (j:Int)).f0)) rfl) 1 ((.int .i64 (rd_T103 f.f3 (j:Int)).f1)) rfl⟩;replace HO:Aside0 (Cs wc ((wx.setCell ⟨gx,0,none⟩ ((.int .i64 (rd_T103 f.f3 (j:Int)).f0))).setCell ⟨gx,1,none⟩ ((.int .i64 (rd_T103 f.f3 (j:Int)).f1))) g q _ A n1 B n2):=⟨Cs.other (Cs.other (HO.out) G0.out NX.out 0 ((.int .i64 (rd_T103 f.f3 (j:Int)).f0))) G0.out NX.out 1 ((.int .i64 (rd_T103 f.f3 (j:Int)).f1))⟩;clear z0 v0 z1 v1;generalize ((wx.setCell ⟨gx,0,none⟩ ((.int .i64 (rd_T103 f.f3 (j:Int)).f0))).setCell ⟨gx,1,none⟩ ((.int .i64 (rd_T103 f.f3 (j:Int)).f1)))=wy at*
     obtain⟨x0,x1⟩:=cp2_ BX.out
     go_wp2_with (first|(go_at_call 57;refine(ins_any (rd_T103 f.f3 (j:Int)) fs gs mem f.f1 ([]++f.f0++f.f2) wc _ g q _ c2 A n1 B n2 HO.out HE.out HST.out).mono ?_;rintro e wz ⟨rfl,hE⟩;have HF_:=A_ hE;clear HO BX x0 x1 hE;obtain⟨A',n1',B',n2',hO⟩:=HF_.out;have HO:=A_ hO;have c12f:=HO.out.cell12;clear hO))
     go_roundg km
     case measure=>have:=HKK.out;omega
     case rel=>exact⟨j+1,km,c2,A',n1',B',n2',rfl,by omega,by first|rfl|(rw[ew]),HRn,HO⟩
    rw[if_neg hz] at hR'
    simp only[Option.some.injEq,Prod.mk.injEq] at hR'
    obtain⟨rfl,rfl,rfl⟩:=hR'
    have bz:(c2.fa !=0)=true:=bne_iff_ne.2 hz
    clear hz
    go_upto_region 7 with (first|((with_reducible refine gd_ 10 rfl ?_);refine bx_ #[(.int .i64 0),(.int .i64 0)] 103 ?_;intro gx hg wx hbox hb;have BX:=A_ hbox;have NX:=A_ (HO.out.fresh_ne hg);have G0:=A_ (Nat.le_trans HO.out.2.1.size (Nat.le_of_eq hg.symm));replace HO:=A_ (HO.out.below hb);clear hbox hb hg;obtain⟨z0,z1⟩:=cp2_ BX.out;obtain⟨v0,v1⟩:=fz2_ BX.out))
    replace BX:Aside0 (((wx.setCell ⟨gx,0,none⟩ ((.int .i64 (rd_T103 f.f3 (j:Int)).f0))).setCell ⟨gx,1,none⟩ ((.int .i64 (rd_T103 f.f3 (j:Int)).f1))).heap[gx]? =some (.cells #[(.int .i64 (rd_T103 f.f3 (j:Int)).f0),(.int .i64 (rd_T103 f.f3 (j:Int)).f1)] 103 (0,0))):=⟨blk_put (cs:=#[(.int .i64 (rd_T103 f.f3 (j:Int)).f0),(.int .i64 0)]) (blk_put (cs:=#[(.int .i64 0),(.int .i64 0)]) (BX.out) 0 ((.int .i64 (rd_T103 f.f3 (j:Int)).f0)) rfl) 1 ((.int .i64 (rd_T103 f.f3 (j:Int)).f1)) rfl⟩;replace HO:Aside0 (Cs wc ((wx.setCell ⟨gx,0,none⟩ ((.int .i64 (rd_T103 f.f3 (j:Int)).f0))).setCell ⟨gx,1,none⟩ ((.int .i64 (rd_T103 f.f3 (j:Int)).f1))) g q _ A n1 B n2):=⟨Cs.other (Cs.other (HO.out) G0.out NX.out 0 ((.int .i64 (rd_T103 f.f3 (j:Int)).f0))) G0.out NX.out 1 ((.int .i64 (rd_T103 f.f3 (j:Int)).f1))⟩;clear z0 v0 z1 v1;generalize ((wx.setCell ⟨gx,0,none⟩ ((.int .i64 (rd_T103 f.f3 (j:Int)).f0))).setCell ⟨gx,1,none⟩ ((.int .i64 (rd_T103 f.f3 (j:Int)).f1)))=wy at*
    obtain⟨x0,x1⟩:=cp2_ BX.out
    go_wp2_with (first|(go_at_call 57;refine(ins_any (rd_T103 f.f3 (j:Int)) fs gs mem f.f1 ([]++f.f0++f.f2) wc _ g q _ c2 A n1 B n2 HO.out HE.out HST.out).mono ?_;rintro e wz ⟨rfl,hE⟩;have HF_:=A_ hE;clear HO BX x0 x1 hE;obtain⟨A',n1',B',n2',hO⟩:=HF_.out;have HO:=A_ hO;have c12f:=HO.out.cell12;clear hO))
    go_ret3
    exact⟨rfl,below_weaken HB.out HB.out.size HO.out.2.1⟩
  rw[if_neg hsm] at hr;cases hr
 rw[if_neg hk] at hr;cases hr
def spec_l7Check.f (l0_0:List S88) (l0_1:List S75) (a0_2:Bool) (a0_3 a0_4 a0_5:Int) (a1:Int):Option (Int × Int × Int):=checkS l0_0 l0_1 a0_2 a1
theorem spec_l7Check.calls (A0_0:Option Addr) (c0_0:Nat) (l0_0:List S88) (A0_1:Option Addr) (c0_1:Nat) (l0_1:List S75) (a0_2:Bool) (a0_3 a0_4 a0_5:Int) (a1:Int) (r1 r2 r3:Int) (w:World) (hr0_0:Kd.C k88 w A0_0 l0_0.length l0_0) (hc0_0:l0_0.length≤c0_0) (hr0_1:Kd.C k75 w A0_1 l0_1.length l0_1) (hc0_1:l0_1.length≤c0_1) (h:spec_l7Check.f l0_0 l0_1 a0_2 a0_3 a0_4 a0_5 a1=some (r1,r2,r3)):
  Calls Try.prog 39 #[.agg #[.slice A0_0 l0_0.length c0_0,.slice A0_1 l0_1.length c0_1,.bool a0_2,.int .i64 a0_3,.int .i64 a0_4,.int .i64 a0_5],.int .i64 a1] w fun e w'=>e=.returned (.tuple #[.int .i64 r1,.int .i64 r2,.int .i64 r3])∧Below w.heap.size w w':=
 scheck_any l0_0 l0_1 a0_2 a0_3 a0_4 a0_5 a1 A0_0 c0_0 A0_1 c0_1 r1 r2 r3 w hr0_0 hr0_1 h

/-! ### spec_CheckModule: function 22 -/
def spec_CheckModule.l0:Nat→Int→Int→List (S88)→List (S75)→Bool→Int→Int→Int→Option (Int × Int × Int)
 |0,_,_,_,_,_,_,_,_=>none
 |k+1,x14,x15,x201000,x201001,x201002,x201003,x201004,x201005=>if x15<x14 then ((spec_l7Check.f x201000 x201001 x201002 x201003 x201004 x201005 x15).bind fun bt202=>(if bt202.1=0 then (spec_CheckModule.l0 k x14 (wrap64 (x15+1)) x201000 x201001 x201002 x201003 x201004 x201005) else (some (bt202.1,x15,bt202.2.1)))) else (some (0,0,0))
def spec_CheckModule.f (k:Nat) (l0_0:List (S88)) (l0_1:List (S75)) (a0_2:Bool) (a0_3:Int) (a0_4:Int) (a0_5:Int):Option (Int × Int × Int):=(spec_GoodShape.f k l0_0 l0_1 a0_2 a0_3 a0_4 a0_5).bind fun t201=>(if t201=true then (spec_CheckModule.l0 k (l0_0.length:Int) 0 l0_0 l0_1 a0_2 a0_3 a0_4 a0_5) else (some (1,0,0)))
theorem spec_CheckModule.calls (k:Nat) (A0_0:Option Addr) (c0_0:Nat) (l0_0:List (S88)) (A0_1:Option Addr) (c0_1:Nat) (l0_1:List (S75)) (a0_2:Bool) (a0_3:Int) (a0_4:Int) (a0_5:Int) (r1:Int) (r2:Int) (r3:Int) (w:World) (hr0_0:Kd.C k88 w A0_0 l0_0.length l0_0) (hc0_0:l0_0.length≤c0_0) (hr0_1:Kd.C k75 w A0_1 l0_1.length l0_1) (hc0_1:l0_1.length≤c0_1) (h:spec_CheckModule.f k l0_0 l0_1 a0_2 a0_3 a0_4 a0_5=some (r1,r2,r3)):
  Calls Try.prog 22 #[.agg #[.slice A0_0 l0_0.length c0_0,.slice A0_1 l0_1.length c0_1,.bool a0_2,.int .i64 a0_3,.int .i64 a0_4,.int .i64 a0_5]] w fun e w'=>e=.returned (.tuple #[.int .i64 r1,.int .i64 r2,.int .i64 r3])∧Below w.heap.size w w':=by
 have hu38:=Try.underlying38
 have HR0_0:=A_ hr0_0
 have HC0_0:=A_ hc0_0
 clear hr0_0 hc0_0
 have HR0_1:=A_ hr0_1
 have HC0_1:=A_ hc0_1
 clear hr0_1 hc0_1
 have HB:=A_ (Below.refl w.heap.size w)
 have H:((spec_GoodShape.f k l0_0 l0_1 a0_2 a0_3 a0_4 a0_5).bind fun t201=>(if t201=true then (spec_CheckModule.l0 k (l0_0.length:Int) 0 l0_0 l0_1 a0_2 a0_3 a0_4 a0_5) else (some (1,0,0))))=some (r1,r2,r3):=h
 clear h
 replace H:=bA_ H
 obtain⟨t201,A2,H⟩:=H
 revert H
 refine iB_ (fun c3 H=>?_) (fun c3 H=>?_)<;>subst c3
 ·
  have H':=A_ H
  clear H
  go_enter Try.func22,Try.ntmps22
  go_wp2_with (first|((with_reducible refine gd_ 1 rfl ?_);refine bx_ #[.slice A0_0 l0_0.length c0_0,.slice A0_1 l0_1.length c0_1,.bool a0_2,.int .i64 a0_3,.int .i64 a0_4,.int .i64 a0_5] 38 ?_;intro gb200 hg w4 hbox hb;have BK200:=A_ hbox;have GW200:=gw_ hg HB;have GE200:=GW200;replace HB:=bs_ HB hb;clear hb hbox hg;obtain⟨hcz5_0,hcz5_1,hcz5_2,hcz5_3,hcz5_4,hcz5_5⟩:=cs6_ BK200.out;obtain⟨hfz5_0,hfz5_1,hfz5_2,hfz5_3,hfz5_4,hfz5_5⟩:=fz6_ BK200.out)|((with_reducible refine gc_ 38 rfl ?_);refine gm_ (some 10) Try.func38 (spec_GoodShape.calls k _ _ l0_0 _ _ l0_1 a0_2 a0_3 a0_4 a0_5 true _ (cb_ HR0_0 HB) HC0_0.out (cb_ HR0_1 HB) HC0_1.out A2.out) ?_;intro w6 hb;replace BK200:=kb_ BK200 hb;replace HB:=bs_ HB hb;(try clear hb);obtain⟨hcz7_0,hcz7_1,hcz7_2,hcz7_3,hcz7_4,hcz7_5⟩:=cs6_ BK200.out;obtain⟨hfz7_0,hfz7_1,hfz7_2,hfz7_3,hfz7_4,hfz7_5⟩:=fz6_ BK200.out))
  (try simp only[Act.put,List.setIfInBounds_toArray,List.set_cons_zero,List.set_cons_succ])
  go_loopg [15] k (fun kq v15 w'=>∃ (x15_1:Int),v15=.int .i64 x15_1∧Aside0 (spec_CheckModule.l0 kq (l0_0.length:Int) x15_1 l0_0 l0_1 a0_2 a0_3 a0_4 a0_5=some (r1,r2,r3))∧Aside0 (kq≤k)∧Aside0 (w'.heap[gb200]? =some (.cells #[(.slice A0_0 l0_0.length c0_0),(.slice A0_1 l0_1.length c0_1),.bool a0_2,.int .i64 a0_3,.int .i64 a0_4,.int .i64 a0_5] 38 (0,0)))∧Aside0 (Below w.heap.size w w'))
  case atStart=>exact⟨(0),rs_,H',⟨Nat.le_refl _⟩,⟨bk BK200.out⟩,⟨bw HB.out⟩⟩
  case round=>
   clear H'
   try clear c3 hcz5_0 hcz5_1 hcz5_2 hcz5_3 hcz5_4 hcz5_5 hcz7_0 hcz7_1 hcz7_2 hcz7_3 hcz7_4 hcz7_5 hfz5_0 hfz5_1 hfz5_2 hfz5_3 hfz5_4 hfz5_5 hfz7_0 hfz7_1 hfz7_2 hfz7_3 hfz7_4 hfz7_5
   obtain⟨x15_1,rfl,HA,HK1,BK200,HB⟩:=hrel
   cases gk with
   |zero=>exact absurd HA.out (by simp[spec_CheckModule.l0])
   |succ k1=>
    have H:=HA.out
    clear HA
    simp only[spec_CheckModule.l0] at H
    revert H
    refine iL_ (fun c8b0 H=>?_) (fun c8b0 H=>?_)
    ·
     replace H:=Option.bind_eq_some_iff.mp H
     obtain⟨⟨t202,t203,t204⟩,A90,H⟩:=H
     try dsimp only at H
     have A9:=A_ A90
     clear A90
     revert H
     refine iE_ (fun c10b0 c10b1 H=>?_) (fun c10 c10b0 c10b1 H=>?_)
     ·
      have H':=A_ H
      clear H
      obtain⟨hcz11_0,hcz11_1,hcz11_2,hcz11_3,hcz11_4,hcz11_5⟩:=cs6_ BK200.out
      obtain⟨hfz11_0,hfz11_1,hfz11_2,hfz11_3,hfz11_4,hfz11_5⟩:=fz6_ BK200.out
      go_wp2_with (first|((with_reducible refine gc_ 39 rfl ?_);refine gm_ (some 21) Try.func39 (spec_l7Check.calls _ _ l0_0 _ _ l0_1 a0_2 a0_3 a0_4 a0_5 x15_1 t202 t203 t204 _ (cb_ HR0_0 HB) HC0_0.out (cb_ HR0_1 HB) HC0_1.out A9.out) ?_;intro w12 hb;replace BK200:=kb_ BK200 hb;replace HB:=bs_ HB hb;(try clear hb)))
      go_roundg k1
      case measure=>have:=HK1.out;omega
      case rel=>exact⟨(wrap64 (x15_1+1)),rs_,H',⟨by have:=HK1.out;omega⟩,⟨bk BK200.out⟩,⟨bw HB.out⟩⟩
     simp only[Option.some.injEq,Prod.mk.injEq] at H
     obtain⟨rfl,rfl,rfl⟩:=H
     obtain⟨hcz13_0,hcz13_1,hcz13_2,hcz13_3,hcz13_4,hcz13_5⟩:=cs6_ BK200.out
     obtain⟨hfz13_0,hfz13_1,hfz13_2,hfz13_3,hfz13_4,hfz13_5⟩:=fz6_ BK200.out
     go_wp2_with (first|((with_reducible refine gc_ 39 rfl ?_);refine gm_ (some 21) Try.func39 (spec_l7Check.calls _ _ l0_0 _ _ l0_1 a0_2 a0_3 a0_4 a0_5 x15_1 t202 t203 t204 _ (cb_ HR0_0 HB) HC0_0.out (cb_ HR0_1 HB) HC0_1.out A9.out) ?_;intro w14 hb;replace BK200:=kb_ BK200 hb;replace HB:=bs_ HB hb;(try clear hb)))
     go_ret3
     exact⟨rr_,bw HB.out⟩
    simp only[Option.some.injEq,Prod.mk.injEq] at H
    obtain⟨rfl,rfl,rfl⟩:=H
    go_wp2
    go_ret3
    exact⟨rr_,bw HB.out⟩
 simp only[Option.some.injEq,Prod.mk.injEq] at H
 obtain⟨rfl,rfl,rfl⟩:=H
 go_enter Try.func22,Try.ntmps22
 go_wp2_with (first|((with_reducible refine gd_ 1 rfl ?_);refine bx_ #[.slice A0_0 l0_0.length c0_0,.slice A0_1 l0_1.length c0_1,.bool a0_2,.int .i64 a0_3,.int .i64 a0_4,.int .i64 a0_5] 38 ?_;intro gb200 hg w15 hbox hb;have BK200:=A_ hbox;have GW200:=gw_ hg HB;have GE200:=GW200;replace HB:=bs_ HB hb;clear hb hbox hg;obtain⟨hcz16_0,hcz16_1,hcz16_2,hcz16_3,hcz16_4,hcz16_5⟩:=cs6_ BK200.out;obtain⟨hfz16_0,hfz16_1,hfz16_2,hfz16_3,hfz16_4,hfz16_5⟩:=fz6_ BK200.out)|((with_reducible refine gc_ 38 rfl ?_);refine gm_ (some 10) Try.func38 (spec_GoodShape.calls k _ _ l0_0 _ _ l0_1 a0_2 a0_3 a0_4 a0_5 false _ (cb_ HR0_0 HB) HC0_0.out (cb_ HR0_1 HB) HC0_1.out A2.out) ?_;intro w17 hb;replace BK200:=kb_ BK200 hb;replace HB:=bs_ HB hb;(try clear hb)))
 go_ret3
 exact⟨rr_,bw HB.out⟩

/-! ### spec_l8Word: function 40 -/
def spec_l8Word.f (a0_0:Int) (a0_1:Int):Option (Bool):=(spec_l6Type.f a0_0).bind fun t206=>(if t206=true then (if a0_0=126 then (some true) else (some (decide (a0_1≤4294967295)))) else (some false))
theorem spec_l8Word.calls (a0_0:Int) (a0_1:Int) (r:Bool) (w:World) (h:spec_l8Word.f a0_0 a0_1=some r):
  Calls Try.prog 40 #[.agg #[.int .i64 a0_0,.int .u64 a0_1]] w fun e w'=>e=.returned (.bool r)∧Below w.heap.size w w':=by
 have hu72:=Try.underlying72
 have HB:=A_ (Below.refl w.heap.size w)
 have H:((spec_l6Type.f a0_0).bind fun t206=>(if t206=true then (if a0_0=126 then (some true) else (some (decide (a0_1≤4294967295)))) else (some false)))=some r:=h
 clear h
 replace H:=bA_ H
 obtain⟨t206,A2,H⟩:=H
 revert H
 refine iB_ (fun c3 H=>?_) (fun c3 H=>?_)<;>subst c3
 revert H
 refine iE_ (fun c4b0 c4b1 H=>?_) (fun c4 c4b0 c4b1 H=>?_)
 all_goals
  obtain rfl:=Option.some.inj H
  clear H
  go_enter Try.func40,Try.ntmps40
  go_wp2_with (first|((with_reducible refine gd_ 1 rfl ?_);refine bx_ #[.int .i64 a0_0,.int .u64 a0_1] 72 ?_;intro gb205 hg w5 hbox hb;have BK205:=A_ hbox;have GW205:=gw_ hg HB;have GE205:=GW205;replace HB:=bs_ HB hb;clear hb hbox hg;obtain⟨hcz6_0,hcz6_1⟩:=cs2_ BK205.out;obtain⟨hfz6_0,hfz6_1⟩:=fz2_ BK205.out)|((with_reducible refine gc_ 55 rfl ?_);refine gn_ (some 5) Try.func55 (spec_l6Type.calls a0_0 true _ A2.out) ?_;intro nd)|((with_reducible refine gc_ 55 rfl ?_);refine gn_ (some 5) Try.func55 (spec_l6Type.calls a0_0 false _ A2.out) ?_;intro nd))
  go_ret
  exact⟨rr_,bw HB.out⟩

/-! ### spec_GoodMemory: function 41 -/
def spec_GoodMemory.f (a0_0:Int) (a0_1:ByteArray):Option (Bool):=(spec_l1In.f a0_0 0 8).bind fun t208=>(if t208=true then (if ((a0_1.size:Int) % 256)=0 then (some (decide ((a0_1.size:Int)≤(wrap64 (a0_0*256))))) else (some false)) else (some false))
theorem spec_GoodMemory.calls (a0_0:Int) (a0_1:ByteArray) (r:Bool) (w:World) (h:spec_GoodMemory.f a0_0 a0_1=some r):
  Calls Try.prog 41 #[.agg #[.int .i64 a0_0,.string a0_1]] w fun e w'=>e=.returned (.bool r)∧Below w.heap.size w w':=by
 have hu39:=Try.underlying39
 have HB:=A_ (Below.refl w.heap.size w)
 have H:((spec_l1In.f a0_0 0 8).bind fun t208=>(if t208=true then (if ((a0_1.size:Int) % 256)=0 then (some (decide ((a0_1.size:Int)≤(wrap64 (a0_0*256))))) else (some false)) else (some false)))=some r:=h
 clear h
 replace H:=bA_ H
 obtain⟨t208,A2,H⟩:=H
 revert H
 refine iB_ (fun c3 H=>?_) (fun c3 H=>?_)<;>subst c3
 revert H
 refine iE_ (fun c4b0 c4b1 H=>?_) (fun c4 c4b0 c4b1 H=>?_)
 all_goals
  obtain rfl:=Option.some.inj H
  clear H
  go_enter Try.func41,Try.ntmps41
  go_wp2_with (first|((with_reducible refine gd_ 1 rfl ?_);(try (refine gate_guard (by rfl) ?_;dsimp only));refine bx_ #[.int .i64 a0_0,.string a0_1] 39 ?_;intro gb207 hg w5 hbox hb;have BK207:=A_ hbox;have GW207:=gw_ hg HB;have GE207:=GW207;replace HB:=bs_ HB hb;clear hb hbox hg;obtain⟨hcz6_0,hcz6_1⟩:=cs2_ BK207.out;obtain⟨hfz6_0,hfz6_1⟩:=fz2_ BK207.out)|((with_reducible refine gc_ 24 rfl ?_);refine gn_ (some 5) Try.func24 (spec_l1In.calls a0_0 0 8 true _ A2.out) ?_;intro nd)|((with_reducible refine gc_ 24 rfl ?_);refine gn_ (some 5) Try.func24 (spec_l1In.calls a0_0 0 8 false _ A2.out) ?_;intro nd))
  go_ret
  exact⟨rr_,bw HB.out⟩
end Go.Proofs.Ytanhbfhmgmjdgaa.Q

