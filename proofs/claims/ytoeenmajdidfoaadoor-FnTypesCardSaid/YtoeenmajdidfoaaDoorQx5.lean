-- Written by a program of this session; it walks the functions that the law reaches.
import Derived.Test.YtoeenmajdidfoaaDoorQx0
import Derived.Test.YtoeenmajdidfoaaDoorQx1
import Derived.Test.YtoeenmajdidfoaaDoorQx3
import Derived.Test.YtoeenmajdidfoaaDoorQx4
namespace Go.Proofs.YtoeenmajdidfoaaDoor.Q
open Go.RowKit Go.Proofs.YtoeenmajdidfoaaDoorW.PrintWords Go.Proofs.YtoeenmajdidfoaaDoorW.PrintLast Go.Proofs.YtoeenmajdidfoaaDoorW.PrintMore
attribute [local go_sem] max2_int min2_int max_two min_two max_three min_three max_four min_four   -- for this text's walks alone
set_option linter.unusedVariables false
set_option linter.unusedSimpArgs false


/-! ### impl_shapeOf: function 11 (walked by hand) -/
theorem info62:(Tryd.prog.info? 62).map (fun i=>(i.zero,i.size,i.bytes))=some (some (.agg #[(.int .i64 0),(.int .i64 0),(.slice none 0 0)]),3,40):=by kernel_rfl
theorem info35:(Tryd.prog.info? 35).map (fun i=>(i.zero,i.size,i.bytes))=some (some (.pointer none),1,8):=by kernel_rfl
/-- Pointers into the row of shapes that lies in block g, by their numbers. -/
def kE (g:Nat):Kd Int:=Kd.scalar (fun k=>Value.pointer (some ⟨g,k.toNat*3,none⟩)) (fun _=>rfl)
/-! #### the shapes' own -/
structure S62 where
 f0:Int
 f1:Int
 f2:(List Int)
def z62:S62:=⟨(0:Int),(0:Int),([]:List Int)⟩
def k62 (g:Nat):Kd S62:=Kd.iso (Kd.pair (Kd.int .i64) (Kd.pair (Kd.int .i64) (Kd.slice 35 (kE g)))) (fun x:S62=>(x.f0,x.f1,x.f2))
theorem k62_open {g:Nat} {w:World} {x:S62} {cs:List Value} (h:(k62 g).K w x cs):∃ A2 c2,cs=[.int .i64 x.f0,.int .i64 x.f1,.slice A2 x.f2.length c2]∧x.f2.length≤c2∧(kE g).C w A2 x.f2.length x.f2:=by
 obtain⟨_,_,rfl,rfl,⟨_,_,rfl,rfl,⟨A2,c2,rfl,l2,g2⟩⟩⟩:=h
 exact⟨A2,c2,rfl,l2,g2⟩
theorem k62_openM {g:Nat} {w:World} {base:Nat} {ok:Nat→Prop} {x:S62} {cs:List Value} (h:(k62 g).M w base ok x cs):∃ v2,cs=[.int .i64 x.f0,.int .i64 x.f1,v2]∧(kE g).R 35 w base ok v2 x.f2:=by
 obtain⟨_,_,rfl,rfl,⟨_,_,rfl,rfl,⟨v2,rfl,g2⟩⟩⟩:=h
 exact⟨v2,rfl,g2⟩
theorem k62_mk {g:Nat} (w:World) (x:S62) {A2:Option Addr} {c2:Nat} (l2:x.f2.length≤c2) (g2:(kE g).C w A2 x.f2.length x.f2):(k62 g).K w x [.int .i64 x.f0,.int .i64 x.f1,.slice A2 x.f2.length c2]:=⟨[.int .i64 x.f0],[.int .i64 x.f1,.slice A2 x.f2.length c2],rfl,rfl,⟨[.int .i64 x.f1],[.slice A2 x.f2.length c2],rfl,rfl,⟨A2,c2,rfl,l2,g2⟩⟩⟩
theorem k62_mkM {g:Nat} (w:World) (base:Nat) (ok:Nat→Prop) (x:S62) {v2:Value} (g2:(kE g).R 35 w base ok v2 x.f2):(k62 g).M w base ok x [.int .i64 x.f0,.int .i64 x.f1,v2]:=⟨[.int .i64 x.f0],[.int .i64 x.f1,v2],rfl,rfl,⟨[.int .i64 x.f1],[v2],rfl,rfl,⟨v2,rfl,g2⟩⟩⟩
def rd_T62 (xs:List S62) (i:Int):S62:=xs.getD i.toNat z62
theorem at_T62 {g:Nat} {w:World} {A:Option Addr} {n:Nat} {xs:List S62} (h:Kd.C (k62 g) w A n xs) (i:Int) (h0:0≤i) (h1:i<n):∃ ad A2 c2,A=some ad∧w.cell? (ad.add (i.toNat*3))=some (.int .i64 (rd_T62 xs i).f0)∧w.cell? ⟨(ad.add (i.toNat*3)).block,(ad.add (i.toNat*3)).off+1,none⟩=some (.int .i64 (rd_T62 xs i).f1)∧w.cell? ⟨(ad.add (i.toNat*3)).block,(ad.add (i.toNat*3)).off+2,none⟩=some (.slice A2 (rd_T62 xs i).f2.length c2)∧(rd_T62 xs i).f2.length≤c2∧(kE g).C w A2 (rd_T62 xs i).f2.length (rd_T62 xs i).f2:=by
 obtain⟨ad,c,e,_,hK,hc0⟩:=Kd.C_get h z62 i h0 h1
 have hc:∀ j u,c[j]? =some u→w.cell? (ad.add (i.toNat*3+j))=some u:=hc0
 obtain⟨A2,c2,rfl,l2,g2⟩:=k62_open hK
 exact⟨ad,A2,c2,e,hc 0 _ rfl,by rw[←add_field _ _ 1 (by omega)];exact hc 1 _ rfl,by rw[←add_field _ _ 2 (by omega)];exact hc 2 _ rfl,l2,g2⟩
theorem S_base {g:Nat} {w:World} {base:Nat} {ok:Nat→Prop} {v:Value} {xs:List S62} (h:Kd.S (k62 g) 62 w base ok v xs):∃ gA,∀ a n c,v=.slice (some a) n c→a=⟨gA,0,none⟩:=by
 obtain⟨inner,ho⟩:=Kd.S_own h
 rcases ho.2 with ⟨rfl,_⟩|⟨g,cap,cur,rfl,_⟩
 ·
  exact⟨0,fun a n c e=>by cases e⟩
 exact⟨g,fun a n c e=>by cases e;rfl⟩
theorem S_conv {g g' n:Nat} {w:World} {base:Nat} {ok:Nat→Prop} {v:Value} (h:Kd.S (k62 g) 62 w base ok v (List.replicate n z62)):Kd.S (k62 g') 62 w base ok v (List.replicate n z62):=by
 obtain⟨f,h0,inner,ho,hr⟩:=h
 refine⟨f,h0,inner,ho,hr.1,fun j p hj=>?_⟩
 have hm:=hr.2 j p hj
 have hp:p.1=z62:=by
  obtain⟨x,i⟩:=p
  have hx:=List.mem_of_getElem? hj
  rw[List.mem_zipIdx_iff_getElem?] at hx
  exact(List.mem_replicate.1 (List.mem_of_getElem? hx)).2
 obtain⟨v2,he,h0',inner',ho',hr'⟩:=k62_openM hm
 refine he▸k62_mkM (g:=g') _ _ _ p.1 ⟨h0',inner',ho',hr'.1,fun j q hq=>?_⟩
 rw[hp] at hq
 cases hq
theorem k62_ne {g t:Nat} (h:(t==62 ||t==35)=false):∀ q,q∈62 ::(k62 g).E→q≠t:=by
 intro q hq
 have hE:(k62 g).E=[35]:=rfl
 rw[hE] at hq
 simp only[List.mem_cons,List.not_mem_nil,or_false] at hq
 rcases hq with rfl|rfl<;>(rintro rfl;simp at h)
theorem kE_ne {g t:Nat} (h:(t==35)=false):∀ q,q∈35 ::(kE g).E→q≠t:=by
 intro q hq
 have hE:(kE g).E=[]:=rfl
 rw[hE] at hq
 simp only[List.mem_cons,List.not_mem_nil,or_false] at hq
 subst hq
 rintro rfl
 simp at h
def ShPost (w:World) (r1:List S62) (r2:Bool) (e:Ending) (w':World):Prop:=
 if r2=true then ∃ g cap,e=.returned (.tuple #[.pointer (some ⟨g,0,none⟩),.bool true])∧Kd.S (k62 g) 62 w' w.heap.size (fun _=>True) (.slice (some ⟨g,0,none⟩) r1.length cap) r1∧Below w.heap.size w w'
 else e=.returned (.tuple #[.pointer none,.bool false])∧Below w.heap.size w w'
theorem ShPost.no {w:World} {r1:List S62} {e:Ending} {w':World} (h:e=.returned (.tuple #[.pointer none,.bool false])) (hb:Below w.heap.size w w'):ShPost w r1 false e w':=by
 unfold ShPost;rw[if_neg (by decide)];exact⟨h,hb⟩
theorem ShPost.yes {w:World} {r1:List S62} {e:Ending} {w':World} {g cap:Nat} (h:e=.returned (.tuple #[.pointer (some ⟨g,0,none⟩),.bool true])) (hs:Kd.S (k62 g) 62 w' w.heap.size (fun _=>True) (.slice (some ⟨g,0,none⟩) r1.length cap) r1) (hb:Below w.heap.size w w'):ShPost w r1 true e w':=by
 unfold ShPost;rw[if_pos rfl];exact⟨g,cap,h,hs,hb⟩
/-! ### impl_shapeT: function 6 -/
mutual
def impl_shapeT.j0:Nat→List (S33)→Bool→Option ((List (S62)) × Bool)
 |0,_,_=>none
 |k+1,x0,x22=>if x22=true then (some (([]:List (S62)),false)) else (if 0≤(x0.length:Int) then (if ((x0.length:Int):Int).toNat≤35184372088832 then (impl_shapeT.l0 k x0 (List.replicate ((x0.length:Int):Int).toNat 0) x0 (x0.length:Int) 0) else (none)) else (none))
def impl_shapeT.l0:Nat→List (S33)→List Int→List (S33)→Int→Int→Option ((List (S62)) × Bool)
 |0,_,_,_,_,_=>none
 |k+1,x0,x4,x26,x27,x28=>if x28<x27 then (if 0≤x28 then (if x28<(x26.length:Int) then (if x28<(x4.length:Int) then (impl_shapeT.l0 k x0 (x4.set (x28:Int).toNat ((rd_T33 x26 x28).f2)) x26 x27 (wrap64 (x28+1))) else (none)) else (none)) else (none)) else ((impl_kin.f k x4).bind fun bt134=>(if bt134.2=true then (if 0≤(x0.length:Int) then (if ((x0.length:Int):Int).toNat≤7036874417766 then (if ((x0.length:Int):Int).toNat≤35184372088832 then (impl_shapeT.l1 k bt134.1 (List.replicate ((x0.length:Int):Int).toNat z62) (List.replicate ((x0.length:Int):Int).toNat 0) x0 (x0.length:Int) 0) else (none)) else (none)) else (none)) else (some (([]:List (S62)),false))))
def impl_shapeT.l1:Nat→List (List Int)→List (S62)→List Int→List (S33)→Int→Int→Option ((List (S62)) × Bool)
 |0,_,_,_,_,_,_=>none
 |k+1,x7,x9,x10,x52,x53,x54=>if x54<x53 then (if 0≤x54 then (if x54<(x52.length:Int) then (if x54<(x10.length:Int) then ((some (x10.set (x54:Int).toNat 1:List Int)).bind fun y146=>(if x54 > 0 then (if 0≤((rd_T33 x52 x54).f2) then (if ((rd_T33 x52 x54).f2)<(x10.length:Int) then (impl_shapeT.j3 k x7 x9 (y146.set (x54:Int).toNat (wrap64 ((rd y146 ((rd_T33 x52 x54).f2))+1))) x54 x52 x53 x54 ((rd_T33 x52 x54).f0) ((rd_T33 x52 x54).f1) ((rd_T33 x52 x54).f2)) else (none)) else (none)) else (impl_shapeT.j3 k x7 x9 y146 x54 x52 x53 x54 ((rd_T33 x52 x54).f0) ((rd_T33 x52 x54).f1) ((rd_T33 x52 x54).f2)))) else (none)) else (none)) else (none)) else (if 0<x9.length then (some (x9,true)) else (none))
def impl_shapeT.j3:Nat→List (List Int)→List (S62)→List Int→Int→List (S33)→Int→Int→Int→Int→Int→Option ((List (S62)) × Bool)
 |0,_,_,_,_,_,_,_,_,_,_=>none
 |k+1,x7,x9,x10,x11,x52,x53,x54,x146000,x146001,x146002=>if 0≤x11 then (if x11<(x10.length:Int) then (if (rd x10 x11) > 8 then (impl_shapeT.j4 k x7 x9 x10 x11 x52 x53 x54 true x146000 x146001 x146002) else (if x11<(x7.length:Int) then ((impl_nodeOk.f k x146000 x146001 x146002 ((rd_L4 x7 x11).length:Int)).bind fun t151=>(impl_shapeT.j4 k x7 x9 x10 x11 x52 x53 x54 (!t151) x146000 x146001 x146002)) else (none))) else (none)) else (none)
def impl_shapeT.j4:Nat→List (List Int)→List (S62)→List Int→Int→List (S33)→Int→Int→Bool→Int→Int→Int→Option ((List (S62)) × Bool)
 |0,_,_,_,_,_,_,_,_,_,_,_=>none
 |k+1,x7,x9,x10,x11,x52,x53,x54,x87,x146000,x146001,x146002=>if x87=true then (some (([]:List (S62)),false)) else (if 0≤x11 then (if x11<(x9.length:Int) then (if x11<(x7.length:Int) then (impl_shapeT.l2 k x7 (x9.set (x11:Int).toNat (⟨x146000,x146001,([]:List Int)⟩:S62)) x10 x11 x52 x53 x54 (rd_L4 x7 x11) ((rd_L4 x7 x11).length:Int) 0) else (none)) else (none)) else (none))
def impl_shapeT.l2:Nat→List (List Int)→List (S62)→List Int→Int→List (S33)→Int→Int→List Int→Int→Int→Option ((List (S62)) × Bool)
 |0,_,_,_,_,_,_,_,_,_,_=>none
 |k+1,x7,x9,x10,x11,x52,x53,x54,x99,x100,x101=>if x101<x100 then (if 0≤x101 then (if x101<(x99.length:Int) then (if 0≤x11 then (if x11<(x9.length:Int) then (if (0≤(rd x99 x101)∧(rd x99 x101)<(x9.length:Int)∧((rd_T62 x9 x11).f2).length<17592186044416) then (impl_shapeT.l2 k x7 (x9.set (x11:Int).toNat (⟨(rd_T62 x9 x11).f0,(rd_T62 x9 x11).f1,(((rd_T62 x9 x11).f2)++[rd x99 x101])⟩:S62)) x10 x11 x52 x53 x54 x99 x100 (wrap64 (x101+1))) else (none)) else (none)) else (none)) else (none)) else (none)) else (impl_shapeT.l1 k x7 x9 x10 x52 x53 (wrap64 (x54+1)))
end
def impl_shapeT.f (k:Nat) (l0:List (S33)):Option ((List (S62)) × Bool):=if (l0.length:Int)<1 then (impl_shapeT.j0 k l0 true) else (impl_shapeT.j0 k l0 (decide ((l0.length:Int) > 40)))
def impl_shapeT.T12:Bool × List (List Nat × List Nat):=(true,[([],[]),([0],[0]),([1,1],[1]),([],[]),([3],[3]),([4,4],[4]),([2,0,1,2],[2]),([5,6,0,1,2,3,4,5,6],[5])])
def impl_shapeT.B12:List Nat:=[0,1,3,0,8,24,7,127]
theorem impl_shapeT.tab12:rtab .any (opsOf Tryd.f11 12)=impl_shapeT.T12:=by kernel_rfl
theorem impl_shapeT.bits12:waitsOk impl_shapeT.T12.2 impl_shapeT.B12=true:=by kernel_rfl
def impl_shapeT.T19:Bool × List (List Nat × List Nat):=(true,[([],[]),([],[]),([0,1],[0,1]),([2],[2]),([3],[3]),([4],[4]),([5],[5]),([5],[5]),([5],[5]),([7,8,5],[5,7,8]),([9,5],[5,9]),([10,5],[5,10]),([6,11,5,5],[5,6,11]),([12,5],[5,12]),([5,13],[5,13])])
def impl_shapeT.B19:List Nat:=[0,0,3,7,15,31,63,63,63,447,959,1983,4095,8191,16383]
theorem impl_shapeT.tab19:rtab .any (opsOf Tryd.f11 19)=impl_shapeT.T19:=by kernel_rfl
theorem impl_shapeT.bits19:waitsOk impl_shapeT.T19.2 impl_shapeT.B19=true:=by kernel_rfl
def impl_shapeT.T25:Bool × List (List Nat × List Nat):=(true,[([],[]),([],[]),([],[]),([],[]),([2,3],[2,3]),([4],[4]),([5],[5]),([],[]),([],[]),([7,8],[7,8]),([9],[9]),([6,10],[6,10]),([0,1,0,1,2,3,4,5,6,7,8,9,10,11],[0,1]),([12,0,1,2,3,4,5,6,7,8,9,10,11],[12]),([13,11,11,0,1,2,3,4,5,6,7,8,9,10,11],[11,13])])
def impl_shapeT.B25:List Nat:=[0,0,0,0,12,28,60,0,0,384,896,2044,4095,8191,16383]
theorem impl_shapeT.tab25:rtab .any (opsOf Tryd.f11 25)=impl_shapeT.T25:=by kernel_rfl
theorem impl_shapeT.bits25:waitsOk impl_shapeT.T25.2 impl_shapeT.B25=true:=by kernel_rfl
set_option maxHeartbeats 8000000 in
set_option maxRecDepth 100000 in
theorem impl_shapeT.calls (k:Nat) (A0:Option Addr) (c0:Nat) (l0:List (S33)) (r1:List (S62)) (r2:Bool) (w:World) (hr0:Kd.C k33 w A0 l0.length l0) (hc0:l0.length≤c0) (h:impl_shapeT.f k l0=some (r1,r2)):
  Calls Tryd.prog 11 #[.slice A0 l0.length c0] w (ShPost w r1 r2):=by
 have hu46:=Tryd.underlying33
 have hu81:=Tryd.underlying62
 have HR0:=A_ hr0
 have HC0:=A_ hc0
 clear hr0 hc0
 have HB:=A_ (Below.refl w.heap.size w)
 have H:(if (l0.length:Int)<1 then (impl_shapeT.j0 k l0 true) else (impl_shapeT.j0 k l0 (decide ((l0.length:Int) > 40))))=some (r1,r2):=h
 clear h
 have HC2:=A_ H
 clear H
 go_enter Tryd.func11,Tryd.ntmps11
 go_upto_region 1 with (fail)
 go_cut [22] (fun v22 wc=>∃ (kq:Nat) (x22_1:Bool),v22=.bool x22_1∧Aside0 (impl_shapeT.j0 kq l0 x22_1=some (r1,r2))∧Aside0 (kq≤k)∧Aside0 (Below w.heap.size w wc))
 case first=>
  have H:=HC2.out
  clear HC2
  by_cases c3:(l0.length:Int)<1
  ·
   rw[if_pos c3] at H
   have c3b0:=decide_eq_true c3
   have c3b1:decide (l0.length<1)=true:=decide_eq_true (by omega)
   clear c3
   (first|rw[c3b0]|(simp only[i64_w,i32_w];rw[c3b0])|skip)
   have H':=A_ H
   clear H
   go_wp2
   go_meet
   case rel=>exact⟨_,(true),rs_,H',⟨by first|omega|exact Nat.le_refl _⟩,⟨bw HB.out⟩⟩
  rw[if_neg c3] at H
  have c3b0:=decide_eq_false c3
  have c3b1:decide (l0.length<1)=false:=decide_eq_false (by omega)
  clear c3
  (first|rw[c3b0]|(simp only[i64_w,i32_w];rw[c3b0])|skip)
  have H':=A_ H
  clear H
  go_wp2
  go_meet
  case rel=>exact⟨_,(decide ((l0.length:Int) > 40)),rs_,H',⟨by first|omega|exact Nat.le_refl _⟩,⟨bw HB.out⟩⟩
 case rest=>
  clear HC2
  obtain⟨kq,x22_1,rfl,HA,HJ1,HB⟩:=hcut
  cases kq with
  |zero=>exact absurd HA.out (by simp[impl_shapeT.j0])
  |succ kj1=>
   have H:=HA.out
   clear HA
   simp only[impl_shapeT.j0] at H
   revert H
   refine iB_ (fun c4 H=>?_) (fun c4 H=>?_)<;>subst c4
   ·
    simp only[Option.some.injEq,Prod.mk.injEq] at H
    obtain⟨rfl,rfl⟩:=H
    go_wp2
    go_ret2
    exact ShPost.no (rr_) (bw HB.out)
   replace H:=iq_ H
   obtain⟨c5b0,c5b1,H⟩:=H
   replace H:=iq_ H
   obtain⟨c6b0,c6b1,H⟩:=H
   obtain⟨y128,hy128⟩:∃ y_:List Int,y_=(List.replicate ((l0.length:Int):Int).toNat 0):=⟨_,rfl⟩
   rw[←hy128] at H
   have Ny128:=A_ hy128
   clear hy128
   have H':=A_ H
   clear H
   go_wp2_with (first|((with_reducible refine gd_ 25 rfl ?_);(try (refine gate_guard (by rfl) ?_;dsimp only));refine Kd.R_make (Kd.int .i64) _ 3 rfl (N:=25) rfl 54 _ _ rfl (l0.length:Int) rfl rfl Tryd.underlying54 (.int .i64 0) 8 info3 rfl (by first|decide|exact k62_ne (by decide)|exact kE_ne (by decide)) (by omega) 0 (ok:=fun _=>True) (okp:=fun _=>True) rfl (fun _ hk=>hk) trivial (od_) (Nat.le_trans (Nat.mul_le_mul_right _ (od_:(l0.length:Int).toNat≤35184372088832)) (by omega)) (Below.refl _ _) (Nat.le_refl _) ?_;intro v129 w7 ho8 hb hg_ hnew_;clear hg_ hnew_;(first|rw[←Ny128.out] at ho8|(simp only[Int.reduceToNat] at ho8;rw[←Ny128.out] at ho8));have HO130:=A_ (Kd.R_lower ho8 (below_size (bw HB.out)));replace HB:=bs_ HB hb;clear hb ho8))
   (try simp only[Act.put,List.setIfInBounds_toArray,List.set_cons_zero,List.set_cons_succ])
   go_loopg [28] kj1 (fun kq v28 w'=>∃ (x4_2:List Int) (x28_2:Int),v28=.int .i64 x28_2∧Aside0 (impl_shapeT.l0 kq l0 x4_2 l0 (l0.length:Int) x28_2=some (r1,r2))∧Aside0 (kq≤kj1)∧Aside0 (Kd.R (Kd.int .i64) 3 w' w.heap.size (fun _=>True) v129 x4_2)∧Aside0 (Below w.heap.size w w'))
   case atStart=>exact⟨(y128),(0),rs_,H',⟨Nat.le_refl _⟩,⟨kr_ HO130.out⟩,⟨bw HB.out⟩⟩
   case round=>
    clear H'
    try clear c4 c5 c5b0 c5b1 c6 c6b0 c6b1
    obtain⟨x4_2,x28_2,rfl,HA,HK2,HO_4,HB⟩:=hrel
    cases gk with
    |zero=>exact absurd HA.out (by simp[impl_shapeT.l0])
    |succ k2=>
     have H:=HA.out
     clear HA
     simp only[impl_shapeT.l0] at H
     revert H
     refine iL_ (fun c9b0 H=>?_) (fun c9b0 H=>?_)
     ·
      replace H:=id_ H
      obtain⟨c10b0,H⟩:=H
      replace H:=id_ H
      obtain⟨c11b0,H⟩:=H
      replace H:=id_ H
      obtain⟨c12b0,H⟩:=H
      obtain⟨y133,hy133⟩:∃ y_:List Int,y_=(x4_2.set (x28_2:Int).toNat ((rd_T33 l0 x28_2).f2)):=⟨_,rfl⟩
      rw[←hy133] at H
      have Ny133:=A_ hy133
      clear hy133
      have H':=A_ H
      clear H
      have p131:0≤(x28_2:Int):=od_
      have q131:x28_2<(l0.length:Int):=od_
      obtain⟨ad131,e131,hx131_0,hx131_1,hx131_2⟩:=at_T33 HR0.out x28_2 p131 q131
      cases e131
      replace hx131_0:=cl_ HB.out hx131_0
      replace hx131_1:=cl_ HB.out hx131_1
      replace hx131_2:=cl_ HB.out hx131_2
      replace p131:=eq_true p131
      replace q131:=eq_true q131
      go_wp2_with (first|((with_reducible refine gd_ 6 rfl ?_);(try (refine gate_guard (by rfl) ?_;dsimp only));refine bx_ #[.int .i64 0,.int .i64 0,.int .i64 0] 33 ?_;intro gb132 hg w14 hbox hb;have BK132:=A_ hbox;have GW132:=gw_ hg HB;have GE132:=GW132;replace HO_4:=A_ (Kd.R_below (kr_ HO_4.out) hb);replace HB:=bs_ HB hb;clear hb hbox hg;obtain⟨hcz15_0,hcz15_1,hcz15_2⟩:=cs3_ BK132.out;obtain⟨hfz15_0,hfz15_1,hfz15_2⟩:=fz3_ BK132.out)|((with_reducible refine gate_store (t:=33) (p:=6) rfl ?_);refine store_event (t:=33) (p:=6) (v:=?vo_w16) (w1:=(((w14.setCell ⟨gb132,0,none⟩ (.int .i64 ((rd_T33 l0 x28_2).f0))).setCell ⟨gb132,1,none⟩ (.int .i64 ((rd_T33 l0 x28_2).f1))).setCell ⟨gb132,2,none⟩ (.int .i64 ((rd_T33 l0 x28_2).f2)))) ?hg ?ho ?hn ?hr ?_;(case ho=>rfl);(case hg=>rfl);(case hn=>rfl);(case hr=>first|(go_simp;done)|(go_simp;rfl));intro w16 hw;replace HO_4:Aside0 (Kd.R (Kd.int .i64) 3 w16 w.heap.size (fun _=>True) v129 x4_2):=⟨(by rw[hw];exact(by(with_reducible repeat (first|apply Kd.R_alloc|apply Kd.R_drewN|apply Kd.R_drew));exact Kd.R_mono (Kd.R_far (p:=⟨gb132,2,none⟩) (Kd.R_far (p:=⟨gb132,1,none⟩) (Kd.R_far (p:=⟨gb132,0,none⟩) (Kd.R_types HO_4.out BK132.out (by first|decide|exact k62_ne (by decide)|exact kE_ne (by decide))) (fun _ hk=>hk.2) (.int .i64 ((rd_T33 l0 x28_2).f0))) (fun _ hk=>hk.2) (.int .i64 ((rd_T33 l0 x28_2).f1))) (fun _ hk=>hk.2) (.int .i64 ((rd_T33 l0 x28_2).f2))) (fun _ hk=>trivial)))⟩;replace BK132:Aside0 (w16.heap[gb132]? =some (.cells #[.int .i64 ((rd_T33 l0 x28_2).f0),.int .i64 ((rd_T33 l0 x28_2).f1),.int .i64 ((rd_T33 l0 x28_2).f2)] 33 (0,0))):=⟨(by rw[hw];exact(by refine blk_put (cs:=#[.int .i64 ((rd_T33 l0 x28_2).f0),.int .i64 ((rd_T33 l0 x28_2).f1),.int .i64 0]) ?_ 2 _ rfl;refine blk_put (cs:=#[.int .i64 ((rd_T33 l0 x28_2).f0),.int .i64 0,.int .i64 0]) ?_ 1 _ rfl;refine blk_put (cs:=#[.int .i64 0,.int .i64 0,.int .i64 0]) ?_ 0 _ rfl;(with_reducible repeat (first|refine blk_drewN ?_ _|refine blk_drew ?_|refine blk_alloc ?_ _));exact BK132.out))⟩;replace HB:Aside0 (Below w.heap.size w w16):=⟨(by rw[hw];exact(bw HB.out))⟩;clear hw;obtain⟨hcz17_0,hcz17_1,hcz17_2⟩:=cs3_ BK132.out;obtain⟨hfz17_0,hfz17_1,hfz17_2⟩:=fz3_ BK132.out;have p13:0≤(x28_2:Int):=od_;have q13:(x28_2:Int)<((x4_2.length:Int):Int):=od_;obtain⟨go13,co13,eo13,gb13,gl13,cl13,HG13⟩:=Kd.R_form HO_4.out (by omega);(first|cases eo13|(injection eo13 with ea_ en_ ec_;(first|subst ea_|(injection ea_ with ea_;subst ea_));subst ec_;clear en_));have GB13:=A_ gb13;have GG13:=A_ HG13;clear gb13 gl13 HG13;obtain⟨hx13_0,hf13_0⟩:=Kd.R_celln 0 HO_4.out (x28_2:Int) p13 q13;replace p13:=eq_true p13;replace q13:=eq_true q13;obtain⟨hy18_,hz18_⟩:=Kd.R_celln 0 HO_4.out (x28_2:Int) (od_) (od_);have HP18:=Kd.R_putg HO_4.out (x28_2:Int) ((rd_T33 l0 x28_2).f2))|((with_reducible refine gate_store (t:=3) (p:=37) rfl ?_);refine store_event (t:=3) (p:=37) (v:=?vo_w19) (w1:=(w16.setCell ⟨go13,(x28_2:Int).toNat,none⟩ (.int .i64 ((rd_T33 l0 x28_2).f2)))) ?hg ?ho ?hn ?hr ?_;(case ho=>rfl);(case hg=>rfl);(case hn=>rfl);(case hr=>first|(go_simp;done)|(go_simp;rfl));intro w19 hw;have hg:w16.grownBy w19 (some go13):=(by rw[hw];exact HP18.2);have hp_:Kd.R (Kd.int .i64) 3 w19 w.heap.size (fun _=>True) (.slice (some ⟨go13,0,none⟩) x4_2.length co13) y133:=(by rw[hw,Ny133.out];exact HP18.1);clear HP18;replace BK132:=A_ (blk_grown (g:=gb132) (o:=.cells #[.int .i64 ((rd_T33 l0 x28_2).f0),.int .i64 ((rd_T33 l0 x28_2).f1),.int .i64 ((rd_T33 l0 x28_2).f2)] 33 (0,0)) (bk BK132.out) hg (Kd.R_ne HO_4.out BK132.out (by first|decide|exact k62_ne (by decide)|exact kE_ne (by decide))));replace HO_4:=A_ (hp_);replace HB:=A_ ((by rw[hw];exact below_set (HB.out) GB13.out:Below w.heap.size w w19));clear hg hw hp_))
      go_roundg k2
      case measure=>have:=HJ1.out;have:=HK2.out;omega
      case rel=>exact⟨(y133),(wrap64 (x28_2+1)),rs_,H',⟨by have:=HJ1.out;have:=HK2.out;omega⟩,⟨kr_ HO_4.out⟩,⟨bw HB.out⟩⟩
     replace H:=Option.bind_eq_some_iff.mp H
     obtain⟨⟨t134,t135⟩,A200,H⟩:=H
     try dsimp only at H
     have A20:=A_ A200
     clear A200
     revert H
     refine iB_ (fun c21 H=>?_) (fun c21 H=>?_)<;>subst c21
     ·
      replace H:=iq_ H
      obtain⟨c22b0,c22b1,H⟩:=H
      replace H:=iq_ H
      obtain⟨c23b0,c23b1,H⟩:=H
      obtain⟨y138,hy138⟩:∃ y_:List (S62),y_=(List.replicate ((l0.length:Int):Int).toNat z62):=⟨_,rfl⟩
      rw[←hy138] at H
      have Ny138:=A_ hy138
      clear hy138
      replace H:=iq_ H
      obtain⟨c24b0,c24b1,H⟩:=H
      obtain⟨y141,hy141⟩:∃ y_:List Int,y_=(List.replicate ((l0.length:Int):Int).toNat 0):=⟨_,rfl⟩
      rw[←hy141] at H
      have Ny141:=A_ hy141
      clear hy141
      have H':=A_ H
      clear H
      obtain⟨Ao25,co25,eo25⟩:=Kd.R_slice HO_4.out
      subst eo25
      try go_wp2_with (first|((with_reducible refine gc_ 19 rfl ?_);refine goesL_ (some 41) rfl rfl Tryd.func19 (by kernel_rfl) rfl #[.slice Ao25 x4_2.length co25] rfl ar ?_;(with_reducible refine(impl_kin.calls k2 _ _ x4_2 t134 true _ ?side1 ?side2 A20.out).mono ?_);(case side1=>repeat (first|exact(Kd.R_reads' HO_4.out).2.2|(with_reducible refine Kd.C_alloc ?_ _)|(with_reducible refine Kd.C_drewN ?_ _)|(with_reducible refine Kd.C_drew ?_)));(case side2=>exact(Kd.R_reads' HO_4.out).2.1);rintro e w26 ⟨v136,rfl,ho0,hb⟩;refine⟨_,rfl,?_⟩;have HO137:=A_ (Kd.S_lower (Kd.S_new' ho0 (Kd.R_lt (kr_ HO_4.out))) (below_size (bw HB.out)));replace HO_4:=A_ (Kd.R_below (kr_ HO_4.out) hb);replace HB:=bs_ HB hb;(try clear hb);(try clear hb2);(try clear hk);(try clear hi);(try clear ho0)))
      have n0_:=A_ (Kd.R_drew HO_4.out)
      have n1_:=A_ (Kd.S_drew HO137.out)
      have n2_:=A_ (below_drew1 HB.out)
      clear HO_4 HO137 HB
      have HO_4:=n0_
      have HO137:=n1_
      have HB:=n2_
      clear n0_ n1_ n2_
      refine sS 8 (fun w'=>True) [] trivial impl_shapeT.tab12 impl_shapeT.bits12 (fun hHeld HT_ HW_=>?_)
      generalize w26.drew=w27 at HO_4 HO137 HB hHeld ⊢
      refine pS HT_ 0 46 ?_
      refine pS HT_ 1 47 ?_
      refine pS HT_ 3 49 ?_
      refine pS HT_ 4 50 ?_
      refine join_ (σ:=Value × Value) 1 #[true,true,true,true,true,true,true,false] (fun s_=>[(48,s_.1),(51,s_.2),(9,s_.1)]) (fun s_ w'=>(Kd.S (Kd.slice 3 (Kd.int .i64)) 54 w' w.heap.size (fun k_=>some k_≠(s_.2:Value).ownBlock∧some k_≠(.slice Ao25 x4_2.length co25:Value).ownBlock) v136 t134)∧(Kd.S (k62 0) 62 w' w.heap.size (fun _=>True) s_.1 y138)∧(Kd.R (Kd.int .i64) 3 w' w.heap.size (fun k_=>some k_≠(.slice Ao25 x4_2.length co25:Value).ownBlock) s_.2 y141)∧(Kd.R (Kd.int .i64) 3 w' w.heap.size (fun k_=>some k_≠(s_.2:Value).ownBlock) (.slice Ao25 x4_2.length co25) x4_2)∧(Below w.heap.size w w')) ?_ ?_
      rotate_left
      ·
       intro hCont
       refine two_ (i:=2) (j:=5) (Ni:=some 48) (Nj:=some 51) #[true,true,true,true,true,false,false,false] #[true,true,false,true,true,true,false,false] rfl rfl rfl rfl (two_of HT_.out (by kernel_rfl)) (by first|decide|exact k62_ne (by decide)|exact kE_ne (by decide)) (by first|decide|exact k62_ne (by decide)|exact kE_ne (by decide)) (fun K hK=>?_) (fun K hK=>?_)
       ·
        skip
        refine Kd.S_make_step (k62 0) _ 62 (by rfl) (N:=48) rfl 58 _ _ rfl (l0.length:Int) rfl rfl Tryd.underlying58 (.agg #[(.int .i64 0),(.int .i64 0),(.slice none 0 0)]) 40 info62 rfl (by first|decide|exact k62_ne (by decide)|exact kE_ne (by decide)) (by omega) z62 (ok:=fun _=>True) (okp:=fun _=>True) (k62_mkM _ _ _ z62 (Kd.R_nil _ _ _ _ _)) (fun _ hk=>hk) trivial (od_) (Nat.le_trans (Nat.mul_le_mul_right _ (od_:(l0.length:Int).toNat≤7036874417766)) (by omega)) (Below.refl _ _) (Nat.le_refl _) ?_
        intro v139 w28 ho29 hb hg_ hnew_
        clear hg_ hnew_
        (first|rw[←Ny138.out] at ho29|(simp only[Int.reduceToNat] at ho29;rw[←Ny138.out] at ho29))
        have n0_:=A_ (Kd.R_below (kr_ HO_4.out) hb)
        have n1_:=A_ (Kd.S_below (ks_ HO137.out) hb)
        have n2_:=A_ (Kd.S_lower ho29 (below_size (bw HB.out)))
        have n3_:=A_ (below_step (bw HB.out) hb)
        clear HO_4 HO137 HB
        have HO_4:=n0_
        have HO137:=n1_
        have HO140:=n2_
        have HB:=n3_
        clear n0_ n1_ n2_ n3_ hb ho29
        refine hK.out _ _ trivial (fun hHeld=>?_)
        clear hK K
        refine nS (some 48) ?_
        refine pS HT_ 6 9 ?_
        refine one_ (i:=5) (N:=some 51) #[true,true,true,true,true,true,true,false] rfl rfl (one_of HT_.out (by kernel_rfl)) (by first|decide|exact k62_ne (by decide)|exact kE_ne (by decide)) (fun K hK=>?_)
        refine Kd.R_make_step (Kd.int .i64) _ 3 (by rfl) (N:=51) rfl 54 _ _ rfl (l0.length:Int) rfl rfl Tryd.underlying54 (.int .i64 0) 8 info3 rfl (by first|decide|exact k62_ne (by decide)|exact kE_ne (by decide)) (by omega) 0 (ok:=fun _=>True) (okp:=fun _=>True) rfl (fun _ hk=>hk) trivial (od_) (Nat.le_trans (Nat.mul_le_mul_right _ (od_:(l0.length:Int).toNat≤35184372088832)) (by omega)) (Below.refl _ _) (Nat.le_refl _) ?_
        intro v142 w30 ho31 hb hg_ hnew_
        clear hg_ hnew_
        (first|rw[←Ny141.out] at ho31|(simp only[Int.reduceToNat] at ho31;rw[←Ny141.out] at ho31))
        have n0_:=A_ (Kd.R_elder' (kr_ HO_4.out) (Kd.R_base ho31) hb)
        have n1_:=A_ (Kd.S_elder' (ks_ HO137.out) (Kd.R_base ho31) hb)
        have n2_:=A_ (Kd.S_below (ks_ HO140.out) hb)
        have n3_:=A_ (Kd.R_lower (Kd.R_new' ho31 (Kd.R_lt (kr_ HO_4.out))) (below_size (bw HB.out)))
        have n4_:=A_ (below_step (bw HB.out) hb)
        clear HO_4 HO137 HO140 HB
        have HO_4:=n0_
        have HO137:=n1_
        have HO140:=n2_
        have HO143:=n3_
        have HB:=n4_
        clear n0_ n1_ n2_ n3_ n4_ hb ho31
        refine hK.out _ _ trivial (fun hHeld=>?_)
        clear hK K
        refine nS (some 51) ?_
        exact norm_ (by simp only[putAll,Act.put,List.setIfInBounds_toArray,List.set_cons_zero,List.set_cons_succ]) (hCont (v139,v142) _ ⟨(by(with_reducible repeat (first|apply Kd.S_alloc|apply Kd.S_drewN|apply Kd.S_drew));exact Kd.S_mono HO137.out (fun _ hk=>⟨hk.2,hk.1.2⟩)),(ks_ HO140.out),(by(with_reducible repeat (first|apply Kd.R_alloc|apply Kd.R_drewN|apply Kd.R_drew));exact Kd.R_mono HO143.out (fun _ hk=>hk.2)),(by(with_reducible repeat (first|apply Kd.R_alloc|apply Kd.R_drewN|apply Kd.R_drew));exact Kd.R_mono HO_4.out (fun _ hk=>hk.2)),(bw HB.out)⟩)
       skip
       refine Kd.R_make_step (Kd.int .i64) _ 3 (by rfl) (N:=51) rfl 54 _ _ rfl (l0.length:Int) rfl rfl Tryd.underlying54 (.int .i64 0) 8 info3 rfl (by first|decide|exact k62_ne (by decide)|exact kE_ne (by decide)) (by omega) 0 (ok:=fun _=>True) (okp:=fun _=>True) rfl (fun _ hk=>hk) trivial (od_) (Nat.le_trans (Nat.mul_le_mul_right _ (od_:(l0.length:Int).toNat≤35184372088832)) (by omega)) (Below.refl _ _) (Nat.le_refl _) ?_
       intro v142 w28 ho29 hb hg_ hnew_
       clear hg_ hnew_
       (first|rw[←Ny141.out] at ho29|(simp only[Int.reduceToNat] at ho29;rw[←Ny141.out] at ho29))
       have n0_:=A_ (Kd.R_elder' (kr_ HO_4.out) (Kd.R_base ho29) hb)
       have n1_:=A_ (Kd.S_elder' (ks_ HO137.out) (Kd.R_base ho29) hb)
       have n2_:=A_ (Kd.R_lower (Kd.R_new' ho29 (Kd.R_lt (kr_ HO_4.out))) (below_size (bw HB.out)))
       have n3_:=A_ (below_step (bw HB.out) hb)
       clear HO_4 HO137 HB
       have HO_4:=n0_
       have HO137:=n1_
       have HO143:=n2_
       have HB:=n3_
       clear n0_ n1_ n2_ n3_ hb ho29
       refine hK.out _ _ trivial (fun hHeld=>?_)
       clear hK K
       refine nS (some 51) ?_
       refine one_ (i:=2) (N:=some 48) #[true,true,true,true,true,true,false,false] rfl rfl (one_of HT_.out (by kernel_rfl)) (by first|decide|exact k62_ne (by decide)|exact kE_ne (by decide)) (fun K hK=>?_)
       refine Kd.S_make_step (k62 0) _ 62 (by rfl) (N:=48) rfl 58 _ _ rfl (l0.length:Int) rfl rfl Tryd.underlying58 (.agg #[(.int .i64 0),(.int .i64 0),(.slice none 0 0)]) 40 info62 rfl (by first|decide|exact k62_ne (by decide)|exact kE_ne (by decide)) (by omega) z62 (ok:=fun _=>True) (okp:=fun _=>True) (k62_mkM _ _ _ z62 (Kd.R_nil _ _ _ _ _)) (fun _ hk=>hk) trivial (od_) (Nat.le_trans (Nat.mul_le_mul_right _ (od_:(l0.length:Int).toNat≤7036874417766)) (by omega)) (Below.refl _ _) (Nat.le_refl _) ?_
       intro v139 w30 ho31 hb hg_ hnew_
       clear hg_ hnew_
       (first|rw[←Ny138.out] at ho31|(simp only[Int.reduceToNat] at ho31;rw[←Ny138.out] at ho31))
       have n0_:=A_ (Kd.R_below (kr_ HO_4.out) hb)
       have n1_:=A_ (Kd.S_below (ks_ HO137.out) hb)
       have n2_:=A_ (Kd.R_below (kr_ HO143.out) hb)
       have n3_:=A_ (Kd.S_lower ho31 (below_size (bw HB.out)))
       have n4_:=A_ (below_step (bw HB.out) hb)
       clear HO_4 HO137 HO143 HB
       have HO_4:=n0_
       have HO137:=n1_
       have HO143:=n2_
       have HO140:=n3_
       have HB:=n4_
       clear n0_ n1_ n2_ n3_ n4_ hb ho31
       refine hK.out _ _ trivial (fun hHeld=>?_)
       clear hK K
       refine nS (some 48) ?_
       refine pS HT_ 6 9 ?_
       exact norm_ (by simp only[putAll,Act.put,List.setIfInBounds_toArray,List.set_cons_zero,List.set_cons_succ]) (hCont (v139,v142) _ ⟨(by(with_reducible repeat (first|apply Kd.S_alloc|apply Kd.S_drewN|apply Kd.S_drew));exact Kd.S_mono HO137.out (fun _ hk=>⟨hk.2,hk.1.2⟩)),(ks_ HO140.out),(by(with_reducible repeat (first|apply Kd.R_alloc|apply Kd.R_drewN|apply Kd.R_drew));exact Kd.R_mono HO143.out (fun _ hk=>hk.2)),(by(with_reducible repeat (first|apply Kd.R_alloc|apply Kd.R_drewN|apply Kd.R_drew));exact Kd.R_mono HO_4.out (fun _ hk=>hk.2)),(bw HB.out)⟩)
      rintro⟨v139,v142⟩ w32 ⟨h0_,h1_,h2_,h3_,h4_⟩
      obtain⟨gA,hgA⟩:=S_base h1_
      have HGA:=A_ hgA
      clear hgA
      rw[Ny138.out] at h1_
      replace h1_:=S_conv (g':=gA) h1_
      rw[←Ny138.out] at h1_
      have n0_:Aside0 (Kd.S (Kd.slice 3 (Kd.int .i64)) 54 w32 w.heap.size (fun k_=>some k_≠(v142:Value).ownBlock∧some k_≠(.slice Ao25 x4_2.length co25:Value).ownBlock) v136 t134):=⟨h0_⟩
      have n1_:Aside0 (Kd.S (k62 gA) 62 w32 w.heap.size (fun _=>True) v139 y138):=⟨h1_⟩
      have n2_:Aside0 (Kd.R (Kd.int .i64) 3 w32 w.heap.size (fun k_=>some k_≠(.slice Ao25 x4_2.length co25:Value).ownBlock) v142 y141):=⟨h2_⟩
      have n3_:Aside0 (Kd.R (Kd.int .i64) 3 w32 w.heap.size (fun k_=>some k_≠(v142:Value).ownBlock) (.slice Ao25 x4_2.length co25) x4_2):=⟨h3_⟩
      have n4_:Aside0 (Below w.heap.size w w32):=⟨h4_⟩
      clear HO_4 HO137 HB h0_ h1_ h2_ h3_ h4_
      have HO137:=n0_
      have HO140:=n1_
      have HO143:=n2_
      have HO_4:=n3_
      have HB:=n4_
      clear n0_ n1_ n2_ n3_ n4_
      have hHeld:=trivial
      refine norm_ (a':=?_) ?_ ?_
      rotate_left
      ·
       simp only[putAll,Act.put,List.setIfInBounds_toArray,List.set_cons_zero,List.set_cons_succ]
       rfl
      refine pS HT_ 7 10 ?_
      refine dS HT_ ?_
      try go_wp2
      (try simp only[Act.put,List.setIfInBounds_toArray,List.set_cons_zero,List.set_cons_succ])
      go_loopg [54] k2 (fun kq v54 w'=>∃ (x9_3:List (S62)) (x10_3:List Int) (x54_3:Int),v54=.int .i64 x54_3∧Aside0 (impl_shapeT.l1 kq t134 x9_3 x10_3 l0 (l0.length:Int) x54_3=some (r1,r2))∧Aside0 (kq≤k2)∧Aside0 (Kd.S (Kd.slice 3 (Kd.int .i64)) 54 w' w.heap.size (fun k_=>some k_≠(v142:Value).ownBlock) v136 t134)∧Aside0 (Kd.S (k62 gA) 62 w' w.heap.size (fun _=>True) v139 x9_3)∧Aside0 (Kd.R (Kd.int .i64) 3 w' w.heap.size (fun _=>True) v142 x10_3)∧Aside0 (Below w.heap.size w w'))
      case atStart=>exact⟨(y138),(y141),(0),rs_,H',⟨Nat.le_refl _⟩,⟨by (with_reducible repeat (first|apply Kd.S_alloc|apply Kd.S_drewN|apply Kd.S_drew));exact Kd.S_mono HO137.out (fun _ hk=>hk.1)⟩,⟨ks_ HO140.out⟩,⟨by (with_reducible repeat (first|apply Kd.R_alloc|apply Kd.R_drewN|apply Kd.R_drew));exact Kd.R_mono HO143.out (fun _ hk=>trivial)⟩,⟨bw HB.out⟩⟩
      case round=>
       clear H'
       try clear c4 c5 c5b0 c5b1 c6 c6b0 c6b1 c9 c9b0 c21 c22 c22b0 c22b1 c23 c23b0 c23b1 c24 c24b0 c24b1
       obtain⟨x9_3,x10_3,x54_3,rfl,HA,HK3,HO_7,HO_9,HO_10,HB⟩:=hrel
       cases gk with
       |zero=>exact absurd HA.out (by simp[impl_shapeT.l1])
       |succ k3=>
        have H:=HA.out
        clear HA
        simp only[impl_shapeT.l1] at H
        revert H
        refine iL_ (fun c33b0 H=>?_) (fun c33b0 H=>?_)
        ·
         replace H:=id_ H
         obtain⟨c34b0,H⟩:=H
         replace H:=id_ H
         obtain⟨c35b0,H⟩:=H
         replace H:=id_ H
         obtain⟨c36b0,H⟩:=H
         replace H:=nm_ H
         obtain⟨y146,Ny146,H⟩:=H
         try dsimp only at H
         have HC38:=A_ H
         clear H
         have p144:0≤(x54_3:Int):=od_
         have q144:x54_3<(l0.length:Int):=od_
         obtain⟨ad144,e144,hx144_0,hx144_1,hx144_2⟩:=at_T33 HR0.out x54_3 p144 q144
         cases e144
         replace hx144_0:=cl_ HB.out hx144_0
         replace hx144_1:=cl_ HB.out hx144_1
         replace hx144_2:=cl_ HB.out hx144_2
         replace p144:=eq_true p144
         replace q144:=eq_true q144
         go_upto_if 63 with (first|((with_reducible refine gd_ 12 rfl ?_);(try (refine gate_guard (by rfl) ?_;dsimp only));refine bx_ #[.int .i64 0,.int .i64 0,.int .i64 0] 33 ?_;intro gb145 hg w39 hbox hb;have BK145:=A_ hbox;have GW145:=gw_ hg HB;have GE145:=GW145;replace HO_7:=A_ (Kd.S_below (ks_ HO_7.out) hb);replace HO_9:=A_ (Kd.S_below (ks_ HO_9.out) hb);replace HO_10:=A_ (Kd.R_below (kr_ HO_10.out) hb);replace HB:=bs_ HB hb;clear hb hbox hg;obtain⟨hcz40_0,hcz40_1,hcz40_2⟩:=cs3_ BK145.out;obtain⟨hfz40_0,hfz40_1,hfz40_2⟩:=fz3_ BK145.out)|((with_reducible refine gate_store (t:=33) (p:=12) rfl ?_);refine store_event (t:=33) (p:=12) (v:=?vo_w41) (w1:=(((w39.setCell ⟨gb145,0,none⟩ (.int .i64 ((rd_T33 l0 x54_3).f0))).setCell ⟨gb145,1,none⟩ (.int .i64 ((rd_T33 l0 x54_3).f1))).setCell ⟨gb145,2,none⟩ (.int .i64 ((rd_T33 l0 x54_3).f2)))) ?hg ?ho ?hn ?hr ?_;(case ho=>rfl);(case hg=>rfl);(case hn=>rfl);(case hr=>first|(go_simp;done)|(go_simp;rfl));intro w41 hw;replace HO_7:Aside0 (Kd.S (Kd.slice 3 (Kd.int .i64)) 54 w41 w.heap.size (fun k_=>some k_≠(v142:Value).ownBlock) v136 t134):=⟨(by rw[hw];exact(by(with_reducible repeat (first|apply Kd.S_alloc|apply Kd.S_drewN|apply Kd.S_drew));exact Kd.S_mono (Kd.S_far (p:=⟨gb145,2,none⟩) (Kd.S_far (p:=⟨gb145,1,none⟩) (Kd.S_far (p:=⟨gb145,0,none⟩) (Kd.S_types HO_7.out BK145.out (by first|decide|exact k62_ne (by decide)|exact kE_ne (by decide))) (fun _ hk=>hk.2) (.int .i64 ((rd_T33 l0 x54_3).f0))) (fun _ hk=>hk.2) (.int .i64 ((rd_T33 l0 x54_3).f1))) (fun _ hk=>hk.2) (.int .i64 ((rd_T33 l0 x54_3).f2))) (fun _ hk=>hk.1)))⟩;replace HO_9:Aside0 (Kd.S (k62 gA) 62 w41 w.heap.size (fun _=>True) v139 x9_3):=⟨(by rw[hw];exact(by(with_reducible repeat (first|apply Kd.S_alloc|apply Kd.S_drewN|apply Kd.S_drew));exact Kd.S_mono (Kd.S_far (p:=⟨gb145,2,none⟩) (Kd.S_far (p:=⟨gb145,1,none⟩) (Kd.S_far (p:=⟨gb145,0,none⟩) (Kd.S_types HO_9.out BK145.out (by first|decide|exact k62_ne (by decide)|exact kE_ne (by decide))) (fun _ hk=>hk.2) (.int .i64 ((rd_T33 l0 x54_3).f0))) (fun _ hk=>hk.2) (.int .i64 ((rd_T33 l0 x54_3).f1))) (fun _ hk=>hk.2) (.int .i64 ((rd_T33 l0 x54_3).f2))) (fun _ hk=>trivial)))⟩;replace HO_10:Aside0 (Kd.R (Kd.int .i64) 3 w41 w.heap.size (fun _=>True) v142 x10_3):=⟨(by rw[hw];exact(by(with_reducible repeat (first|apply Kd.R_alloc|apply Kd.R_drewN|apply Kd.R_drew));exact Kd.R_mono (Kd.R_far (p:=⟨gb145,2,none⟩) (Kd.R_far (p:=⟨gb145,1,none⟩) (Kd.R_far (p:=⟨gb145,0,none⟩) (Kd.R_types HO_10.out BK145.out (by first|decide|exact k62_ne (by decide)|exact kE_ne (by decide))) (fun _ hk=>hk.2) (.int .i64 ((rd_T33 l0 x54_3).f0))) (fun _ hk=>hk.2) (.int .i64 ((rd_T33 l0 x54_3).f1))) (fun _ hk=>hk.2) (.int .i64 ((rd_T33 l0 x54_3).f2))) (fun _ hk=>trivial)))⟩;replace BK145:Aside0 (w41.heap[gb145]? =some (.cells #[.int .i64 ((rd_T33 l0 x54_3).f0),.int .i64 ((rd_T33 l0 x54_3).f1),.int .i64 ((rd_T33 l0 x54_3).f2)] 33 (0,0))):=⟨(by rw[hw];exact(by refine blk_put (cs:=#[.int .i64 ((rd_T33 l0 x54_3).f0),.int .i64 ((rd_T33 l0 x54_3).f1),.int .i64 0]) ?_ 2 _ rfl;refine blk_put (cs:=#[.int .i64 ((rd_T33 l0 x54_3).f0),.int .i64 0,.int .i64 0]) ?_ 1 _ rfl;refine blk_put (cs:=#[.int .i64 0,.int .i64 0,.int .i64 0]) ?_ 0 _ rfl;(with_reducible repeat (first|refine blk_drewN ?_ _|refine blk_drew ?_|refine blk_alloc ?_ _));exact BK145.out))⟩;replace HB:Aside0 (Below w.heap.size w w41):=⟨(by rw[hw];exact(bw HB.out))⟩;clear hw;have p37:0≤(x54_3:Int):=od_;have q37:(x54_3:Int)<((x10_3.length:Int):Int):=od_;obtain⟨go37,co37,eo37,gb37,gl37,cl37,HG37⟩:=Kd.R_form HO_10.out (by omega);(first|cases eo37|(injection eo37 with ea_ en_ ec_;(first|subst ea_|(injection ea_ with ea_;subst ea_));subst ec_;clear en_));have GB37:=A_ gb37;have GG37:=A_ HG37;clear gb37 gl37 HG37;obtain⟨hx37_0,hf37_0⟩:=Kd.R_celln 0 HO_10.out (x54_3:Int) p37 q37;replace p37:=eq_true p37;replace q37:=eq_true q37;obtain⟨hy42_,hz42_⟩:=Kd.R_celln 0 HO_10.out (x54_3:Int) (od_) (od_);have HP42:=Kd.R_putg HO_10.out (x54_3:Int) 1)|((with_reducible refine gate_store (t:=3) (p:=61) rfl ?_);refine store_event (t:=3) (p:=61) (v:=?vo_w43) (w1:=(w41.setCell ⟨go37,(x54_3:Int).toNat,none⟩ (.int .i64 1))) ?hg ?ho ?hn ?hr ?_;(case ho=>rfl);(case hg=>rfl);(case hn=>rfl);(case hr=>first|(go_simp;done)|(go_simp;rfl));intro w43 hw;have hg:w41.grownBy w43 (some go37):=(by rw[hw];exact HP42.2);have hp_:Kd.R (Kd.int .i64) 3 w43 w.heap.size (fun _=>True) (.slice (some ⟨go37,0,none⟩) x10_3.length co37) y146:=(by rw[hw,Ny146.out];exact HP42.1);clear HP42;replace HO_7:=A_ (Kd.S_after (v:=(.slice (some ⟨go37,0,none⟩) x10_3.length co37)) (v1:=(.slice (some ⟨go37,0,none⟩) x10_3.length co37)) (ok:=(fun _=>True)) (by(with_reducible repeat (first|apply Kd.S_alloc|apply Kd.S_drewN|apply Kd.S_drew));exact Kd.S_mono HO_7.out (fun _ hk=>⟨trivial,hk⟩)) hg (.inl rfl));replace HO_9:=A_ (Kd.S_over' (v:=(.slice (some ⟨go37,0,none⟩) x10_3.length co37)) (ks_ HO_9.out) (Kd.R_typed HO_10.out) (by first|decide|exact k62_ne (by decide)|exact kE_ne (by decide)) hg);replace BK145:=A_ (blk_grown (g:=gb145) (o:=.cells #[.int .i64 ((rd_T33 l0 x54_3).f0),.int .i64 ((rd_T33 l0 x54_3).f1),.int .i64 ((rd_T33 l0 x54_3).f2)] 33 (0,0)) (bk BK145.out) hg (Kd.R_ne HO_10.out BK145.out (by first|decide|exact k62_ne (by decide)|exact kE_ne (by decide))));replace HO_10:=A_ (hp_);replace HB:=A_ ((by rw[hw];exact below_set (HB.out) GB37.out:Below w.heap.size w w43));clear hg hw hp_))
         (try simp only[Act.put,List.setIfInBounds_toArray,List.set_cons_zero,List.set_cons_succ])
         go_cut [] (fun wc=>∃ (kq:Nat) (x10_37:List Int),Aside0 (impl_shapeT.j3 kq t134 x9_3 x10_37 x54_3 l0 (l0.length:Int) x54_3 ((rd_T33 l0 x54_3).f0) ((rd_T33 l0 x54_3).f1) ((rd_T33 l0 x54_3).f2)=some (r1,r2))∧Aside0 (kq≤k3)∧Aside0 (Kd.S (Kd.slice 3 (Kd.int .i64)) 54 wc w.heap.size (fun k_=>some k_≠((.slice (some ⟨go37,0,none⟩) x10_3.length co37):Value).ownBlock) v136 t134)∧Aside0 (Kd.S (k62 gA) 62 wc w.heap.size (fun _=>True) v139 x9_3)∧Aside0 (Kd.R (Kd.int .i64) 3 wc w.heap.size (fun _=>True) (.slice (some ⟨go37,0,none⟩) x10_3.length co37) x10_37)∧Aside0 (wc.heap[gb145]? =some (.cells #[.int .i64 ((rd_T33 l0 x54_3).f0),.int .i64 ((rd_T33 l0 x54_3).f1),.int .i64 ((rd_T33 l0 x54_3).f2)] 33 (0,0)))∧Aside0 (Below w.heap.size w wc))
         case first=>
          have H:=HC38.out
          clear HC38
          revert H
          refine iL_ (fun c44b0 H=>?_) (fun c44b0 H=>?_)
          ·
           (first|rw[c44b0]|(simp only[i64_w,i32_w];rw[c44b0])|skip)
           replace H:=id_ H
           obtain⟨c45b0,H⟩:=H
           replace H:=id_ H
           obtain⟨c46b0,H⟩:=H
           obtain⟨y148,hy148⟩:∃ y_:List Int,y_=(y146.set (x54_3:Int).toNat (wrap64 ((rd y146 ((rd_T33 l0 x54_3).f2))+1))):=⟨_,rfl⟩
           rw[←hy148] at H
           have Ny148:=A_ hy148
           clear hy148
           have H':=A_ H
           clear H
           obtain⟨hcz48_0,hcz48_1,hcz48_2⟩:=cs3_ BK145.out
           obtain⟨hfz48_0,hfz48_1,hfz48_2⟩:=fz3_ BK145.out
           have p147:0≤(((rd_T33 l0 x54_3).f2):Int):=od_
           have q147:((rd_T33 l0 x54_3).f2)<(y146.length:Int):=(by have h_:(((rd_T33 l0 x54_3).f2):Int)<((x10_3.length:Int):Int):=od_;first|(have e_:=(Kd.R_reads' HO_10.out).1;omega)|simpa only [Ny146.out,List.length_set] using h_)
           have ql147:((((rd_T33 l0 x54_3).f2):Int)<((x10_3.length:Int):Int))=True:=eq_true (od_)
           obtain⟨ad147,e147,hx147_0⟩:=Kd.at_int (Kd.R_reads' HO_10.out).2.2 ((rd_T33 l0 x54_3).f2) p147 q147
           obtain rfl:(⟨go37,0,none⟩:Addr)=ad147:=(by injection e147)
           (first|simp only[add_plain] at hx147_0|simp only[add_at] at hx147_0|simp only[Addr.add,Nat.zero_add] at hx147_0|skip)
           replace p147:=eq_true p147
           replace q147:=eq_true q147
           have p47:0≤(x54_3:Int):=od_
           have q47:(x54_3:Int)<((x10_3.length:Int):Int):=od_
           obtain⟨hx47_0,hf47_0⟩:=Kd.R_celln 0 HO_10.out (x54_3:Int) p47 q47
           replace p47:=eq_true p47
           replace q47:=eq_true q47
           have HP49:=Kd.R_putg HO_10.out (x54_3:Int) (wrap64 ((rd y146 ((rd_T33 l0 x54_3).f2))+1))
           go_wp2_with (first|((with_reducible refine gate_store (t:=3) (p:=72) rfl ?_);refine store_event (t:=3) (p:=72) (v:=?vo_w50) (w1:=(w43.setCell ⟨go37,(x54_3:Int).toNat,none⟩ (.int .i64 (wrap64 ((rd y146 ((rd_T33 l0 x54_3).f2))+1))))) ?hg ?ho ?hn ?hr ?_;(case ho=>rfl);(case hg=>rfl);(case hn=>rfl);(case hr=>first|(go_simp;done)|(go_simp;rfl));intro w50 hw;have hg:w43.grownBy w50 (some go37):=(by rw[hw];exact HP49.2);have hp_:Kd.R (Kd.int .i64) 3 w50 w.heap.size (fun _=>True) (.slice (some ⟨go37,0,none⟩) x10_3.length co37) y148:=(by rw[hw,Ny148.out];exact HP49.1);clear HP49;replace HO_7:=A_ (Kd.S_after (v:=(.slice (some ⟨go37,0,none⟩) x10_3.length co37)) (v1:=(.slice (some ⟨go37,0,none⟩) x10_3.length co37)) (ok:=(fun _=>True)) (ks_ HO_7.out) hg (.inl rfl));replace HO_9:=A_ (Kd.S_over' (v:=(.slice (some ⟨go37,0,none⟩) x10_3.length co37)) (ks_ HO_9.out) (Kd.R_typed HO_10.out) (by first|decide|exact k62_ne (by decide)|exact kE_ne (by decide)) hg);replace BK145:=A_ (blk_grown (g:=gb145) (o:=.cells #[.int .i64 ((rd_T33 l0 x54_3).f0),.int .i64 ((rd_T33 l0 x54_3).f1),.int .i64 ((rd_T33 l0 x54_3).f2)] 33 (0,0)) (bk BK145.out) hg (Kd.R_ne HO_10.out BK145.out (by first|decide|exact k62_ne (by decide)|exact kE_ne (by decide))));replace HO_10:=A_ (hp_);replace HB:=A_ ((by rw[hw];exact below_set (HB.out) GB37.out:Below w.heap.size w w50));clear hg hw hp_))
           go_meet
           case rel=>exact⟨_,(y148),H',⟨by have:=HJ1.out;have:=HK2.out;have:=HK3.out;first|omega|exact Nat.le_refl _⟩,⟨by (with_reducible repeat (first|apply Kd.S_alloc|apply Kd.S_drewN|apply Kd.S_drew));exact Kd.S_mono HO_7.out (fun _ hk=>hk.2)⟩,⟨ks_ HO_9.out⟩,⟨kr_ HO_10.out⟩,⟨bk BK145.out⟩,⟨bw HB.out⟩⟩
          (first|rw[c44b0]|(simp only[i64_w,i32_w];rw[c44b0])|skip)
          have H':=A_ H
          clear H
          go_wp2
          go_meet
          case rel=>exact⟨_,(y146),H',⟨by have:=HJ1.out;have:=HK2.out;have:=HK3.out;first|omega|exact Nat.le_refl _⟩,⟨by (with_reducible repeat (first|apply Kd.S_alloc|apply Kd.S_drewN|apply Kd.S_drew));exact Kd.S_mono HO_7.out (fun _ hk=>hk.2)⟩,⟨ks_ HO_9.out⟩,⟨kr_ HO_10.out⟩,⟨bk BK145.out⟩,⟨bw HB.out⟩⟩
         case rest=>
          clear HC38
          try clear c4 c5 c5b0 c5b1 c6 c6b0 c6b1 c9 c9b0 c21 c22 c22b0 c22b1 c23 c23b0 c23b1 c24 c24b0 c24b1 c33 c33b0 c34 c34b0 c35 c35b0 c36 c36b0 p37 q37 hcz40_0 hcz40_1 hcz40_2 hfz40_0 hfz40_1 hfz40_2 hx144_0 hx144_1 hx144_2 hx37_0 p144 p37 q144 q37
          obtain⟨kq,x10_37,HA,HJ37,HO_7,HO_9,HO_10,BK145,HB⟩:=hcut
          have hl10_37:=(Kd.R_reads' HO_10.out).1
          rw[hl10_37] at HO_10
          (try simp only[hl10_37])
          (try simp only[hl10_37] at BK145)
          (try simp only[hl10_37] at HO_7)
          (try simp only[hl10_37] at HO_9)
          cases kq with
          |zero=>exact absurd HA.out (by simp[impl_shapeT.j3])
          |succ kj37=>
           have H:=HA.out
           clear HA
           simp only[impl_shapeT.j3] at H
           have HC51:=A_ H
           clear H
           go_upto_region 19 with (fail)
           go_cut [87] (fun v87 wc=>∃ (kq:Nat) (x87_50:Bool),v87=.bool x87_50∧Aside0 (impl_shapeT.j4 kq t134 x9_3 x10_37 x54_3 l0 (l0.length:Int) x54_3 x87_50 ((rd_T33 l0 x54_3).f0) ((rd_T33 l0 x54_3).f1) ((rd_T33 l0 x54_3).f2)=some (r1,r2))∧Aside0 (kq≤kj37)∧Aside0 (Kd.S (Kd.slice 3 (Kd.int .i64)) 54 wc w.heap.size (fun k_=>some k_≠((.slice (some ⟨go37,0,none⟩) x10_37.length co37):Value).ownBlock) v136 t134)∧Aside0 (Kd.S (k62 gA) 62 wc w.heap.size (fun _=>True) v139 x9_3)∧Aside0 (Kd.R (Kd.int .i64) 3 wc w.heap.size (fun _=>True) (.slice (some ⟨go37,0,none⟩) x10_37.length co37) x10_37)∧Aside0 (wc.heap[gb145]? =some (.cells #[.int .i64 ((rd_T33 l0 x54_3).f0),.int .i64 ((rd_T33 l0 x54_3).f1),.int .i64 ((rd_T33 l0 x54_3).f2)] 33 (0,0)))∧Aside0 (Below w.heap.size w wc))
           case first=>
            have H:=HC51.out
            clear HC51
            replace H:=id_ H
            obtain⟨c52b0,H⟩:=H
            (first|rw[c52b0]|(simp only[i64_w,i32_w];rw[c52b0])|skip)
            replace H:=id_ H
            obtain⟨c53b0,H⟩:=H
            revert H
            refine iL_ (fun c54b0 H=>?_) (fun c54b0 H=>?_)
            ·
             have H':=A_ H
             clear H
             try go_wp2
             have n0_:=A_ (Kd.S_drew HO_7.out)
             have n1_:=A_ (Kd.S_drew HO_9.out)
             have n2_:=A_ (Kd.R_drew HO_10.out)
             have n3_:=A_ (blk_drew BK145.out)
             have n4_:=A_ (below_drew1 HB.out)
             clear HO_7 HO_9 HO_10 BK145 HB
             have HO_7:=n0_
             have HO_9:=n1_
             have HO_10:=n2_
             have BK145:=n3_
             have HB:=n4_
             clear n0_ n1_ n2_ n3_ n4_
             have p149:0≤(x54_3:Int):=od_
             have q149:x54_3<(x10_37.length:Int):=od_
             obtain⟨ad149,e149,hx149_0⟩:=Kd.at_int (Kd.R_reads' HO_10.out).2.2 x54_3 p149 q149
             obtain rfl:(⟨go37,0,none⟩:Addr)=ad149:=(by injection e149)
             (first|simp only[add_plain] at hx149_0|simp only[add_at] at hx149_0|simp only[Addr.add,Nat.zero_add] at hx149_0|skip)
             replace p149:=eq_true p149
             replace q149:=eq_true q149
             refine sS 15 (fun w'=>w'.cell? ⟨go37,(x54_3).toNat,none⟩=some (.int .i64 (rd x10_37 x54_3))) [] (hx149_0) impl_shapeT.tab19 impl_shapeT.bits19 (fun hHeld HT_ HW_=>?_)
             generalize wc.drew=w55 at HO_7 HO_9 HO_10 BK145 HB hx149_0 hHeld ⊢
             refine pS HT_ 0 73 ?_
             refine pS HT_ 1 74 ?_
             refine pS HT_ 2 75 ?_
             refine tS HT_ HW_ 3 76 hHeld ?_
             refine pS HT_ 4 77 ?_
             refine pS HT_ 5 78 ?_
             refine pN HT_ 6 79 ?_
             refine pN HT_ 7 80 ?_
             refine pN HT_ 8 81 ?_
             refine pN HT_ 9 82 ?_
             refine pN HT_ 10 83 ?_
             refine pN HT_ 11 84 ?_
             refine pN HT_ 12 85 ?_
             refine pN HT_ 13 86 ?_
             refine pS HT_ 14 87 ?_
             refine dS HT_ ?_
             try go_wp2
             go_meet
             case rel=>exact⟨_,(true),rs_,H',⟨by have:=HJ1.out;have:=HK2.out;have:=HK3.out;have:=HJ37.out;first|omega|exact Nat.le_refl _⟩,⟨by (try simp only[hl10_37]);(with_reducible repeat (first|apply Kd.S_alloc|apply Kd.S_drewN|apply Kd.S_drew));exact HO_7.out⟩,⟨by (try simp only[hl10_37]);(with_reducible repeat (first|apply Kd.S_alloc|apply Kd.S_drewN|apply Kd.S_drew));exact HO_9.out⟩,⟨by (try simp only[hl10_37]);(with_reducible repeat (first|apply Kd.R_alloc|apply Kd.R_drewN|apply Kd.R_drew));exact HO_10.out⟩,⟨by (try simp only[hl10_37]);(with_reducible repeat (first|refine blk_drewN ?_ _|refine blk_drew ?_|refine blk_alloc ?_ _));exact BK145.out⟩,⟨bw HB.out⟩⟩
            replace H:=id_ H
            obtain⟨c56b0,H⟩:=H
            replace H:=bA_ H
            obtain⟨t151,A57,H⟩:=H
            have H':=A_ H
            clear H
            try go_wp2
            have n0_:=A_ (Kd.S_drew HO_7.out)
            have n1_:=A_ (Kd.S_drew HO_9.out)
            have n2_:=A_ (Kd.R_drew HO_10.out)
            have n3_:=A_ (blk_drew BK145.out)
            have n4_:=A_ (below_drew1 HB.out)
            clear HO_7 HO_9 HO_10 BK145 HB
            have HO_7:=n0_
            have HO_9:=n1_
            have HO_10:=n2_
            have BK145:=n3_
            have HB:=n4_
            clear n0_ n1_ n2_ n3_ n4_
            have p149:0≤(x54_3:Int):=od_
            have q149:x54_3<(x10_37.length:Int):=od_
            obtain⟨ad149,e149,hx149_0⟩:=Kd.at_int (Kd.R_reads' HO_10.out).2.2 x54_3 p149 q149
            obtain rfl:(⟨go37,0,none⟩:Addr)=ad149:=(by injection e149)
            (first|simp only[add_plain] at hx149_0|simp only[add_at] at hx149_0|simp only[Addr.add,Nat.zero_add] at hx149_0|skip)
            replace p149:=eq_true p149
            replace q149:=eq_true q149
            obtain⟨Ao59,co59,eo59⟩:=Kd.S_slice HO_7.out
            (first|subst eo59|(injection eo59 with f1_ f2_ f3_;have f4_:=f1_.symm;have f5_:=f3_.symm;clear f1_ f2_ f3_;subst f4_;subst f5_))
            have p150:0≤(x54_3:Int):=od_
            have q150:x54_3<(t134.length:Int):=od_
            obtain⟨ad150,A150_0,c150_0,e150,hx150_0,hl150_0,hi150_0⟩:=at_L4 (Kd.S_reads' HO_7.out).2.2 x54_3 p150 q150
            cases e150
            obtain⟨ce150,hce150,hMe150,hcc150⟩:=Kd.S_get HO_7.out [] x54_3 p150 (by first|exact q150|exact od_|(have e_:=(Kd.S_reads' HO_7.out).1;omega))
            obtain⟨ve150_0,rfl,ge150_0⟩:=hMe150
            have hv150_0:=hcc150 0 _ rfl
            rw[Nat.add_zero,show ((Kd.slice 3 (Kd.int .i64))).sz=1 from rfl,Nat.mul_one] at hv150_0
            replace hv150_0:=Option.some.inj (hv150_0.symm.trans hx150_0)
            rw[hv150_0] at ge150_0
            have HL150_0:=A_ (show Kd.R (Kd.int .i64) 3 _ _ _ _ (rd_L4 t134 x54_3) from ge150_0)
            clear hv150_0 ge150_0
            have HX150_0:=A_ hx150_0
            clear hcc150 hce150
            have HR150_0:=A_ hi150_0
            have HC150_0:=A_ hl150_0
            clear hi150_0 hl150_0
            replace p150:=eq_true p150
            replace q150:=eq_true q150
            refine sS 15 (fun w'=>w'.cell? ⟨gb145,0,none⟩=some (.int .i64 ((rd_T33 l0 x54_3).f0))∧w'.cell? ⟨gb145,1,none⟩=some (.int .i64 ((rd_T33 l0 x54_3).f1))∧w'.cell? ⟨gb145,2,none⟩=some (.int .i64 ((rd_T33 l0 x54_3).f2))∧w'.cell? ⟨go37,(x54_3).toNat,none⟩=some (.int .i64 (rd x10_37 x54_3))∧w'.cell? (ad150.add (x54_3).toNat)=some (.slice A150_0 (rd_L4 t134 x54_3).length c150_0)) [] ⟨(blk_cell BK145.out 0).trans rfl,(blk_cell BK145.out 1).trans rfl,(blk_cell BK145.out 2).trans rfl,hx149_0,hx150_0⟩ impl_shapeT.tab19 impl_shapeT.bits19 (fun hHeld HT_ HW_=>?_)
            generalize wc.drew=w58 at HO_7 HO_9 HO_10 BK145 HB HL150_0 HR150_0 HX150_0 hx149_0 hx150_0 hHeld ⊢
            refine pS HT_ 0 73 ?_
            refine pS HT_ 1 74 ?_
            refine pS HT_ 2 75 ?_
            refine tS HT_ HW_ 3 76 hHeld ?_
            refine pS HT_ 4 77 ?_
            refine pS HT_ 5 78 ?_
            refine pS HT_ 7 80 ?_
            refine pS HT_ 8 81 ?_
            refine pS HT_ 9 82 ?_
            refine tS HT_ HW_ 6 79 hHeld ?_
            refine tS HT_ HW_ 10 83 hHeld ?_
            refine pS HT_ 11 84 ?_
            refine one_ (i:=12) (N:=some 85) #[true,true,true,true,true,true,true,true,true,true,true,true,true,false,false] rfl rfl (one_of HT_.out (by kernel_rfl)) (by first|decide|exact k62_ne (by decide)|exact kE_ne (by decide)) (fun K hK=>?_)
            refine goes_ Tryd.func20 (by kernel_rfl) rfl #[.agg #[.int .i64 ((rd_T33 l0 x54_3).f0),.int .i64 ((rd_T33 l0 x54_3).f1),.int .i64 ((rd_T33 l0 x54_3).f2)],.int .i64 ((rd_L4 t134 x54_3).length:Int)] (by rfl) rfl rfl ar ?_
            with_reducible refine(impl_nodeOk.calls kj37 ((rd_T33 l0 x54_3).f0) ((rd_T33 l0 x54_3).f1) ((rd_T33 l0 x54_3).f2) ((rd_L4 t134 x54_3).length:Int) t151 _ A57.out).mono ?_
            rintro e w60 ⟨rfl,hb⟩
            have HS3_:=(hb.cell (World.block_lt_of_cell? _ _ (hHeld.2.2.2.1))).trans (hHeld.2.2.2.1)
            have HS4_:=(hb.cell (World.block_lt_of_cell? _ _ (hHeld.2.2.2.2))).trans (hHeld.2.2.2.2)
            refine⟨_,rfl,?_⟩
            have n0_:=A_ (Kd.S_below (ks_ HO_7.out) hb)
            have n1_:=A_ (Kd.S_below (ks_ HO_9.out) hb)
            have n2_:=A_ (Kd.R_below (kr_ HO_10.out) hb)
            have n3_:=A_ (Kd.R_below (kr_ HL150_0.out) hb)
            have n4_:=A_ (blk_below (g:=gb145) (o:=.cells #[.int .i64 ((rd_T33 l0 x54_3).f0),.int .i64 ((rd_T33 l0 x54_3).f1),.int .i64 ((rd_T33 l0 x54_3).f2)] 33 (0,0)) (bk BK145.out) hb)
            have n5_:=A_ (Kd.C_below (by repeat (first|(with_reducible exact HR150_0.out)|(with_reducible refine Kd.C_alloc ?_ _)|(with_reducible refine Kd.C_drewN ?_ _)|(with_reducible refine Kd.C_drew ?_)|exact HR150_0.out)) hb)
            have n6_:=A_ (pw_cell_below hb HX150_0.out)
            have n7_:=A_ (below_step (bw HB.out) hb)
            clear HO_7 HO_9 HO_10 HL150_0 BK145 HR150_0 HX150_0 HB
            have HO_7:=n0_
            have HO_9:=n1_
            have HO_10:=n2_
            have HL150_0:=n3_
            have BK145:=n4_
            have HR150_0:=n5_
            have HX150_0:=n6_
            have HB:=n7_
            clear n0_ n1_ n2_ n3_ n4_ n5_ n6_ n7_
            (try clear hb)
            (try clear hb2)
            (try clear hk)
            (try clear hi)
            refine hK.out _ _ ⟨(blk_cell BK145.out 0).trans rfl,(blk_cell BK145.out 1).trans rfl,(blk_cell BK145.out 2).trans rfl,HS3_,HS4_⟩ (fun hHeld=>?_)
            clear hK K
            refine nS (some 85) ?_
            refine pS HT_ 13 86 ?_
            refine pS HT_ 14 87 ?_
            refine dS HT_ ?_
            try go_wp2
            go_meet
            case rel=>exact⟨_,(!t151),rs_,H',⟨by have:=HJ1.out;have:=HK2.out;have:=HK3.out;have:=HJ37.out;first|omega|exact Nat.le_refl _⟩,⟨by (try simp only[hl10_37]);(with_reducible repeat (first|apply Kd.S_alloc|apply Kd.S_drewN|apply Kd.S_drew));exact HO_7.out⟩,⟨by (try simp only[hl10_37]);(with_reducible repeat (first|apply Kd.S_alloc|apply Kd.S_drewN|apply Kd.S_drew));exact HO_9.out⟩,⟨by (try simp only[hl10_37]);(with_reducible repeat (first|apply Kd.R_alloc|apply Kd.R_drewN|apply Kd.R_drew));exact HO_10.out⟩,⟨by (try simp only[hl10_37]);(with_reducible repeat (first|refine blk_drewN ?_ _|refine blk_drew ?_|refine blk_alloc ?_ _));exact BK145.out⟩,⟨bw HB.out⟩⟩
           case rest=>
            clear HC51
            try clear c4 c5 c5b0 c5b1 c6 c6b0 c6b1 c9 c9b0 c21 c22 c22b0 c22b1 c23 c23b0 c23b1 c24 c24b0 c24b1 c33 c33b0 c34 c34b0 c35 c35b0 c36 c36b0 p37 q37 hcz40_0 hcz40_1 hcz40_2 hfz40_0 hfz40_1 hfz40_2 hx144_0 hx144_1 hx144_2 hx37_0 p144 p37 q144 q37
            obtain⟨kq,x87_50,rfl,HA,HJ50,HO_7,HO_9,HO_10,BK145,HB⟩:=hcut
            cases kq with
            |zero=>exact absurd HA.out (by simp[impl_shapeT.j4])
            |succ kj50=>
             have H:=HA.out
             clear HA
             simp only[impl_shapeT.j4] at H
             revert H
             refine iB_ (fun c61 H=>?_) (fun c61 H=>?_)<;>subst c61
             ·
              simp only[Option.some.injEq,Prod.mk.injEq] at H
              obtain⟨rfl,rfl⟩:=H
              go_wp2
              go_ret2
              exact ShPost.no (rr_) (bw HB.out)
             replace H:=id_ H
             obtain⟨c62b0,H⟩:=H
             replace H:=id_ H
             obtain⟨c63b0,H⟩:=H
             obtain⟨y152,hy152⟩:∃ y_:List (S62),y_=(x9_3.set (x54_3:Int).toNat (⟨((rd_T33 l0 x54_3).f0),((rd_T33 l0 x54_3).f1),([]:List Int)⟩:S62)):=⟨_,rfl⟩
             rw[←hy152] at H
             have Ny152:=A_ hy152
             clear hy152
             replace H:=id_ H
             obtain⟨c65b0,H⟩:=H
             have H':=A_ H
             clear H
             obtain⟨hcz66_0,hcz66_1,hcz66_2⟩:=cs3_ BK145.out
             obtain⟨hfz66_0,hfz66_1,hfz66_2⟩:=fz3_ BK145.out
             have p64:0≤(x54_3:Int):=od_
             have q64:(x54_3:Int)<((x9_3.length:Int):Int):=od_
             obtain⟨go64,co64,eo64,gb64,gl64,cl64,HG64⟩:=Kd.S_form HO_9.out (by omega)
             have ega:=HGA.out _ _ _ eo64
             injection ega with ega _ _
             subst ega
             (first|cases eo64|(injection eo64 with ea_ en_ ec_;(first|subst ea_|(injection ea_ with ea_;subst ea_));subst ec_;clear en_))
             have GB64:=A_ gb64
             have GG64:=A_ HG64
             clear gb64 gl64 HG64
             obtain⟨_,ce64,hcl64,hM64,hcc64,hfr64,_,_⟩:=Kd.S_elem HO_9.out z62 (x54_3:Int) p64 q64
             obtain⟨ve64_2,rfl,ge64_2⟩:=k62_openM hM64
             have hx64_0:wc.cell? ⟨go64,(x54_3:Int).toNat*3,none⟩=some (.int .i64 ((rd_T62 x9_3 x54_3).f0)):=hcc64 0 _ rfl
             have hx64_1:wc.cell? ⟨go64,(x54_3:Int).toNat*3+1,none⟩=some (.int .i64 ((rd_T62 x9_3 x54_3).f1)):=hcc64 1 _ rfl
             have hx64_2:wc.cell? ⟨go64,(x54_3:Int).toNat*3+2,none⟩=some (ve64_2):=hcc64 2 _ rfl
             have hf64_0:wc.frozen? ⟨go64,(x54_3:Int).toNat*3,none⟩=false:=hfr64 0
             have hf64_1:wc.frozen? ⟨go64,(x54_3:Int).toNat*3+1,none⟩=false:=hfr64 1
             have hf64_2:wc.frozen? ⟨go64,(x54_3:Int).toNat*3+2,none⟩=false:=hfr64 2
             clear hcl64 hcc64 hfr64 hM64
             replace p64:=eq_true p64
             replace q64:=eq_true q64
             have HX67:=A_ (show Kd.S (k62 go64) 62 wc w.heap.size (fun k_=>((fun _=>True)) k_∧¬((fun _=>False)) k_) (.slice (some ⟨go64,0,none⟩) x9_3.length co64) x9_3 from(by(with_reducible repeat (first|apply Kd.S_alloc|apply Kd.S_drewN|apply Kd.S_drew));exact Kd.S_mono HO_9.out (fun k_ hk=>⟨trivial,fun e_=>e_⟩)))
             obtain⟨oki67,ce67,hcl67,hM67,hcc67,hfr67,hoki67,hH67⟩:=Kd.S_elem HX67.out z62 (x54_3:Int) (od_) (by have h_:(x54_3:Int)<((x9_3.length:Int):Int):=od_;first|exact h_|(have e_:=(Kd.S_reads' HO_9.out).1;omega)|simpa using h_)
             obtain⟨ve67_2,rfl,ge67_2⟩:=k62_openM hM67
             have HP67:=Kd.S_seg hH67 (od_) (by have h_:(x54_3:Int)<((x9_3.length:Int):Int):=od_;first|exact h_|(have e_:=(Kd.S_reads' HO_9.out).1;omega)|simpa using h_) (seg:=[.int .i64 ((rd_T33 l0 x54_3).f0),.int .i64 ((rd_T33 l0 x54_3).f1),.slice none 0 0]) (j:=0) (show 3≤3 from by decide) (x':=(⟨((rd_T33 l0 x54_3).f0),((rd_T33 l0 x54_3).f1),([]:List Int)⟩:S62)) (k62_mkM _ _ _ (⟨((rd_T33 l0 x54_3).f0),((rd_T33 l0 x54_3).f1),([]:List Int)⟩:S62) (Kd.R_nil _ _ _ _ _)) (fun _ hk=>hk) (fun k_ hk_=>hk_.elim)
             have hx67_0:=hcc67 0 _ rfl
             (try simp only[show ((k62 go64)).sz=3 from rfl,Nat.mul_one,Nat.add_zero] at hx67_0)
             have hf67_0:=hfr67 0
             (try simp only[show ((k62 go64)).sz=3 from rfl,Nat.mul_one,Nat.add_zero] at hf67_0)
             have hx67_1:=hcc67 1 _ rfl
             (try simp only[show ((k62 go64)).sz=3 from rfl,Nat.mul_one,Nat.add_zero] at hx67_1)
             have hf67_1:=hfr67 1
             (try simp only[show ((k62 go64)).sz=3 from rfl,Nat.mul_one,Nat.add_zero] at hf67_1)
             have hx67_2:=hcc67 2 _ rfl
             (try simp only[show ((k62 go64)).sz=3 from rfl,Nat.mul_one,Nat.add_zero] at hx67_2)
             have hf67_2:=hfr67 2
             (try simp only[show ((k62 go64)).sz=3 from rfl,Nat.mul_one,Nat.add_zero] at hf67_2)
             clear hcl67 hcc67 hfr67 hM67 hoki67 hH67
             go_wp2_with (first|((with_reducible refine gate_store (t:=62) (p:=95) rfl ?_);refine store_event (t:=62) (p:=95) (v:=?vo_w68) (w1:=(((wc.setCell ⟨go64,(x54_3:Int).toNat*3,none⟩ (.int .i64 ((rd_T33 l0 x54_3).f0))).setCell ⟨go64,(x54_3:Int).toNat*3+1,none⟩ (.int .i64 ((rd_T33 l0 x54_3).f1))).setCell ⟨go64,(x54_3:Int).toNat*3+2,none⟩ (.slice none 0 0))) ?hg ?ho ?hn ?hr ?_;(case ho=>rfl);(case hg=>rfl);(case hn=>rfl);(case hr=>first|(go_simp;done)|(go_simp;rfl));intro w68 hw;have hg:wc.grownBy w68 (some go64):=(by rw[hw];exact HP67.2);have hp_:Kd.S (k62 go64) 62 w68 w.heap.size (fun _=>True) (.slice (some ⟨go64,0,none⟩) x9_3.length co64) y152:=(by rw[hw,Ny152.out];exact HP67.1);clear HP67;replace HO_7:=A_ (Kd.S_over' (v:=(.slice (some ⟨go64,0,none⟩) x9_3.length co64)) (ks_ HO_7.out) (Kd.S_typed HO_9.out) (by first|decide|exact k62_ne (by decide)|exact kE_ne (by decide)) hg);replace HO_10:=A_ (Kd.R_over' (v:=(.slice (some ⟨go64,0,none⟩) x9_3.length co64)) (kr_ HO_10.out) (Kd.S_typed HO_9.out) (by first|decide|exact k62_ne (by decide)|exact kE_ne (by decide)) hg);replace BK145:=A_ (blk_grown (g:=gb145) (o:=.cells #[.int .i64 ((rd_T33 l0 x54_3).f0),.int .i64 ((rd_T33 l0 x54_3).f1),.int .i64 ((rd_T33 l0 x54_3).f2)] 33 (0,0)) (bk BK145.out) hg (Kd.S_ne HO_9.out BK145.out (by first|decide|exact k62_ne (by decide)|exact kE_ne (by decide))));replace HO_9:=A_ (hp_);replace HB:=A_ ((by rw[hw];exact below_set (below_set (below_set (HB.out) GB64.out) GB64.out) GB64.out:Below w.heap.size w w68));clear hg hw hp_;obtain⟨Ao69,co69,eo69⟩:=Kd.S_slice HO_7.out;subst eo69;have p153:0≤(x54_3:Int):=od_;have q153:x54_3<(t134.length:Int):=od_;obtain⟨ad153,A153_0,c153_0,e153,hx153_0,hl153_0,hi153_0⟩:=at_L4 (Kd.S_reads' HO_7.out).2.2 x54_3 p153 q153;cases e153;obtain⟨ce153,hce153,hMe153,hcc153⟩:=Kd.S_get HO_7.out [] x54_3 p153 (by first|exact q153|exact od_|(have e_:=(Kd.S_reads' HO_7.out).1;omega));obtain⟨ve153_0,rfl,ge153_0⟩:=hMe153;have hv153_0:=hcc153 0 _ rfl;rw[Nat.add_zero,show ((Kd.slice 3 (Kd.int .i64))).sz=1 from rfl,Nat.mul_one] at hv153_0;replace hv153_0:=Option.some.inj (hv153_0.symm.trans hx153_0);rw[hv153_0] at ge153_0;have HL153_0:=A_ (show Kd.R (Kd.int .i64) 3 _ _ _ _ (rd_L4 t134 x54_3) from ge153_0);clear hv153_0 ge153_0;have HX153_0:=A_ hx153_0;clear hcc153 hce153;have HR153_0:=A_ hi153_0;have HC153_0:=A_ hl153_0;clear hi153_0 hl153_0;replace p153:=eq_true p153;replace q153:=eq_true q153))
             (try simp only[Act.put,List.setIfInBounds_toArray,List.set_cons_zero,List.set_cons_succ])
             go_loopg [101] kj50 (fun kq v101 w'=>∃ (x9_6:List (S62)) (x101_6:Int),v101=.int .i64 x101_6∧Aside0 (impl_shapeT.l2 kq t134 x9_6 x10_37 x54_3 l0 (l0.length:Int) x54_3 (rd_L4 t134 x54_3) ((rd_L4 t134 x54_3).length:Int) x101_6=some (r1,r2))∧Aside0 (kq≤kj50)∧Aside0 (Kd.S (Kd.slice 3 (Kd.int .i64)) 54 w' w.heap.size (fun k_=>some k_≠((.slice (some ⟨go37,0,none⟩) x10_37.length co37):Value).ownBlock) (.slice (some ad153) t134.length co69) t134)∧Aside0 (Kd.S (k62 go64) 62 w' w.heap.size (fun _=>True) (.slice (some ⟨go64,0,none⟩) x9_3.length co64) x9_6)∧Aside0 (Kd.R (Kd.int .i64) 3 w' w.heap.size (fun _=>True) (.slice (some ⟨go37,0,none⟩) x10_37.length co37) x10_37)∧Aside0 (Kd.R (Kd.int .i64) 3 w' w.heap.size (fun _=>True) (.slice A153_0 (rd_L4 t134 x54_3).length c153_0) (rd_L4 t134 x54_3))∧Aside0 (w'.heap[gb145]? =some (.cells #[.int .i64 ((rd_T33 l0 x54_3).f0),.int .i64 ((rd_T33 l0 x54_3).f1),.int .i64 ((rd_T33 l0 x54_3).f2)] 33 (0,0)))∧Aside0 (Below w.heap.size w w'))
             case atStart=>exact⟨(y152),(0),rs_,H',⟨Nat.le_refl _⟩,⟨by (try simp only[hl10_37]);(with_reducible repeat (first|apply Kd.S_alloc|apply Kd.S_drewN|apply Kd.S_drew));exact HO_7.out⟩,⟨by (try simp only[hl10_37]);(with_reducible repeat (first|apply Kd.S_alloc|apply Kd.S_drewN|apply Kd.S_drew));exact HO_9.out⟩,⟨by (try simp only[hl10_37]);(with_reducible repeat (first|apply Kd.R_alloc|apply Kd.R_drewN|apply Kd.R_drew));exact HO_10.out⟩,⟨Kd.R_mono HL153_0.out (fun _ _=>trivial)⟩,⟨by (try simp only[hl10_37]);(with_reducible repeat (first|refine blk_drewN ?_ _|refine blk_drew ?_|refine blk_alloc ?_ _));exact BK145.out⟩,⟨bw HB.out⟩⟩
             case round=>
              clear H'
              try clear c4 c5 c5b0 c5b1 c6 c6b0 c6b1 c9 c9b0 c21 c22 c22b0 c22b1 c23 c23b0 c23b1 c24 c24b0 c24b1 c33 c33b0 c34 c34b0 c35 c35b0 c36 c36b0 p37 q37 c61 c62 c62b0 c63 c63b0 p64 q64 c65 c65b0 hcz40_0 hcz40_1 hcz40_2 hcz66_0 hcz66_1 hcz66_2 hfz40_0 hfz40_1 hfz40_2 hfz66_0 hfz66_1 hfz66_2 hx144_0 hx144_1 hx144_2 hx153_0 hx37_0 hx64_0 hx64_1 hx64_2 hx67_0 hx67_1 hx67_2 p144 p153 p37 p64 q144 q153 q37 q64
              obtain⟨x9_6,x101_6,rfl,HA,HK6,HO_7,HO_9,HO_10,HE,BK145,HB⟩:=hrel
              have hl9_6:=(Kd.S_reads' HO_9.out).1
              rw[hl9_6] at HO_9
              (try simp only[hl9_6])
              (try simp only[hl9_6] at BK145)
              (try simp only[hl9_6] at HO_7)
              (try simp only[hl9_6] at HO_10)
              cases gk with
              |zero=>exact absurd HA.out (by simp[impl_shapeT.l2])
              |succ k6=>
               have H:=HA.out
               clear HA
               simp only[impl_shapeT.l2] at H
               revert H
               refine iL_ (fun c70b0 H=>?_) (fun c70b0 H=>?_)
               ·
                replace H:=id_ H
                obtain⟨c71b0,H⟩:=H
                replace H:=id_ H
                obtain⟨c72b0,H⟩:=H
                replace H:=id_ H
                obtain⟨c73b0,H⟩:=H
                replace H:=id_ H
                obtain⟨c74b0,H⟩:=H
                replace H:=im_ H
                obtain⟨LMc75,H⟩:=H
                obtain⟨y156,hy156⟩:∃ y_:List Int,y_=(((rd_T62 x9_6 x54_3).f2)++[rd (rd_L4 t134 x54_3) x101_6]):=⟨_,rfl⟩
                rw[←hy156] at H
                have Ny156:=A_ hy156
                clear hy156
                obtain⟨y159,hy159⟩:∃ y_:List (S62),y_=(x9_6.set (x54_3:Int).toNat (⟨(rd_T62 x9_6 x54_3).f0,(rd_T62 x9_6 x54_3).f1,y156⟩:S62)):=⟨_,rfl⟩
                rw[←hy159] at H
                have Ny159:=A_ hy159
                clear hy159
                have H':=A_ H
                clear H
                have p154:0≤(x101_6:Int):=od_
                have q154:x101_6<((rd_L4 t134 x54_3).length:Int):=od_
                obtain⟨ad154,e154,hx154_0⟩:=Kd.at_int (Kd.R_reads' HE.out).2.2 x101_6 p154 q154
                subst e154
                replace p154:=eq_true p154
                replace q154:=eq_true q154
                have p155:0≤(x54_3:Int):=od_
                have q155:x54_3<(x9_6.length:Int):=od_
                obtain⟨ad155,A155_2,c155_2,e155,hx155_0,hx155_1,hx155_2,hl155_2,hi155_2⟩:=at_T62 (Kd.S_reads' HO_9.out).2.2 x54_3 p155 q155
                obtain rfl:(⟨go64,0,none⟩:Addr)=ad155:=(by injection e155)
                clear hx155_0 hx155_1 hl155_2 hi155_2
                simp only[add_plain] at hx155_2
                have ce75:=LMc75.out
                have p156:0≤(rd (rd_L4 t134 x54_3) x101_6):=ce75.1
                have q156:(rd (rd_L4 t134 x54_3) x101_6)<(x9_6.length:Int):=ce75.2.1
                clear ce75
                replace p155:=eq_true p155
                replace q155:=eq_true q155
                replace p156:=eq_true p156
                replace q156:=eq_true q156
                try go_wp2
                have n0_:=A_ (Kd.S_drew HO_7.out)
                have n1_:=A_ (Kd.S_drew HO_9.out)
                have n2_:=A_ (Kd.R_drew HO_10.out)
                have n3_:=A_ (Kd.R_drew HE.out)
                have n4_:=A_ (blk_drew BK145.out)
                have n5_:=A_ (below_drew1 HB.out)
                clear HO_7 HO_9 HO_10 HE BK145 HB
                have HO_7:=n0_
                have HO_9:=n1_
                have HO_10:=n2_
                have HE:=n3_
                have BK145:=n4_
                have HB:=n5_
                clear n0_ n1_ n2_ n3_ n4_ n5_
                refine start_ (n:=15) (S:=fun w'=>w'.cell? ⟨go64,(x54_3:Int).toNat*3+2,none⟩=some (.slice A155_2 ((rd_T62 x9_6 x54_3).f2).length c155_2)) (ds:=[14]) #[false,false,false,false,false,false,false,false,false,false,false,false,false,false,false] (by kernel_rfl) rfl rfl hx155_2 (fun hHeld=>?_);refine with_tabW impl_shapeT.tab25 impl_shapeT.bits25 (fun HT_ HW_=>?_)
                generalize wr.drew=wd at HO_7 HO_9 HO_10 HE BK145 HB hHeld ⊢
                clear hx155_2
                refine pS HT_ 0 105 ?_
                refine pS HT_ 1 106 ?_
                refine pS HT_ 2 107 ?_
                refine pS HT_ 3 108 ?_
                refine pS HT_ 4 109 ?_
                refine pS HT_ 5 110 ?_
                refine pS HT_ 7 112 ?_
                refine pS HT_ 8 113 ?_
                refine pS HT_ 9 114 ?_
                refine tS HT_ HW_ 6 111 hHeld ?_
                refine one_ (i:=10) (N:=some 115) #[true,true,true,true,true,true,true,true,true,true,true,false,false,false,false] rfl rfl (one_of HT_.out (by kernel_rfl)) (by first|decide|exact k62_ne (by decide)|exact kE_ne (by decide)) (fun K hK=>?_)
                refine value_ (w1:=?_) (v:=?_) (by rfl) rfl ?_ ?_
                rotate_left 2
                ·
                 go_simp
                 constructor
                 ·
                  rfl
                 rfl
                refine hK.out _ _ (cl_ (below_alloc (Below.refl _ _) _) hHeld) (fun hHeld2=>?_)
                clear hK K hHeld2
                refine nS (some 115) ?_
                refine one_ (i:=11) (N:=some 116) #[true,true,true,true,true,true,true,true,true,true,true,true,false,false,false] rfl rfl (one_of HT_.out (by kernel_rfl)) (by first|decide|exact k62_ne (by decide)|exact kE_ne (by decide)) (fun K hK=>?_)
                obtain⟨oki77,ce77,hcl77,hM77,hcc77,_,_,hH77⟩:=Kd.S_elem HO_9.out z62 (x54_3:Int) (of_eq_true p155) (by have h_:=of_eq_true q155;first|exact h_|(have e_:=(Kd.S_reads' HO_9.out).1;omega)|simpa using h_)
                obtain⟨ve77_2,rfl,ge77_2⟩:=k62_openM hM77
                have hv77:wd.cell? ⟨go64,(x54_3:Int).toNat*3+2,none⟩=some ve77_2:=hcc77 2 _ rfl
                replace hv77:=Option.some.inj (hv77.symm.trans hHeld)
                subst hv77
                clear hcc77 hcl77 hM77
                have UU77:=A_ (show Kd.R (kE go64) 35 _ w.heap.size oki77 (.slice A155_2 ((rd_T62 x9_6 x54_3).f2).length c155_2) ((rd_T62 x9_6 x54_3).f2) from ge77_2)
                have HH77:=A_ hH77
                have HN77:=A_ (Kd.S_reads' HO_9.out).1
                clear hH77 ge77_2 hHeld
                refine Kd.R_append_step (kE go64) (w0:=w) w.heap.size (by rfl) (.tmp 111) (.tmp 115) 60 35 (.pointer none) 8 rfl Tryd.underlying60 info35 rfl (show 0<1 from Nat.one_pos) (by omega) (.slice A155_2 ((rd_T62 x9_6 x54_3).f2).length c155_2) ((rd_T62 x9_6 x54_3).f2) (rd (rd_L4 t134 x54_3) x101_6) [.pointer (some ⟨go64,(rd (rd_L4 t134 x54_3) x101_6).toNat*3,none⟩)] (fun k_=>oki77 k_∨((fun _=>True)) k_∧wd.heap.size≤k_) (fun _=>False) rfl rfl ?aP (fun _ hk=>hk.elim) ?aF ?aO ?aB ?aS ?aL ?_
                (case aP=>exact rfl)
                (case aB=>exact(bw HB.out))
                (case aF=>exact(fun k_ hk=>.inr ⟨trivial,hk⟩))
                (case aO=>exact(Kd.R_mono UU77.out (fun _ hk=>.inl hk)))
                (case aS=>exact(below_size (bw HB.out)))
                (case aL=>have:=LMc75.out;omega)
                intro v157 w78 ho hb hg hat
                rw[←Ny156.out] at ho
                have n0_:=A_ (Kd.S_over' (v:=(.slice A155_2 ((rd_T62 x9_6 x54_3).f2).length c155_2)) HO_7.out (Kd.R_typed UU77.out) (by first|decide|exact k62_ne (by decide)|exact kE_ne (by decide)) hg)
                have n1_:=A_ (Kd.R_over' (v:=(.slice A155_2 ((rd_T62 x9_6 x54_3).f2).length c155_2)) HO_10.out (Kd.R_typed UU77.out) (by first|decide|exact k62_ne (by decide)|exact kE_ne (by decide)) hg)
                have n6_:=A_ (Kd.R_over' (v:=(.slice A155_2 ((rd_T62 x9_6 x54_3).f2).length c155_2)) HE.out (Kd.R_typed UU77.out) (by first|decide|exact k62_ne (by decide)|exact kE_ne (by decide)) hg)
                have n2_:=A_ (blk_grown (g:=gb145) (o:=.cells #[.int .i64 ((rd_T33 l0 x54_3).f0),.int .i64 ((rd_T33 l0 x54_3).f1),.int .i64 ((rd_T33 l0 x54_3).f2)] 33 (0,0)) BK145.out hg (Kd.R_ne UU77.out BK145.out (by first|decide|exact k62_ne (by decide)|exact kE_ne (by decide))))
                have n3_:=A_ (hb)
                have n4_:=A_ (Kd.H_grown (Kd.H_widen HH77.out) hg (fun k_ e_=>.inl (UU77.out.1 k_ e_)))
                have n5_:=A_ (ho)
                clear HO_7 HO_10 HE BK145 HB HH77 HO_9 UU77
                have HO_7:=n0_
                have HO_10:=n1_
                have HE:=n6_
                have BK145:=n2_
                have HB:=n3_
                have HH77:=n4_
                have HO158:=n5_
                clear n0_ n1_ n2_ n3_ n4_ n5_ n6_ ho hb hg hat
                obtain⟨Ao81,co81,eo81⟩:=Kd.R_slice HO158.out
                subst eo81
                obtain⟨_,_,hraw79,_,_,hcc79,_⟩:=Kd.H_raw HH77.out (of_eq_true p155) (by have h_:=of_eq_true q155;first|exact h_|(have e_:=(HN77.out);omega)|simpa using h_)
                obtain⟨_,hfr79⟩:=Kd.H_at HH77.out (of_eq_true p155) (by have h_:=of_eq_true q155;first|exact h_|(have e_:=(HN77.out);omega)|simpa using h_)
                have hx79_0:w78.cell? ⟨go64,(x54_3:Int).toNat*3+2,none⟩=some (.slice A155_2 ((rd_T62 x9_6 x54_3).f2).length c155_2):=hcc79 2 _ rfl
                have hf79_0:w78.frozen? ⟨go64,(x54_3:Int).toNat*3+2,none⟩=false:=hfr79 2
                have HP79:=Kd.S_seg0 HH77.out (of_eq_true p155) (by have h_:=of_eq_true q155;first|exact h_|(have e_:=(HN77.out);omega)|simpa using h_) (seg:=[.slice Ao81 y156.length co81]) (j:=2) (show 3≤3 from by decide) (x':=(⟨(rd_T62 x9_6 x54_3).f0,(rd_T62 x9_6 x54_3).f1,y156⟩:S62)) (k62_mkM _ _ _ (⟨(rd_T62 x9_6 x54_3).f0,(rd_T62 x9_6 x54_3).f1,y156⟩:S62) HO158.out) (fun _ hk=>hk)
                clear hcc79 hfr79
                refine hK.out _ _ hx79_0 (fun hHeld=>?_)
                clear hK K hHeld
                refine nS (some 116) ?_
                refine pS HT_ 12 117 ?_
                refine pS HT_ 13 118 ?_
                refine last_ (i:=14) (N:=none) #[true,true,true,true,true,true,true,true,true,true,true,true,true,true,true] rfl rfl (one_of HT_.out (by kernel_rfl)) (by first|decide|exact k62_ne (by decide)|exact kE_ne (by decide)) (fun K hK=>?_)
                refine skip_ (w1:=?_) (by rfl) rfl ?_ ?_
                rotate_left
                ·
                 go_simp
                 rfl
                have hw:Kd.S (k62 go64) 62 (w78.setCell ⟨go64,(x54_3:Int).toNat*3+2,none⟩ (.slice Ao81 y156.length co81)) w.heap.size (fun _=>True) (.slice (some ⟨go64,0,none⟩) _ co64) y159:=(by rw[Ny159.out];exact HP79.1)
                have hg:w78.grownBy (w78.setCell ⟨go64,(x54_3:Int).toNat*3+2,none⟩ (.slice Ao81 y156.length co81)) (some go64):=HP79.2
                have n0_:=A_ (Kd.S_over' (v:=(.slice (some ⟨go64,0,none⟩) x9_6.length co64)) HO_7.out (Kd.R_typed hraw79) (by first|decide|exact k62_ne (by decide)|exact kE_ne (by decide)) hg)
                have n1_:=A_ (Kd.R_over' (v:=(.slice (some ⟨go64,0,none⟩) x9_6.length co64)) HO_10.out (Kd.R_typed hraw79) (by first|decide|exact k62_ne (by decide)|exact kE_ne (by decide)) hg)
                have n6_:=A_ (Kd.R_over' (v:=(.slice (some ⟨go64,0,none⟩) x9_6.length co64)) HE.out (Kd.R_typed hraw79) (by first|decide|exact k62_ne (by decide)|exact kE_ne (by decide)) hg)
                have n2_:=A_ (blk_grown (g:=gb145) (o:=.cells #[.int .i64 ((rd_T33 l0 x54_3).f0),.int .i64 ((rd_T33 l0 x54_3).f1),.int .i64 ((rd_T33 l0 x54_3).f2)] 33 (0,0)) BK145.out hg (Kd.R_ne hraw79 BK145.out (by first|decide|exact k62_ne (by decide)|exact kE_ne (by decide))))
                have n3_:=A_ (show Below w.heap.size w (w78.setCell ⟨go64,(x54_3:Int).toNat*3+2,none⟩ (.slice Ao81 y156.length co81)) from below_set HB.out GB64.out)
                have n4_:=A_ hw
                clear HO_7 HO_10 HE BK145 HB HO158 HH77 HP79 hw hg
                have HO_7:=n0_
                have HO_10:=n1_
                have HE:=n6_
                have BK145:=n2_
                have HB:=n3_
                have HO_9:=n4_
                clear n0_ n1_ n2_ n3_ n4_ n6_ hraw79
                refine hK.out _ _ ?_
                clear hK K
                refine dS HT_ ?_
                try go_wp2
                (try simp only[←hl9_6])
                go_roundg k6
                case measure=>have:=HJ1.out;have:=HK2.out;have:=HK3.out;have:=HJ37.out;have:=HJ50.out;have:=HK6.out;omega
                case rel=>exact⟨(y159),(wrap64 (x101_6+1)),rs_,H',⟨by have:=HJ1.out;have:=HK2.out;have:=HK3.out;have:=HJ37.out;have:=HJ50.out;have:=HK6.out;omega⟩,⟨by (try simp only[hl10_37]);(try simp only[hl9_6]);(with_reducible repeat (first|apply Kd.S_alloc|apply Kd.S_drewN|apply Kd.S_drew));exact HO_7.out⟩,⟨by (try simp only[hl10_37]);(try simp only[hl9_6]);(with_reducible repeat (first|apply Kd.S_alloc|apply Kd.S_drewN|apply Kd.S_drew));exact HO_9.out⟩,⟨by (try simp only[hl10_37]);(try simp only[hl9_6]);(with_reducible repeat (first|apply Kd.R_alloc|apply Kd.R_drewN|apply Kd.R_drew));exact HO_10.out⟩,⟨HE.out⟩,⟨by (try simp only[hl10_37]);(try simp only[hl9_6]);(with_reducible repeat (first|refine blk_drewN ?_ _|refine blk_drew ?_|refine blk_alloc ?_ _));exact BK145.out⟩,⟨bw HB.out⟩⟩
               have H':=A_ H
               clear H
               go_wp2
               (try simp only[←hl10_37,←hl9_6])
               go_roundg k6
               case measure=>have:=HJ1.out;have:=HK2.out;have:=HK3.out;have:=HJ37.out;have:=HJ50.out;have:=HK6.out;omega
               case rel=>exact⟨(x9_6),(x10_37),(wrap64 (x54_3+1)),rs_,H',⟨by have:=HJ1.out;have:=HK2.out;have:=HK3.out;have:=HJ37.out;have:=HJ50.out;have:=HK6.out;omega⟩,⟨by (try simp only[hl10_37]);(try simp only[hl9_6]);(with_reducible repeat (first|apply Kd.S_alloc|apply Kd.S_drewN|apply Kd.S_drew));exact HO_7.out⟩,⟨by (try simp only[hl10_37]);(try simp only[hl9_6]);(with_reducible repeat (first|apply Kd.S_alloc|apply Kd.S_drewN|apply Kd.S_drew));exact HO_9.out⟩,⟨by (try simp only[hl10_37]);(try simp only[hl9_6]);(with_reducible repeat (first|apply Kd.R_alloc|apply Kd.R_drewN|apply Kd.R_drew));exact HO_10.out⟩,⟨bw HB.out⟩⟩
        by_cases hz:0<x9_3.length
        ·
         rw[if_pos hz] at H
         simp only[Option.some.injEq,Prod.mk.injEq] at H
         obtain⟨rfl,rfl⟩:=H
         obtain⟨go99,co99,eo99,gb99,gl99,cl99,HG99⟩:=Kd.S_form HO_9.out hz
         have ega:=HGA.out _ _ _ eo99
         injection ega with ega _ _
         subst ega
         subst eo99
         clear gb99 gl99 HG99
         have q99:(0:Int)<(x9_3.length:Int):=by omega
         replace q99:=eq_true q99
         go_wp2
         go_ret2
         exact ShPost.yes rfl HO_9.out HB.out
        rw[if_neg hz] at H
        exact absurd H (by simp)
     simp only[Option.some.injEq,Prod.mk.injEq] at H
     obtain⟨rfl,rfl⟩:=H
     obtain⟨Ao82,co82,eo82⟩:=Kd.R_slice HO_4.out
     subst eo82
     go_wp2_with (first|((with_reducible refine gc_ 19 rfl ?_);refine goesL_ (some 41) rfl rfl Tryd.func19 (by kernel_rfl) rfl #[.slice Ao82 x4_2.length co82] rfl ar ?_;(with_reducible refine(impl_kin.calls k2 _ _ x4_2 t134 false _ ?side1 ?side2 A20.out).mono ?_);(case side1=>repeat (first|exact(Kd.R_reads' HO_4.out).2.2|(with_reducible refine Kd.C_alloc ?_ _)|(with_reducible refine Kd.C_drewN ?_ _)|(with_reducible refine Kd.C_drew ?_)));(case side2=>exact(Kd.R_reads' HO_4.out).2.1);rintro e w83 ⟨v136,rfl,ho0,hb⟩;refine⟨_,rfl,?_⟩;have HO137:=A_ (Kd.S_lower (Kd.S_new' ho0 (Kd.R_lt (kr_ HO_4.out))) (below_size (bw HB.out)));replace HO_4:=A_ (Kd.R_below (kr_ HO_4.out) hb);replace HB:=bs_ HB hb;(try clear hb);(try clear hb2);(try clear hk);(try clear hi);(try clear ho0)))
     go_ret2
     exact ShPost.no (rr_) (bw HB.out)
/-! The tree behind the row. -/
def mapO {α β:Type} (f:α→Option β):List α→Option (List β)
 |[]=>some []
 |x ::xs=>(f x).bind fun y=>(mapO f xs).bind fun ys=>some (y ::ys)
theorem mapO_some {α β:Type} (f:α→Option β):∀ (xs:List α) (ys:List β),mapO f xs=some ys→ys.length=xs.length∧∀ (j:Nat) (y:β),ys[j]? =some y→∃ x,xs[j]? =some x∧f x=some y
 |[],ys,h=>by
  obtain rfl:[]=ys:=Option.some.inj h
  exact⟨rfl,fun j y hj=>by simp at hj⟩
 |x ::xs,ys,h=>by
  obtain⟨y,hy,h⟩:=Option.bind_eq_some_iff.1 h
  obtain⟨zs,hz,h⟩:=Option.bind_eq_some_iff.1 h
  obtain rfl:y ::zs=ys:=Option.some.inj h
  obtain⟨hl,hg⟩:=mapO_some f xs zs hz
  refine⟨by rw[List.length_cons,List.length_cons,hl],fun j z hj=>?_⟩
  cases j with
  |zero=>exact⟨x,rfl,by rw[hy];simpa using hj⟩
  |succ j=>exact hg j z (by simpa using hj)
def treeA:Nat→List S62→Int→Option S43
 |0,_,_=>none
 |n+1,all,i=>if 0≤i∧i<(all.length:Int) then (if (rd_T62 all i).f2.length≤8 then (mapO (treeA n all) (rd_T62 all i).f2).bind (fun ks=>some ⟨(rd_T62 all i).f0,(rd_T62 all i).f1,ks⟩) else none) else none
theorem tree_at {g cap:Nat} {w:World} {base:Nat} {ok:Nat→Prop} {all:List S62} (h:Kd.S (k62 g) 62 w base ok (.slice (some ⟨g,0,none⟩) all.length cap) all):∀ (m:Nat) (i:Int) (t:S43),treeA m all i=some t→TreeAt w m g (i.toNat*3) t:=by
 intro m
 induction m with
 |zero=>intro i t ht;simp[treeA] at ht
 |succ m ih=>
  intro i t ht
  unfold treeA at ht
  by_cases hi:0≤i∧i<(all.length:Int)
  ·
   rw[if_pos hi] at ht
   by_cases h8:(rd_T62 all i).f2.length≤8
   ·
    rw[if_pos h8] at ht
    obtain⟨ks,hks,ht⟩:=Option.bind_eq_some_iff.1 ht
    obtain rfl:=Option.some.inj ht
    obtain⟨hl,hg⟩:=mapO_some _ _ _ hks
    obtain⟨ad,A2,c2,e,x0,x1,x2,l2,g2⟩:=at_T62 (Kd.S_reads' h).2.2 i hi.1 hi.2
    obtain rfl:(⟨g,0,none⟩:Addr)=ad:=by injection e
    rw[add_plain] at x0 x1 x2
    refine⟨x0,x1,by show ks.length≤8;omega,A2,c2,by rw[x2];show _=some (Value.slice A2 ks.length c2);rw[hl],by show ks.length≤c2;omega,fun j x hj=>?_⟩
    obtain⟨k,hk,hx⟩:=hg j x hj
    have hjl:j<(rd_T62 all i).f2.length:=by
     have:=(List.getElem?_eq_some_iff.1 hk).1
     exact this
    obtain⟨ad,c,ea,hc,hK,hcc⟩:=Kd.C_get g2 (0:Int) (j:Int) (by omega) (by omega)
    rw[Int.toNat_natCast,List.getD_eq_getElem?_getD,hk] at hK
    have hc0:c=[Value.pointer (some ⟨g,k.toNat*3,none⟩)]:=hK
    subst hc0
    have hv:=hcc 0 _ rfl
    rw[Int.toNat_natCast,show (kE g).sz=1 from rfl,Nat.mul_one,Nat.add_zero] at hv
    exact⟨ad,g,k.toNat*3,ea,hv,ih k x hx⟩
   rw[if_neg h8] at ht;cases ht
  rw[if_neg hi] at ht;cases ht
def shapeF (k:Nat) (l:List S33):Option (Option S43):=(impl_shapeT.f k l).bind fun q=>if q.2=true then (treeA 9 q.1 0).bind (fun t=>some (some t)) else some none
theorem shape_no (k:Nat) (A0:Option Addr) (c0:Nat) (l0:List S33) (w:World) (hr0:Kd.C k33 w A0 l0.length l0) (hc0:l0.length≤c0) (h:shapeF k l0=some none):
  Calls Tryd.prog 11 #[.slice A0 l0.length c0] w fun e w'=>e=.returned (.tuple #[.pointer none,.bool false])∧Below w.heap.size w w':=by
 obtain⟨⟨r1,r2⟩,h1,h2⟩:=Option.bind_eq_some_iff.1 h
 refine(impl_shapeT.calls k A0 c0 l0 r1 r2 w hr0 hc0 h1).mono fun e w' hp=>?_
 cases r2 with
 |true=>
  obtain⟨t,_,h3⟩:=Option.bind_eq_some_iff.1 h2
  cases h3
 |false=>exact hp
theorem shape_yes (k:Nat) (A0:Option Addr) (c0:Nat) (l0:List S33) (t:S43) (w:World) (hr0:Kd.C k33 w A0 l0.length l0) (hc0:l0.length≤c0) (h:shapeF k l0=some (some t)):
  Calls Tryd.prog 11 #[.slice A0 l0.length c0] w fun e w'=>∃ g:Nat,e=.returned (.tuple #[.pointer (some ⟨g,0,none⟩),.bool true])∧TreeAt w' 9 g 0 t∧Below w.heap.size w w':=by
 obtain⟨⟨r1,r2⟩,h1,h2⟩:=Option.bind_eq_some_iff.1 h
 refine(impl_shapeT.calls k A0 c0 l0 r1 r2 w hr0 hc0 h1).mono fun e w' hp=>?_
 cases r2 with
 |true=>
  obtain⟨t',ht,h3⟩:=Option.bind_eq_some_iff.1 h2
  obtain rfl:=Option.some.inj (Option.some.inj h3)
  unfold ShPost at hp
  rw[if_pos rfl] at hp
  obtain⟨g,cap,he,hs,hb⟩:=hp
  exact⟨g,he,by have:=tree_at hs 9 0 t' ht;simpa using this,hb⟩
 |false=>cases h2
end Go.Proofs.YtoeenmajdidfoaaDoor.Q

