-- Written by a program of this session; it walks the functions that the law reaches.
import Derived.Test.YtoeenmajdidfoaaDoorQx0
import Derived.Test.YtoeenmajdidfoaaDoorQx6
import Derived.Test.YtoeenmajdidfoaaDoorQx8
import Derived.Test.YtoeenmajdidfoaaDoorQx1
import Derived.Test.YtoeenmajdidfoaaDoorQx5
import Derived.Test.YtoeenmajdidfoaaDoorQx3
namespace Go.Proofs.YtoeenmajdidfoaaDoor.Q
open Go.RowKit Go.Proofs.YtoeenmajdidfoaaDoorW.PrintWords Go.Proofs.YtoeenmajdidfoaaDoorW.PrintLast Go.Proofs.YtoeenmajdidfoaaDoorW.PrintMore
attribute [local go_sem] max2_int min2_int max_two min_two max_three min_three max_four min_four   -- for this text's walks alone
set_option linter.unusedVariables false
set_option linter.unusedSimpArgs false
set_option maxRecDepth 100000
set_option maxHeartbeats 8000000


/-! ### impl_ReadType: function 7 (walked by hand) -/
/-! The reader of types by its text. -/
def impl_ReadType.f (k:Nat) (a0:ByteArray):Option (List S33 × Bool):=(readF 10 a0 [] (-1) 1).bind fun x=>if x.1=true then (if x.2.1.toList=([]:List UInt8) then (impl_TypeText.f k x.2.2).bind fun t=>if t.2=true then (if t.1.toList=a0.toList then some (x.2.2,true) else some ([],false)) else some ([],false) else some ([],false)) else some ([],false)
theorem impl_ReadType.calls (k:Nat) (a0:ByteArray) (r1:List S33) (r2:Bool) (w:World) (HTab:Tab w) (h:impl_ReadType.f k a0=some (r1,r2)):
  Calls Tryd.prog 7 #[.string a0] w fun e w'=>∃ v0_:Value,e=.returned (.tuple #[v0_,.bool r2])∧Kd.R k33 33 w' w.heap.size (fun _=>True) v0_ r1∧Below w.heap.size w w':=by
 have HTB:=A_ HTab
 clear HTab
 obtain⟨⟨b,s',l⟩,hr,h⟩:=Option.bind_eq_some_iff.1 h
 have HR:=A_ hr
 clear hr
 cases b with
 |false=>
  rw[if_neg (show ¬(false=true) by decide)] at h
  obtain⟨rfl,rfl⟩:=Prod.mk.inj (Option.some.inj h)
  clear h
  go_enter Tryd.func7,Tryd.ntmps7
  go_wp2_with (first|((with_reducible refine gd_ 4 rfl ?_);refine bx_ #[.string ⟨#[]⟩,.slice none 0 0] 46 ?_;intro gb hg wx hbox hb;have BK:=A_ hbox;have HBb:=A_ hb;have GE:=A_ (show w.heap.size≤gb from Nat.le_of_eq hg.symm);clear hbox hb hg;have z0:wx.cell? ⟨gb,0,none⟩=some (.string ⟨#[]⟩):=(blk_cell BK.out 0).trans rfl;have z1:wx.cell? ⟨gb,1,none⟩=some (.slice none 0 0):=(blk_cell BK.out 1).trans rfl;have y0:=blk_frozen BK.out 0;have y1:=blk_frozen BK.out 1)|((with_reducible refine gate_store (t:=46) (p:=4) rfl ?_);refine store_event (t:=46) (p:=4) (v:=?vo_a) (w1:=((wx.setCell ⟨gb,0,none⟩ (.string a0)).setCell ⟨gb,1,none⟩ (.slice none 0 0))) ?hg ?ho ?hn ?hr ?_;(case ho=>rfl);(case hg=>rfl);(case hn=>rfl);(case hr=>first|(go_simp;done)|(go_simp;rfl));intro wc hw;have HW:=A_ (show Below w.heap.size w wc from by rw[hw];exact below_set (below_set HBb.out GE.out) GE.out);have BK2:Aside0 (wc.heap[gb]? =some (.cells #[.string a0,.slice none 0 0] 46 (0,0))):=⟨by rw[hw];refine blk_put (cs:=#[.string a0,.slice none 0 0]) ?_ 1 _ rfl;refine blk_put (cs:=#[.string ⟨#[]⟩,.slice none 0 0]) ?_ 0 _ rfl;exact BK.out⟩;clear hw z0 z1 y0 y1 BK HBb;have HO:Aside0 (Rd w wc gb a0 [] none 0):=⟨GE.out,HW.out,BK2.out,Kd.R_nil _ _ _ _ _⟩;clear BK2 HW GE)|(go_at_call 16;refine(read_any w 10 _ gb _ _ (-1) 1 _ _ _ (by decide) ⟨_,_,HO.out⟩ HR.out).mono ?_;rintro e w5 ⟨rfl,A5,c5,hb⟩;replace HO:=A_ hb;clear hb;have c0:=HO.out.cell0;have c1:=HO.out.cell1))
  go_ret2
  exact⟨_,rfl,Kd.R_nil _ _ _ _ _,HO.out.2.1⟩
 |true=>
  rw[if_pos (show true=true from rfl)] at h
  by_cases hs:s'.toList=([]:List UInt8)
  ·
   rw[if_pos hs] at h
   obtain⟨e0,e1⟩:=eT_ hs
   obtain⟨⟨t,tk⟩,ht,h⟩:=Option.bind_eq_some_iff.1 h
   have HT:=A_ ht
   clear ht
   cases tk with
   |false=>
    rw[if_neg (show ¬(false=true) by decide)] at h
    obtain⟨rfl,rfl⟩:=Prod.mk.inj (Option.some.inj h)
    clear h
    go_enter Tryd.func7,Tryd.ntmps7
    go_wp2_with (first|((with_reducible refine gd_ 4 rfl ?_);refine bx_ #[.string ⟨#[]⟩,.slice none 0 0] 46 ?_;intro gb hg wx hbox hb;have BK:=A_ hbox;have HBb:=A_ hb;have GE:=A_ (show w.heap.size≤gb from Nat.le_of_eq hg.symm);clear hbox hb hg;have z0:wx.cell? ⟨gb,0,none⟩=some (.string ⟨#[]⟩):=(blk_cell BK.out 0).trans rfl;have z1:wx.cell? ⟨gb,1,none⟩=some (.slice none 0 0):=(blk_cell BK.out 1).trans rfl;have y0:=blk_frozen BK.out 0;have y1:=blk_frozen BK.out 1)|((with_reducible refine gate_store (t:=46) (p:=4) rfl ?_);refine store_event (t:=46) (p:=4) (v:=?vo_a) (w1:=((wx.setCell ⟨gb,0,none⟩ (.string a0)).setCell ⟨gb,1,none⟩ (.slice none 0 0))) ?hg ?ho ?hn ?hr ?_;(case ho=>rfl);(case hg=>rfl);(case hn=>rfl);(case hr=>first|(go_simp;done)|(go_simp;rfl));intro wc hw;have HW:=A_ (show Below w.heap.size w wc from by rw[hw];exact below_set (below_set HBb.out GE.out) GE.out);have BK2:Aside0 (wc.heap[gb]? =some (.cells #[.string a0,.slice none 0 0] 46 (0,0))):=⟨by rw[hw];refine blk_put (cs:=#[.string a0,.slice none 0 0]) ?_ 1 _ rfl;refine blk_put (cs:=#[.string ⟨#[]⟩,.slice none 0 0]) ?_ 0 _ rfl;exact BK.out⟩;clear hw z0 z1 y0 y1 BK HBb;have HO:Aside0 (Rd w wc gb a0 [] none 0):=⟨GE.out,HW.out,BK2.out,Kd.R_nil _ _ _ _ _⟩;clear BK2 HW GE)|(go_at_call 16;refine(read_any w 10 _ gb _ _ (-1) 1 _ _ _ (by decide) ⟨_,_,HO.out⟩ HR.out).mono ?_;rintro e w5 ⟨rfl,A5,c5,hb⟩;replace HO:=A_ hb;clear hb;have c0:=HO.out.cell0;have c1:=HO.out.cell1)|(go_at_call 5;refine(impl_TypeText.calls k A5 c5 l _ _ _ (Kd.R_reads' HO.out.2.2.2).2.2 HO.out.len.2 (tab_below HTB.out HO.out.2.1) HT.out).mono ?_;rintro e w6 ⟨rfl,hb⟩;replace HO:=A_ (HO.out.below hb);clear c0 c1 hb;have c0:=HO.out.cell0;have c1:=HO.out.cell1))
    go_ret2
    exact⟨_,rfl,Kd.R_nil _ _ _ _ _,HO.out.2.1⟩
   |true=>
    rw[if_pos (show true=true from rfl)] at h
    by_cases hq:t.toList=a0.toList
    ·
     rw[if_pos hq] at h
     obtain⟨q0,q1⟩:=eT_ hq
     obtain⟨rfl,rfl⟩:=Prod.mk.inj (Option.some.inj h)
     clear h
     go_enter Tryd.func7,Tryd.ntmps7
     go_wp2_with (first|((with_reducible refine gd_ 4 rfl ?_);refine bx_ #[.string ⟨#[]⟩,.slice none 0 0] 46 ?_;intro gb hg wx hbox hb;have BK:=A_ hbox;have HBb:=A_ hb;have GE:=A_ (show w.heap.size≤gb from Nat.le_of_eq hg.symm);clear hbox hb hg;have z0:wx.cell? ⟨gb,0,none⟩=some (.string ⟨#[]⟩):=(blk_cell BK.out 0).trans rfl;have z1:wx.cell? ⟨gb,1,none⟩=some (.slice none 0 0):=(blk_cell BK.out 1).trans rfl;have y0:=blk_frozen BK.out 0;have y1:=blk_frozen BK.out 1)|((with_reducible refine gate_store (t:=46) (p:=4) rfl ?_);refine store_event (t:=46) (p:=4) (v:=?vo_a) (w1:=((wx.setCell ⟨gb,0,none⟩ (.string a0)).setCell ⟨gb,1,none⟩ (.slice none 0 0))) ?hg ?ho ?hn ?hr ?_;(case ho=>rfl);(case hg=>rfl);(case hn=>rfl);(case hr=>first|(go_simp;done)|(go_simp;rfl));intro wc hw;have HW:=A_ (show Below w.heap.size w wc from by rw[hw];exact below_set (below_set HBb.out GE.out) GE.out);have BK2:Aside0 (wc.heap[gb]? =some (.cells #[.string a0,.slice none 0 0] 46 (0,0))):=⟨by rw[hw];refine blk_put (cs:=#[.string a0,.slice none 0 0]) ?_ 1 _ rfl;refine blk_put (cs:=#[.string ⟨#[]⟩,.slice none 0 0]) ?_ 0 _ rfl;exact BK.out⟩;clear hw z0 z1 y0 y1 BK HBb;have HO:Aside0 (Rd w wc gb a0 [] none 0):=⟨GE.out,HW.out,BK2.out,Kd.R_nil _ _ _ _ _⟩;clear BK2 HW GE)|(go_at_call 16;refine(read_any w 10 _ gb _ _ (-1) 1 _ _ _ (by decide) ⟨_,_,HO.out⟩ HR.out).mono ?_;rintro e w5 ⟨rfl,A5,c5,hb⟩;replace HO:=A_ hb;clear hb;have c0:=HO.out.cell0;have c1:=HO.out.cell1)|(go_at_call 5;refine(impl_TypeText.calls k A5 c5 l _ _ _ (Kd.R_reads' HO.out.2.2.2).2.2 HO.out.len.2 (tab_below HTB.out HO.out.2.1) HT.out).mono ?_;rintro e w6 ⟨rfl,hb⟩;replace HO:=A_ (HO.out.below hb);clear c0 c1 hb;have c0:=HO.out.cell0;have c1:=HO.out.cell1))
     go_ret2
     exact⟨_,rfl,HO.out.2.2.2,HO.out.2.1⟩
    rw[if_neg hq] at h
    obtain⟨q0,q1⟩:=eF_ hq
    obtain⟨rfl,rfl⟩:=Prod.mk.inj (Option.some.inj h)
    clear h
    go_enter Tryd.func7,Tryd.ntmps7
    go_wp2_with (first|((with_reducible refine gd_ 4 rfl ?_);refine bx_ #[.string ⟨#[]⟩,.slice none 0 0] 46 ?_;intro gb hg wx hbox hb;have BK:=A_ hbox;have HBb:=A_ hb;have GE:=A_ (show w.heap.size≤gb from Nat.le_of_eq hg.symm);clear hbox hb hg;have z0:wx.cell? ⟨gb,0,none⟩=some (.string ⟨#[]⟩):=(blk_cell BK.out 0).trans rfl;have z1:wx.cell? ⟨gb,1,none⟩=some (.slice none 0 0):=(blk_cell BK.out 1).trans rfl;have y0:=blk_frozen BK.out 0;have y1:=blk_frozen BK.out 1)|((with_reducible refine gate_store (t:=46) (p:=4) rfl ?_);refine store_event (t:=46) (p:=4) (v:=?vo_a) (w1:=((wx.setCell ⟨gb,0,none⟩ (.string a0)).setCell ⟨gb,1,none⟩ (.slice none 0 0))) ?hg ?ho ?hn ?hr ?_;(case ho=>rfl);(case hg=>rfl);(case hn=>rfl);(case hr=>first|(go_simp;done)|(go_simp;rfl));intro wc hw;have HW:=A_ (show Below w.heap.size w wc from by rw[hw];exact below_set (below_set HBb.out GE.out) GE.out);have BK2:Aside0 (wc.heap[gb]? =some (.cells #[.string a0,.slice none 0 0] 46 (0,0))):=⟨by rw[hw];refine blk_put (cs:=#[.string a0,.slice none 0 0]) ?_ 1 _ rfl;refine blk_put (cs:=#[.string ⟨#[]⟩,.slice none 0 0]) ?_ 0 _ rfl;exact BK.out⟩;clear hw z0 z1 y0 y1 BK HBb;have HO:Aside0 (Rd w wc gb a0 [] none 0):=⟨GE.out,HW.out,BK2.out,Kd.R_nil _ _ _ _ _⟩;clear BK2 HW GE)|(go_at_call 16;refine(read_any w 10 _ gb _ _ (-1) 1 _ _ _ (by decide) ⟨_,_,HO.out⟩ HR.out).mono ?_;rintro e w5 ⟨rfl,A5,c5,hb⟩;replace HO:=A_ hb;clear hb;have c0:=HO.out.cell0;have c1:=HO.out.cell1)|(go_at_call 5;refine(impl_TypeText.calls k A5 c5 l _ _ _ (Kd.R_reads' HO.out.2.2.2).2.2 HO.out.len.2 (tab_below HTB.out HO.out.2.1) HT.out).mono ?_;rintro e w6 ⟨rfl,hb⟩;replace HO:=A_ (HO.out.below hb);clear c0 c1 hb;have c0:=HO.out.cell0;have c1:=HO.out.cell1))
    go_ret2
    exact⟨_,rfl,Kd.R_nil _ _ _ _ _,HO.out.2.1⟩
  rw[if_neg hs] at h
  obtain⟨e0,e1⟩:=eF_ hs
  obtain⟨rfl,rfl⟩:=Prod.mk.inj (Option.some.inj h)
  clear h
  go_enter Tryd.func7,Tryd.ntmps7
  go_wp2_with (first|((with_reducible refine gd_ 4 rfl ?_);refine bx_ #[.string ⟨#[]⟩,.slice none 0 0] 46 ?_;intro gb hg wx hbox hb;have BK:=A_ hbox;have HBb:=A_ hb;have GE:=A_ (show w.heap.size≤gb from Nat.le_of_eq hg.symm);clear hbox hb hg;have z0:wx.cell? ⟨gb,0,none⟩=some (.string ⟨#[]⟩):=(blk_cell BK.out 0).trans rfl;have z1:wx.cell? ⟨gb,1,none⟩=some (.slice none 0 0):=(blk_cell BK.out 1).trans rfl;have y0:=blk_frozen BK.out 0;have y1:=blk_frozen BK.out 1)|((with_reducible refine gate_store (t:=46) (p:=4) rfl ?_);refine store_event (t:=46) (p:=4) (v:=?vo_a) (w1:=((wx.setCell ⟨gb,0,none⟩ (.string a0)).setCell ⟨gb,1,none⟩ (.slice none 0 0))) ?hg ?ho ?hn ?hr ?_;(case ho=>rfl);(case hg=>rfl);(case hn=>rfl);(case hr=>first|(go_simp;done)|(go_simp;rfl));intro wc hw;have HW:=A_ (show Below w.heap.size w wc from by rw[hw];exact below_set (below_set HBb.out GE.out) GE.out);have BK2:Aside0 (wc.heap[gb]? =some (.cells #[.string a0,.slice none 0 0] 46 (0,0))):=⟨by rw[hw];refine blk_put (cs:=#[.string a0,.slice none 0 0]) ?_ 1 _ rfl;refine blk_put (cs:=#[.string ⟨#[]⟩,.slice none 0 0]) ?_ 0 _ rfl;exact BK.out⟩;clear hw z0 z1 y0 y1 BK HBb;have HO:Aside0 (Rd w wc gb a0 [] none 0):=⟨GE.out,HW.out,BK2.out,Kd.R_nil _ _ _ _ _⟩;clear BK2 HW GE)|(go_at_call 16;refine(read_any w 10 _ gb _ _ (-1) 1 _ _ _ (by decide) ⟨_,_,HO.out⟩ HR.out).mono ?_;rintro e w5 ⟨rfl,A5,c5,hb⟩;replace HO:=A_ hb;clear hb;have c0:=HO.out.cell0;have c1:=HO.out.cell1))
  go_ret2
  exact⟨_,rfl,Kd.R_nil _ _ _ _ _,HO.out.2.1⟩


/-! ### impl_shape_handles: function 17 (walked by hand) -/

/-! Handles. -/
def handlesT:Nat→S43→Bool
 |0,_=>false
 |n+1,t=>t.f0==20 ||t.f0==21 ||t.f2.any (handlesT n)

/-- The places of a row of trees, read out of the memory. -/
def KidsAt (w:World) (n:Nat) (A:Option Addr) (l:List S43):Prop:=∀ i x,l[i]? =some x→∃ ad pb po,A=some ad∧w.cell? (ad.add i)=some (.pointer (some ⟨pb,po,none⟩))∧TreeAt w n pb po x

set_option maxHeartbeats 2000000 in
theorem index_any (n:Nat) (ih:∀ (t:S43) (b o:Nat) (w:World),TreeAt w n b o t→Calls Tryd.prog 17 #[.pointer (some ⟨b,o,none⟩)] w fun e w'=>e=.returned (.bool (handlesT n t))∧w=w')
  (l:List S43) (A:Option Addr) (c:Nat) (w:World) (hl:l.length≤1000000) (hk:KidsAt w n A l):
  Calls Tryd.prog 46 #[.slice A l.length c,.func (.func 17) #[] #[]] w fun e w'=>(∃ r:Int,e=.returned (.int .i64 r)∧decide (r≥0)=l.any (handlesT n))∧w=w':=by
 go_enter Tryd.func46,Tryd.ntmps46
 go_wp2
 go_loopg [8] l.length (fun kq v8 w'=>∃ j:Nat,w=w'∧j+kq=l.length∧v8=.int .i64 j∧Aside0 ((l.take j).any (handlesT n)=false))
 case atStart=>exact⟨0,rfl,by omega,rfl,⟨rfl⟩⟩
 case round=>
  obtain⟨j,rfl,hj,rfl,HA⟩:=hrel
  by_cases hlt:j<l.length
  ·
   obtain⟨ad,pb,po,hA,hp,hT⟩:=hk j l[j] (List.getElem?_eq_getElem hlt)
   subst hA
   clear hk
   cases hv:handlesT n l[j] with
   |true=>
    have HV:=A_ hv
    go_wp2_with (first|(go_at_call 17;refine(ih l[j] pb po _ hT).mono ?_;rw[HV.out];rintro e w' ⟨rfl,rfl⟩))
    go_ret
    refine⟨⟨j,rfl,?_⟩,rfl⟩
    rw[decide_eq_true (by omega)]
    exact(List.any_eq_true.2 ⟨l[j],List.getElem_mem hlt,HV.out⟩).symm
   |false=>
    have HV:=A_ hv
    clear hv
    go_wp2_with (first|(go_at_call 17;refine(ih l[j] pb po _ hT).mono ?_;rw[HV.out];rintro e w' ⟨rfl,rfl⟩))
    go_roundg (l.length - (j+1))
    case rel=>exact⟨j+1,rfl,by omega,by go_num,⟨by rw[List.take_succ_eq_append_getElem hlt,List.any_append,HA.out];simp[HV.out]⟩⟩
    case measure=>omega
  obtain rfl:j=l.length:=by omega
  clear hk
  have HB:=A_ (show l.any (handlesT n)=false by have:=HA.out;rwa [List.take_length] at this)
  go_wp2
  go_ret
  exact⟨⟨-1,rfl,by rw[HB.out];rfl⟩,rfl⟩

set_option maxHeartbeats 2000000 in
theorem contains_any (n:Nat) (ih:∀ (t:S43) (b o:Nat) (w:World),TreeAt w n b o t→Calls Tryd.prog 17 #[.pointer (some ⟨b,o,none⟩)] w fun e w'=>e=.returned (.bool (handlesT n t))∧w=w')
  (l:List S43) (A:Option Addr) (c:Nat) (w:World) (hl:l.length≤1000000) (hk:KidsAt w n A l):
  Calls Tryd.prog 33 #[.slice A l.length c,.func (.func 17) #[] #[]] w fun e w'=>e=.returned (.bool (l.any (handlesT n)))∧w=w':=by
 go_enter Tryd.func33,Tryd.ntmps33
 go_wp2_with (first|(go_at_call 46;refine(index_any n ih l A c _ hl hk).mono ?_;rintro e w' ⟨⟨r,rfl,HR⟩,rfl⟩;replace HR:=A_ HR))
 go_ret
 exact⟨by rw[←HR.out];rfl,rfl⟩

set_option maxHeartbeats 2000000 in
theorem handles_any (n:Nat):∀ (t:S43) (b o:Nat) (w:World),TreeAt w n b o t→
  Calls Tryd.prog 17 #[.pointer (some ⟨b,o,none⟩)] w fun e w'=>e=.returned (.bool (handlesT n t))∧w=w':=by
 induction n with
 |zero=>intro t b o w h;exact h.elim
 |succ n ih=>
  intro t b o w h
  obtain⟨h0,h1,hl,A,c,h2,hc,hk⟩:=h
  by_cases c1:t.f0=20
  ·
   have c1b:(t.f0==20)=true:=beq_iff_eq.2 c1
   have E:handlesT (n+1) t=true:=by rw[handlesT,c1b];rfl
   rw[E];clear E c1 hk
   go_enter Tryd.func17,Tryd.ntmps17
   go_wp2
   go_ret
   exact⟨rfl,rfl⟩
  have c1b:(t.f0==20)=false:=beq_eq_false_iff_ne.2 c1
  by_cases c2:t.f0=21
  ·
   have c2b:(t.f0==21)=true:=beq_iff_eq.2 c2
   have E:handlesT (n+1) t=true:=by rw[handlesT,c1b,c2b];rfl
   rw[E];clear E c1 c2 hk
   go_enter Tryd.func17,Tryd.ntmps17
   go_wp2
   go_ret
   exact⟨rfl,rfl⟩
  have c2b:(t.f0==21)=false:=beq_eq_false_iff_ne.2 c2
  have E:handlesT (n+1) t=t.f2.any (handlesT n):=by rw[handlesT,c1b,c2b];rfl
  rw[E];clear E c1 c2
  have HK:=A_ hk
  clear hk
  go_enter Tryd.func17,Tryd.ntmps17
  go_wp2_with (first|(go_at_call 33;refine(contains_any n ih t.f2 A c _ (by omega) HK.out).mono ?_;rintro e w' ⟨rfl,rfl⟩))
  go_ret
  exact⟨rfl,rfl⟩


/-! ### impl_HasHandles: function 8 (walked by hand) -/
def impl_HasHandles.f (k:Nat) (l0:List S33):Option (Bool × Bool):=(shapeF k l0).bind fun r=>match r with|none=>some (false,false)|some t=>some (handlesT 9 t,true)
set_option maxHeartbeats 4000000 in
theorem impl_HasHandles.calls (k:Nat) (A0:Option Addr) (c0:Nat) (l0:List (S33)) (r1:Bool) (r2:Bool) (w:World) (hr0:Kd.C k33 w A0 l0.length l0) (hc0:l0.length≤c0) (h:impl_HasHandles.f k l0=some (r1,r2)):
  Calls Tryd.prog 8 #[.slice A0 l0.length c0] w fun e w'=>e=.returned (.tuple #[.bool r1,.bool r2])∧Below w.heap.size w w':=by
 obtain⟨r,hs,h⟩:=Option.bind_eq_some_iff.1 h
 cases r with
 |none=>
  obtain⟨rfl,rfl⟩:=Prod.mk.inj (Option.some.inj h)
  clear h
  go_enter Tryd.func8,Tryd.ntmps8
  go_wp2_with (first|(go_at_call 11;refine(shape_no k A0 c0 l0 _ hr0 hc0 hs).mono ?_;rintro e w' ⟨rfl,hb⟩;have HB:=A_ hb;clear hb))
  go_ret2
  exact⟨rfl,HB.out⟩
 |some t=>
  obtain⟨rfl,rfl⟩:=Prod.mk.inj (Option.some.inj h)
  clear h
  go_enter Tryd.func8,Tryd.ntmps8
  go_wp2_with (first|(go_at_call 11;refine(shape_yes k A0 c0 l0 t _ hr0 hc0 hs).mono ?_;rintro e w' ⟨g,rfl,ht,hb⟩;have HT:=A_ ht;have HB:=A_ hb;clear ht hb)|(go_at_call 17;refine(handles_any 9 t g 0 _ HT.out).mono ?_;rintro e w' ⟨rfl,rfl⟩))
  go_ret2
  exact⟨rfl,HB.out⟩

attribute [local go_sem high] eqA33
/-! ### laws_sameTypes: function 9 -/
def laws_sameTypes.l0:Nat→List (S33)→List (S33)→Int→Int→Option (Bool)
 |0,_,_,_,_=>none
 |k+1,x0,x1,x12,x13=>if x13<x12 then (if 0≤x13 then (if x13<(x0.length:Int) then (if x13<(x1.length:Int) then (if (!(((rd_T33 x0 x13).f0)==((rd_T33 x1 x13).f0)) ||(!(((rd_T33 x0 x13).f1)==((rd_T33 x1 x13).f1)) ||(!(((rd_T33 x0 x13).f2)==((rd_T33 x1 x13).f2)))))=true then (some false) else (laws_sameTypes.l0 k x0 x1 x12 (wrap64 (x13+1)))) else (none)) else (none)) else (none)) else (some true)
def laws_sameTypes.f (k:Nat) (l0:List (S33)) (l1:List (S33)):Option (Bool):=if (l0.length:Int)=(l1.length:Int) then (laws_sameTypes.l0 k l0 l1 (l0.length:Int) 0) else (some false)
theorem laws_sameTypes.calls (k:Nat) (A0:Option Addr) (c0:Nat) (l0:List (S33)) (A1:Option Addr) (c1:Nat) (l1:List (S33)) (r:Bool) (w:World) (hr0:Kd.C k33 w A0 l0.length l0) (hc0:l0.length≤c0) (hr1:Kd.C k33 w A1 l1.length l1) (hc1:l1.length≤c1) (h:laws_sameTypes.f k l0 l1=some r):
  Calls Tryd.prog 9 #[.slice A0 l0.length c0,.slice A1 l1.length c1] w fun e w'=>e=.returned (.bool r)∧Drawn0 w w':=by
 have hu33:=Tryd.underlying33
 have HR0:=A_ hr0
 have HC0:=A_ hc0
 clear hr0 hc0
 have HR1:=A_ hr1
 have HC1:=A_ hc1
 clear hr1 hc1
 have H:(if (l0.length:Int)=(l1.length:Int) then (laws_sameTypes.l0 k l0 l1 (l0.length:Int) 0) else (some false))=some r:=h
 clear h
 by_cases c3:(l0.length:Int)=(l1.length:Int)
 ·
  rw[if_pos c3] at H
  obtain⟨c3b0,c3b1⟩:=eT_ c3
  have c3b2:(l0.length==l1.length)=true:=by first|simpa using c3|(simp at c3 ⊢;omega)
  clear c3
  have H':=A_ H
  clear H
  go_enter Tryd.func9,Tryd.ntmps9
  go_wp2
  repeat (go_quiet (fail);try go_wp2)
  (try simp only[Act.put,List.setIfInBounds_toArray,List.set_cons_zero,List.set_cons_succ])
  go_loopg [13] k (fun kq v13 w'=>∃ (x13_1:Int),v13=.int .i64 x13_1∧Aside0 (laws_sameTypes.l0 kq l0 l1 (l0.length:Int) x13_1=some r)∧Aside0 (kq≤k)∧Drawn0 w w')
  case atStart=>exact⟨(0),rs_,H',⟨Nat.le_refl _⟩,dr_⟩
  case round=>
   clear H'
   try clear c1 c3 c3b0 c3b1 c3b2
   obtain⟨x13_1,rfl,HA,HK1,⟨m1,rfl⟩⟩:=hrel
   cases gk with
   |zero=>exact absurd HA.out (by simp[laws_sameTypes.l0])
   |succ k1=>
    have H:=HA.out
    clear HA
    simp only[laws_sameTypes.l0] at H
    revert H
    refine iL_ (fun c4b0 H=>?_) (fun c4b0 H=>?_)
    ·
     replace H:=id_ H
     obtain⟨c5b0,H⟩:=H
     replace H:=id_ H
     obtain⟨c6b0,H⟩:=H
     replace H:=id_ H
     obtain⟨c7b0,H⟩:=H
     by_cases c8:(!(((rd_T33 l0 x13_1).f0)==((rd_T33 l1 x13_1).f0)) ||(!(((rd_T33 l0 x13_1).f1)==((rd_T33 l1 x13_1).f1)) ||(!(((rd_T33 l0 x13_1).f2)==((rd_T33 l1 x13_1).f2)))))=true
     ·
      rw[if_pos c8] at H
      have c8b0:(!(((rd_T33 l0 x13_1).f0)==((rd_T33 l1 x13_1).f0)) ||(!(((rd_T33 l0 x13_1).f1)==((rd_T33 l1 x13_1).f1)) ||(!(((rd_T33 l0 x13_1).f2)==((rd_T33 l1 x13_1).f2)))))=true:=c8
      clear c8
      obtain rfl:=Option.some.inj H
      clear H
      have p322:0≤(x13_1:Int):=od_
      have q322:x13_1<(l0.length:Int):=od_
      obtain⟨ad322,e322,hx322_0,hx322_1,hx322_2⟩:=at_T33 HR0.out x13_1 p322 q322
      cases e322
      replace p322:=eq_true p322
      replace q322:=eq_true q322
      have p323:0≤(x13_1:Int):=od_
      have q323:x13_1<(l1.length:Int):=od_
      obtain⟨ad323,e323,hx323_0,hx323_1,hx323_2⟩:=at_T33 HR1.out x13_1 p323 q323
      cases e323
      replace p323:=eq_true p323
      replace q323:=eq_true q323
      go_wp2
      repeat (go_quiet (fail);try go_wp2)
      go_ret
      exact⟨rs_,dr_⟩
     rw[if_neg c8] at H
     have c8b0:(!(((rd_T33 l0 x13_1).f0)==((rd_T33 l1 x13_1).f0)) ||(!(((rd_T33 l0 x13_1).f1)==((rd_T33 l1 x13_1).f1)) ||(!(((rd_T33 l0 x13_1).f2)==((rd_T33 l1 x13_1).f2)))))=false:=by simpa using c8
     clear c8
     have H':=A_ H
     clear H
     have p322:0≤(x13_1:Int):=od_
     have q322:x13_1<(l0.length:Int):=od_
     obtain⟨ad322,e322,hx322_0,hx322_1,hx322_2⟩:=at_T33 HR0.out x13_1 p322 q322
     cases e322
     replace p322:=eq_true p322
     replace q322:=eq_true q322
     have p323:0≤(x13_1:Int):=od_
     have q323:x13_1<(l1.length:Int):=od_
     obtain⟨ad323,e323,hx323_0,hx323_1,hx323_2⟩:=at_T33 HR1.out x13_1 p323 q323
     cases e323
     replace p323:=eq_true p323
     replace q323:=eq_true q323
     go_wp2
     repeat (go_quiet (fail);try go_wp2)
     go_roundg k1
     case measure=>have:=HK1.out;omega
     case rel=>exact⟨(wrap64 (x13_1+1)),rs_,H',⟨by have:=HK1.out;omega⟩,dr_⟩
    obtain rfl:=Option.some.inj H
    clear H
    go_wp2
    repeat (go_quiet (fail);try go_wp2)
    go_ret
    exact⟨rs_,dr_⟩
 rw[if_neg c3] at H
 obtain⟨c3b0,c3b1⟩:=eF_ c3
 have c3b2:(l0.length==l1.length)=false:=by first|simpa using c3|(simp at c3 ⊢;omega)
 obtain rfl:=Option.some.inj H
 clear H
 go_enter Tryd.func9,Tryd.ntmps9
 go_wp2
 repeat (go_quiet (fail);try go_wp2)
 go_ret
 exact⟨rs_,dr_⟩

/-! ### laws_FnTypes: function 3 -/
mutual
def laws_FnTypes.j0:Nat→List (S33)→ByteArray→Bool→Bool→Option (Bool)
 |0,_,_,_,_=>none
 |k+1,x3,x4,x5,x37=>if x37=true then (some false) else (if x5=true then ((impl_ReadType.f k x4).bind fun bt331=>((impl_HasHandles.f k x3).bind fun bt335=>(if bt331.2=true then (if bt335.2=true then ((laws_sameTypes.f k x3 bt331.1).bind fun t337=>(laws_FnTypes.j1 k x3 bt335.1 (!t337))) else (laws_FnTypes.j1 k x3 bt335.1 true)) else (laws_FnTypes.j1 k x3 bt335.1 true)))) else (some (x4.toList==([]:List UInt8))))
def laws_FnTypes.j1:Nat→List (S33)→Bool→Bool→Option (Bool)
 |0,_,_,_=>none
 |k+1,x3,x10,x63=>if x63=true then (some false) else (laws_FnTypes.l0 k x10 false x3 (x3.length:Int) 0)
def laws_FnTypes.l0:Nat→Bool→Bool→List (S33)→Int→Int→Option (Bool)
 |0,_,_,_,_,_=>none
 |k+1,x10,x12,x64,x65,x66=>if x66<x65 then (if 0≤x66 then (if x66<(x64.length:Int) then (if x12=true then (laws_FnTypes.l0 k x10 true x64 x65 (wrap64 (x66+1))) else (if ((rd_T33 x64 x66).f0)=20 then (laws_FnTypes.l0 k x10 true x64 x65 (wrap64 (x66+1))) else (laws_FnTypes.l0 k x10 (((rd_T33 x64 x66).f0)==21) x64 x65 (wrap64 (x66+1))))) else (none)) else (none)) else (some (x10==x12))
end
def laws_FnTypes.f (k:Nat) (l0:List Int):Option (Bool):=if (l0.length:Int) > 1048576 then (some true) else ((spec_DrawTypeText.f k l0).bind fun t324=>((impl_TypeText.f k t324).bind fun bt327=>((spec_TypeText.f k t324).bind fun bt329=>(if (bt327.2 !=bt329.2)=true then (laws_FnTypes.j0 k t324 bt327.1 bt327.2 true) else (laws_FnTypes.j0 k t324 bt327.1 bt327.2 (bt327.1.toList !=bt329.1.toList))))))
theorem laws_FnTypes.calls (k:Nat) (A0:Option Addr) (c0:Nat) (l0:List Int) (r:Bool) (w:World) (hr0:Kd.C (Kd.int .u8) w A0 l0.length l0) (hc0:l0.length≤c0) (hTrue:r=true) (HTab:Aside0 (Tab w)) (h:laws_FnTypes.f k l0=some r):
  Calls Tryd.prog 3 #[.slice A0 l0.length c0] w fun e w'=>e=.returned (.bool r)∧Below w.heap.size w w':=by
 have hu33:=Tryd.underlying33
 have HR0:=A_ hr0
 have HC0:=A_ hc0
 clear hr0 hc0
 have HB:=A_ (Below.refl w.heap.size w)
 have H:(if (l0.length:Int) > 1048576 then (some true) else ((spec_DrawTypeText.f k l0).bind fun t324=>((impl_TypeText.f k t324).bind fun bt327=>((spec_TypeText.f k t324).bind fun bt329=>(if (bt327.2 !=bt329.2)=true then (laws_FnTypes.j0 k t324 bt327.1 bt327.2 true) else (laws_FnTypes.j0 k t324 bt327.1 bt327.2 (bt327.1.toList !=bt329.1.toList)))))))=some r:=h
 clear h
 have HT:=A_ hTrue
 clear hTrue
 by_cases c2:(l0.length:Int) > 1048576
 ·
  rw[if_pos c2] at H
  have c2b0:=decide_eq_true c2
  have c2b1:decide (1048576<l0.length)=true:=decide_eq_true (by omega)
  clear c2
  obtain rfl:=Option.some.inj H
  clear H
  go_enter Tryd.func3,Tryd.ntmps3
  go_wp2
  go_ret
  exact⟨rr_,bw HB.out⟩
 rw[if_neg c2] at H
 have c2b0:=decide_eq_false c2
 have c2b1:decide (1048576<l0.length)=false:=decide_eq_false (by omega)
 clear c2
 replace H:=bA_ H
 obtain⟨t324,A3,H⟩:=H
 replace H:=Option.bind_eq_some_iff.mp H
 obtain⟨⟨t327,t328⟩,A40,H⟩:=H
 try dsimp only at H
 have A4:=A_ A40
 clear A40
 replace H:=Option.bind_eq_some_iff.mp H
 obtain⟨⟨t329,t330⟩,A50,H⟩:=H
 try dsimp only at H
 have A5:=A_ A50
 clear A50
 have HC6:=A_ H
 clear H
 go_enter Tryd.func3,Tryd.ntmps3
 go_upto_region 6 with (first|((with_reducible refine gc_ 4 rfl ?_);refine goesL_ (some 19) rfl rfl Tryd.func4 (by kernel_rfl) rfl #[.slice A0 l0.length c0] rfl ar ?_;(with_reducible refine(spec_DrawTypeText.calls k _ _ l0 t324 _ ?side1 ?side2 A3.out).mono ?_);(case side1=>repeat (first|exact HR0.out|(with_reducible refine Kd.C_alloc ?_ _)|(with_reducible refine Kd.C_drewN ?_ _)|(with_reducible refine Kd.C_drew ?_)));(case side2=>exact HC0.out);rintro e w7 ⟨v325,rfl,ho0,hb⟩;refine⟨_,rfl,?_⟩;have HO326:=A_ (Kd.R_lower ho0 (below_size (bw HB.out)));replace HB:=bs_ HB hb;(try clear hb);(try clear hb2);(try clear hk);(try clear hi);(try clear ho0);obtain⟨Ao8,co8,eo8⟩:=Kd.R_slice HO326.out;subst eo8)|((with_reducible refine gc_ 5 rfl ?_);refine goesL_ (some 22) rfl rfl Tryd.func5 (by kernel_rfl) rfl #[.slice Ao8 t324.length co8] rfl ar ?_;(with_reducible refine(impl_TypeText.calls k _ _ t324 t327 t328 _ ?side1 ?side2 (tab_below HTab.out (by repeat (first|(with_reducible first|exact HB.out|apply below_alloc|apply pw_below_drewN|apply below_drew1)|exact HB.out))) A4.out).mono ?_);(case side1=>repeat (first|exact(Kd.R_reads' HO326.out).2.2|(with_reducible refine Kd.C_alloc ?_ _)|(with_reducible refine Kd.C_drewN ?_ _)|(with_reducible refine Kd.C_drew ?_)));(case side2=>exact(Kd.R_reads' HO326.out).2.1);rintro e w9 ⟨rfl,hb⟩;refine⟨_,rfl,?_⟩;replace HO326:=A_ (Kd.R_below (kr_ HO326.out) hb);replace HB:=bs_ HB hb;(try clear hb))|((with_reducible refine gc_ 6 rfl ?_);refine goesL_ (some 27) rfl rfl Tryd.func6 (by kernel_rfl) rfl #[.slice Ao8 t324.length co8] rfl ar ?_;(with_reducible refine(spec_TypeText.calls k _ _ t324 t329 t330 _ ?side1 ?side2 A5.out).mono ?_);(case side1=>repeat (first|exact(Kd.R_reads' HO326.out).2.2|(with_reducible refine Kd.C_alloc ?_ _)|(with_reducible refine Kd.C_drewN ?_ _)|(with_reducible refine Kd.C_drew ?_)));(case side2=>exact(Kd.R_reads' HO326.out).2.1);rintro e w10 ⟨rfl,hb⟩;refine⟨_,rfl,?_⟩;replace HO326:=A_ (Kd.R_below (kr_ HO326.out) hb);replace HB:=bs_ HB hb;(try clear hb)))
 (try simp only[Act.put,List.setIfInBounds_toArray,List.set_cons_zero,List.set_cons_succ])
 go_cut [37] (fun v37 wc=>∃ (kq:Nat) (x37_5:Bool),v37=.bool x37_5∧Aside0 (laws_FnTypes.j0 kq t324 t327 t328 x37_5=some r)∧Aside0 (kq≤k)∧Aside0 (Kd.R k33 33 wc w.heap.size (fun _=>True) (.slice Ao8 t324.length co8) t324)∧Aside0 (Below w.heap.size w wc))
 case first=>
  have H:=HC6.out
  clear HC6
  by_cases c11:(t328 !=t330)=true
  ·
   rw[if_pos c11] at H
   have c11b0:(t328 !=t330)=true:=c11
   (try (have c11b1:decide (t328=t330)=false:=by simpa using c11))
   (try (have c11b2:(t328==t330)=false:=by simpa using c11))
   (try (have c11b3:¬(t328=t330):=by simpa using c11))
   clear c11
   (first|rw[c11b0]|(simp only[i64_w,i32_w];rw[c11b0])|skip)
   have H':=A_ H
   clear H
   go_wp2
   go_meet
   case rel=>exact⟨_,(true),rs_,H',⟨by first|omega|exact Nat.le_refl _⟩,⟨kr_ HO326.out⟩,⟨bw HB.out⟩⟩
  rw[if_neg c11] at H
  have c11b0:(t328 !=t330)=false:=by simpa using c11
  (try (have c11b1:decide (t328=t330)=true:=by simpa using c11))
  (try (have c11b2:(t328==t330)=true:=by simpa using c11))
  clear c11
  (first|rw[c11b0]|(simp only[i64_w,i32_w];rw[c11b0])|skip)
  have H':=A_ H
  clear H
  go_wp2
  go_meet
  case rel=>exact⟨_,((t327.toList !=t329.toList)),rs_,H',⟨by first|omega|exact Nat.le_refl _⟩,⟨kr_ HO326.out⟩,⟨bw HB.out⟩⟩
 case rest=>
  clear HC6
  try clear c2 c2b0 c2b1
  obtain⟨kq,x37_5,rfl,HA,HJ5,HO_3,HB⟩:=hcut
  cases kq with
  |zero=>exact absurd HA.out (by simp[laws_FnTypes.j0])
  |succ kj5=>
   have H:=HA.out
   clear HA
   simp only[laws_FnTypes.j0] at H
   revert H
   refine iB_ (fun c12 H=>?_) (fun c12 H=>?_)<;>subst c12
   ·
    obtain rfl:=Option.some.inj H
    exact absurd HT.out (by decide)
   revert H
   refine iB_ (fun c13 H=>?_) (fun c13 H=>?_)<;>subst c13
   ·
    replace H:=Option.bind_eq_some_iff.mp H
    obtain⟨⟨t331,t332⟩,A140,H⟩:=H
    try dsimp only at H
    have A14:=A_ A140
    clear A140
    replace H:=Option.bind_eq_some_iff.mp H
    obtain⟨⟨t335,t336⟩,A150,H⟩:=H
    try dsimp only at H
    have A15:=A_ A150
    clear A150
    have HC16:=A_ H
    clear H
    go_upto_region 12 with (first|((with_reducible refine gc_ 7 rfl ?_);refine goesL_ (some 44) rfl rfl Tryd.func7 (by kernel_rfl) rfl #[.string t327] rfl ar ?_;(with_reducible refine(impl_ReadType.calls kj5 t327 t331 t332 _ (tab_below HTab.out (by repeat (first|(with_reducible first|exact HB.out|apply below_alloc|apply pw_below_drewN|apply below_drew1)|exact HB.out))) A14.out).mono ?_);rintro e w17 ⟨v333,rfl,ho0,hb⟩;refine⟨_,rfl,?_⟩;have HO334:=A_ (Kd.R_lower (Kd.R_new' ho0 (Kd.R_lt (kr_ HO_3.out))) (below_size (bw HB.out)));replace HO_3:=A_ (Kd.R_elder' (kr_ HO_3.out) (Kd.R_base ho0) hb);replace HB:=bs_ HB hb;(try clear hb);(try clear hb2);(try clear hk);(try clear hi);(try clear ho0))|((with_reducible refine gc_ 8 rfl ?_);refine goesL_ (some 49) rfl rfl Tryd.func8 (by kernel_rfl) rfl #[.slice Ao8 t324.length co8] rfl ar ?_;(with_reducible refine(impl_HasHandles.calls kj5 _ _ t324 t335 t336 _ ?side1 ?side2 A15.out).mono ?_);(case side1=>repeat (first|exact(Kd.R_reads' HO_3.out).2.2|(with_reducible refine Kd.C_alloc ?_ _)|(with_reducible refine Kd.C_drewN ?_ _)|(with_reducible refine Kd.C_drew ?_)));(case side2=>exact(Kd.R_reads' HO_3.out).2.1);rintro e w18 ⟨rfl,hb⟩;refine⟨_,rfl,?_⟩;replace HO_3:=A_ (Kd.R_below (kr_ HO_3.out) hb);replace HO334:=A_ (Kd.R_below (kr_ HO334.out) hb);replace HB:=bs_ HB hb;(try clear hb)))
    (try simp only[Act.put,List.setIfInBounds_toArray,List.set_cons_zero,List.set_cons_succ])
    go_cut [63] (fun v63 wc=>∃ (kq:Nat) (x63_15:Bool),v63=.bool x63_15∧Aside0 (laws_FnTypes.j1 kq t324 t335 x63_15=some r)∧Aside0 (kq≤kj5)∧Aside0 (Kd.R k33 33 wc w.heap.size (fun _=>True) (.slice Ao8 t324.length co8) t324)∧Aside0 (Below w.heap.size w wc))
    case first=>
     have H:=HC16.out
     clear HC16
     revert H
     refine iB_ (fun c19 H=>?pc19) (fun c19 H=>?nc19)<;>subst c19
     case' pc19=>
      revert H
      refine iB_ (fun c20 H=>?pc20) (fun c20 H=>?nc20)<;>subst c20
      case' pc20=>
       replace H:=bA_ H
       obtain⟨t337,A21,H⟩:=H
       have H':=A_ H
       clear H
       obtain⟨Ao22,co22,eo22⟩:=Kd.R_slice HO334.out
       subst eo22
      case' nc20=>
       have H':=A_ H
       clear H
     case' nc19=>
      have H':=A_ H
      clear H
     all_goals
      go_wp2_with (first|(go_at_call 9;(with_reducible refine(laws_sameTypes.calls kj5 _ _ t324 _ _ t331 t337 _ ?side1 ?side2 ?side3 ?side4 A21.out).mono ?_);(case side1=>repeat (first|exact(Kd.R_reads' HO_3.out).2.2|(with_reducible refine Kd.C_alloc ?_ _)|(with_reducible refine Kd.C_drewN ?_ _)|(with_reducible refine Kd.C_drew ?_)));(case side2=>exact(Kd.R_reads' HO_3.out).2.1);(case side3=>repeat (first|exact(Kd.R_reads' HO334.out).2.2|(with_reducible refine Kd.C_alloc ?_ _)|(with_reducible refine Kd.C_drewN ?_ _)|(with_reducible refine Kd.C_drew ?_)));(case side4=>exact(Kd.R_reads' HO334.out).2.1);rintro e w' ⟨rfl,⟨nd,rfl⟩⟩))
      go_meet
      case rel=>exact⟨_,_,rs_,H',⟨by have:=HJ5.out;first|omega|exact Nat.le_refl _⟩,⟨by (with_reducible repeat (first|apply Kd.R_alloc|apply Kd.R_drewN|apply Kd.R_drew));exact Kd.R_mono HO_3.out (fun _ hk=>trivial)⟩,⟨bw HB.out⟩⟩
    case rest=>
     clear HC16
     try clear c2 c2b0 c2b1 c12 c13
     obtain⟨kq,x63_15,rfl,HA,HJ15,HO_3,HB⟩:=hcut
     cases kq with
     |zero=>exact absurd HA.out (by simp[laws_FnTypes.j1])
     |succ kj15=>
      have H:=HA.out
      clear HA
      simp only[laws_FnTypes.j1] at H
      revert H
      refine iB_ (fun c23 H=>?_) (fun c23 H=>?_)<;>subst c23
      ·
       obtain rfl:=Option.some.inj H
       exact absurd HT.out (by decide)
      have H':=A_ H
      clear H
      go_wp2
      (try simp only[Act.put,List.setIfInBounds_toArray,List.set_cons_zero,List.set_cons_succ])
      go_loopg [12,66] kj15 (fun kq v12 v66 w'=>∃ (x12_3:Bool) (x66_3:Int),v12=.bool x12_3∧v66=.int .i64 x66_3∧Aside0 (laws_FnTypes.l0 kq t335 x12_3 t324 (t324.length:Int) x66_3=some r)∧Aside0 (kq≤kj15)∧Aside0 (Kd.R k33 33 w' w.heap.size (fun _=>True) (.slice Ao8 t324.length co8) t324)∧Aside0 (Below w.heap.size w w'))
      case atStart=>exact⟨(false),(0),rs_,rs_,H',⟨Nat.le_refl _⟩,⟨kr_ HO_3.out⟩,⟨bw HB.out⟩⟩
      case round=>
       clear H'
       try clear c2 c2b0 c2b1 c12 c13 c23
       obtain⟨x12_3,x66_3,rfl,rfl,HA,HK3,HO_64,HB⟩:=hrel
       cases gk with
       |zero=>exact absurd HA.out (by simp[laws_FnTypes.l0])
       |succ k3=>
        have H:=HA.out
        clear HA
        simp only[laws_FnTypes.l0] at H
        by_cases c24:x66_3<(t324.length:Int)
        case neg=>
         rw[if_neg c24] at H
         have c24b0:=decide_eq_false c24
         clear c24
         obtain rfl:=Option.some.inj H
         clear H
         go_wp2
         go_ret
         exact⟨rr_,bw HB.out⟩
        rw[if_pos c24] at H
        have c24b0:=decide_eq_true c24
        clear c24
        replace H:=id_ H
        obtain⟨c25b0,H⟩:=H
        replace H:=id_ H
        obtain⟨c26b0,H⟩:=H
        revert H
        refine iB_ (fun c27 H=>?pc27) (fun c27 H=>?nc27)<;>subst c27
        case' pc27=>
         have H':=A_ H
         clear H
         have p338:0≤(x66_3:Int):=od_
         have q338:x66_3<(t324.length:Int):=od_
         obtain⟨ad338,e338,hx338_0,hx338_1,hx338_2⟩:=at_T33 (Kd.R_reads' HO_64.out).2.2 x66_3 p338 q338
         cases e338
         replace p338:=eq_true p338
         replace q338:=eq_true q338
        case' nc27=>
         revert H
         refine iE_ (fun c30b0 c30b1 H=>?pc30) (fun c30 c30b0 c30b1 H=>?nc30)
         case' pc30=>
          have H':=A_ H
          clear H
          have p338:0≤(x66_3:Int):=od_
          have q338:x66_3<(t324.length:Int):=od_
          obtain⟨ad338,e338,hx338_0,hx338_1,hx338_2⟩:=at_T33 (Kd.R_reads' HO_64.out).2.2 x66_3 p338 q338
          cases e338
          replace p338:=eq_true p338
          replace q338:=eq_true q338
         case' nc30=>
          have H':=A_ H
          clear H
          have p338:0≤(x66_3:Int):=od_
          have q338:x66_3<(t324.length:Int):=od_
          obtain⟨ad338,e338,hx338_0,hx338_1,hx338_2⟩:=at_T33 (Kd.R_reads' HO_64.out).2.2 x66_3 p338 q338
          cases e338
          replace p338:=eq_true p338
          replace q338:=eq_true q338
        all_goals
         go_wp2_with (first|((with_reducible refine gd_ 14 rfl ?_);refine bx_ #[.int .i64 0,.int .i64 0,.int .i64 0] 33 ?_;intro gb339 hg w28 hbox hb;have BK339:=A_ hbox;have GW339:=gw_ hg HB;have GE339:=GW339;replace HO_64:=A_ (Kd.R_below (Kd.R_elderB (kr_ HO_64.out) gb339 (Nat.le_of_eq hg.symm)) hb);replace HB:=bs_ HB hb;clear hb hbox hg;obtain⟨hcz29_0,hcz29_1,hcz29_2⟩:=cs3_ BK339.out;obtain⟨hfz29_0,hfz29_1,hfz29_2⟩:=fz3_ BK339.out))
         go_roundg k3
         case measure=>have:=HJ5.out;have:=HJ15.out;have:=HK3.out;omega
         case rel=>exact⟨_,_,rs_,rs_,H',⟨by have:=HJ5.out;have:=HJ15.out;have:=HK3.out;omega⟩,⟨by (with_reducible repeat (first|apply Kd.R_alloc|apply Kd.R_drewN|apply Kd.R_drew));exact Kd.R_mono (Kd.R_far (p:=⟨gb339,2,none⟩) (Kd.R_far (p:=⟨gb339,1,none⟩) (Kd.R_far (p:=⟨gb339,0,none⟩) (Kd.R_mono HO_64.out (fun k_ hk=>(⟨hk,hk.2⟩:_∧k_≠gb339))) (fun _ hk=>hk.2) (.int .i64 ((rd_T33 t324 x66_3).f0))) (fun _ hk=>hk.2) (.int .i64 ((rd_T33 t324 x66_3).f1))) (fun _ hk=>hk.2) (.int .i64 ((rd_T33 t324 x66_3).f2))) (fun _ hk=>trivial)⟩,⟨bw HB.out⟩⟩
   obtain rfl:=Option.some.inj H
   clear H
   go_wp2
   go_ret
   exact⟨rr_,bw HB.out⟩
/-- THE ONE PURE STATEMENT of laws_FnTypes: yours. -/
def laws_FnTypes.Pure:Prop:=∀ (l0:List Int),l0.length≤maxLen→l0.length*1≤140737488351232→(∀ x∈l0,(Lit.int .u8 x).wf=true)→∃ k,laws_FnTypes.f k l0=some true
theorem laws_FnTypes.walk (P:laws_FnTypes.Pure) (a0:Option Addr) (len0 cap0:Nat) (z0:List Int) (w:World) (w0:(a0=none∧len0=0∧cap0=0∧z0=[])∨∃ x,a0=some x∧len0≤cap0∧cap0≤maxLen∧z0.length=cap0∧(∀ i,i<z0.length→w.cell? (x.add i)=some (.int .u8 (z0.getD i 0)))∧∀ n∈z0,(Lit.int .u8 n).wf=true) (y0:len0*1≤140737488351232) (HTab:Tab w):
  Calls Tryd.prog 3 #[.slice a0 len0 cap0] w fun e w'=>e=.returned (.bool true)∧Below w.heap.size w w':=by
 obtain⟨l0,rfl,hr0,hm0,hw0,hc0⟩:=ReadsInt.ofRowC w0
 obtain⟨k,h⟩:=P l0 hm0 y0 hw0
 refine(laws_FnTypes.calls k _ _ l0 true w (Kd.C_of_reads (d:=(0:Int)) (h1:=fun _=>rfl) hr0) hc0 rfl ⟨HTab⟩ h).mono ?_
 rintro e w' ⟨rfl,hd⟩
 exact⟨rfl,hd⟩
end Go.Proofs.YtoeenmajdidfoaaDoor.Q

