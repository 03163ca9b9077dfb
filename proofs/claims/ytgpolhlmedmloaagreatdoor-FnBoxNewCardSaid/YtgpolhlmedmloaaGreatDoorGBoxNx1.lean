import Derived.Test.YtgpolhlmedmloaaGreatDoorGBoxNx0
import Derived.Lib.SliceRun
import Derived.Lib.Hide
import Derived.Lib.ConvBytes
import Derived.Lib.CutLaws
import Derived.Lib.CountLaws
import Derived.Lib.SplitLaws
import Derived.Lib.LastIndexByte
import Derived.RangeFuncNested
import Derived.RangeFuncBound
import Derived.RangeFuncCalls
import Derived.RangeFuncLeaves
import Derived.Shelf.Abstract
import Derived.OwnWalkIn
import Derived.TacticsInMore
import Derived.LoopNIn
import Derived.LoopIn
import Derived.Laws.EntriesVeiled
import Derived.Shelf.Strings.BuilderK
import Derived.Shelf.LaysM
import Derived.Shelf.LaysC
import Derived.Shelf.Strings.Count
import Derived.Shelf.Strings.LastIndex
import Derived.Test.YtgpolhlmedmloaaGreatDoorProg
import Derived.Shelf.Vars
import Derived.Shelf.Lays
import Derived.RangeFuncBox
import Derived.Maps.AppendAt
namespace Go.Proofs.YtgpolhlmedmloaaGreatDoor.P
open Go.Proofs.YtgpolhlmedmloaaGreatDoorUBoxN.PrintLast Go.Proofs.YtgpolhlmedmloaaGreatDoorUBoxN.PrintMore Go.Proofs.YtgpolhlmedmloaaGreatDoorUBoxN.PrintWords Go.RowKit
set_option linter.unusedVariables false
set_option linter.unusedSimpArgs false
section
attribute [local go_sem] max2_int min2_int max_two min_two max_three min_three max_four min_four
def spec_DrawBoxNew.f (k : Nat) (l0 : List Int) : Option ((List (S35))):=(spec_l20Open.f l0).bind fun bt199=>((spec_l20Rules.f k bt199.1 bt199.2 3).bind fun bt202=>(some bt202.1))
set_option maxHeartbeats 8000000 in
set_option maxRecDepth 100000 in
theorem spec_DrawBoxNew.calls (k : Nat) (A0 : Option Addr) (c0 : Nat) (l0 : List Int) (r : List (S35)) (w : World) (hr0 : Kd.C (Kd.int .u8) w A0 l0.length l0) (hc0 : l0.length ≤ c0) (h : spec_DrawBoxNew.f k l0 = some r) :
  Calls Tryz.prog 10 #[.slice A0 l0.length c0] w fun e w'=>∃ v0_ : Value,e = .returned (v0_) ∧ Kd.R k35 35 w' w.heap.size (fun _=>True) v0_ r ∧ Below w.heap.size w w':=by
 have HR0:=am hr0;have HC0:=am hc0;clear hr0 hc0;have HB:=am (Below.refl w.heap.size w);have H : ((spec_l20Open.f l0).bind fun bt0=>((spec_l20Rules.f k bt0.1 bt0.2 3).bind fun bt1=>(some bt1.1))) = some r:=h;clear h;obtain ⟨⟨t0,t2⟩,A2,H⟩:=bse H
 try dsimp only at H
 obtain ⟨⟨t1,t3⟩,A3,H⟩:=bse H
 try dsimp only at H
 obtain rfl:=Option.some.inj H
 go_enter Tryz.func10,Tryz.ntmps10
 go_wp2_with (first | ((with_reducible refine gC 42 rfl ?_);refine gL (some 4) Tryz.func42 #[.slice A0 l0.length c0] ?_;(with_reducible refine (spec_l20Open.calls _ _ l0 t0 t2 w _ ?side1 ?side2 ?side3 A2.out).mono ?_);(case side1=>exact m0_);(case side2=>exact HR0.out);(case side3=>exact HC0.out);rintro e w4 ⟨g201,rfl,hi,hb,hb2⟩;refine ⟨_,rfl,?_⟩;replace HB:=am hb;have HI201:=am hi;(try clear hb);(try clear hb2);(try clear hi)) | ((with_reducible refine gC 41 rfl ?_);refine gL (some 5) Tryz.func41 #[.pointer (some ⟨g201,0,none⟩),.int .i64 3] ?_;(with_reducible refine (spec_l20Rules.calls k g201 t0 t2 3 t1 t3 w _ ?side1 ?side2 A3.out).mono ?_);(case side1=>exact m1_);(case side2=>exact m2_);rintro e w5 ⟨v4,rfl,ho0,hi,hb,hk⟩;refine ⟨_,rfl,?_⟩;have HO5:=am (Kd.R_lower ho0 (below_size m2_));replace HB:=am hb;replace HI201:=am hi;(try clear hb);(try clear hk);(try clear hi);(try clear ho0)))
 go_ret
 exact ⟨_,fi_,by (with_reducible repeat apply ru);exact HO5.out,m2_⟩
end
theorem R_clip {α : Type} {d : Kd α} {e n c : Nat} {w : World} {base : Nat} {ok : Nat → Prop} {A : Option Addr} {xs : List α} (h : d.R e w base ok (.slice A n c) xs) : d.R e w base ok (.slice A n n) xs:=by
  obtain ⟨h0,inner,ho,hr⟩:=h
  have hb : ∀ x y : Nat,(Value.slice A x x).ownBlock = (Value.slice A n c).ownBlock:=by intro x y;cases A <;> rfl
  have hn : n = xs.length:=by
    obtain ⟨A',c',he⟩:=own_slice ho
    injection he
  refine ⟨fun k hk=>h0 k (by rw [← hb n n];exact hk),inner,?_,by rw [hb n n];exact hr⟩
  obtain ⟨hl,h2⟩:=ho
  refine ⟨hl,?_⟩
  rcases h2 with ⟨hv,hx⟩ | ⟨g,cap,cur,hv,hbg,hh,hnc,hcm,hcs,ht⟩
  · injection hv with h1 h2 h3
    subst h1;subst h2
    exact .inl ⟨rfl,hx⟩
  · injection hv with h1 h2 h3
    subst h1;subst h2;subst h3
    exact .inr ⟨g,xs.length,cur,rfl,hbg,hh,Nat.le_refl _,Nat.le_trans hnc hcm,Nat.le_trans (Nat.mul_le_mul_right _ hnc) hcs,ht⟩
def impl_EndPoint_171.f (l : List S54) : Option (List S54):=if l.length < 1000000000000 then some l else none
def impl_EndPoint_137.f (l : List S54) : Option (List S54 × List S54):=some (l,[])
theorem bkW {w W w' : World} {g : Nat} {o : Obj} (b : Aside0 (w.heap[g]? = some o)) (hw : w' = W) (s : w.heap[g]? = some o → W.heap[g]? = some o:=by intro h;(with_reducible repeat refine bu ?_);exact h) : Aside0 (w'.heap[g]? = some o):=⟨by rw [hw];exact s b.out⟩
theorem blW {w W W' w' : World} {n : Nat} (b : Aside0 (Below n w W)) (hw : w' = W') (s : Below n w W → Below n w W':=by intro h;repeat (first | (with_reducible first | exact h | apply below_alloc | apply pw_below_drewN | apply below_drew1 | refine below_set ?_ (Aside0.out (by with_reducible assumption))) | exact h)) : Aside0 (Below n w w'):=⟨by rw [hw];exact s b.out⟩
theorem clipNil {α : Type} {d : Kd α} {e : Nat} {w : World} {base : Nat} {ok : Nat → Prop} {u : Value} {xs r1 r2 : List α} (h : Aside0 (Kd.R d e w base ok u xs)) (w' : World) (hf : some (xs,([] : List α)) = some (r1,r2)) : Aside0 (Kd.R d e w' base ok (.slice none 0 0) r2):=by
  injection hf with hf
  injection hf with _ h2
  subst h2
  exact ⟨Kd.R_nil _ _ _ _ _⟩
theorem clipR {α : Type} {d : Kd α} {e n c : Nat} {w W w' : World} {base : Nat} {ok ok' : Nat → Prop} {A : Option Addr} {v : Value} {xs r1 r2 : List α} (h : Aside0 (Kd.R d e w base ok (.slice A n c) xs)) (hv : v = .slice A n n) (hw : w' = W) (hf : some (xs,([] : List α)) = some (r1,r2)) (hok : ∀ k,ok k → ok' k)
    (s : Kd.R d e w base ok (.slice A n c) xs → Kd.R d e W base ok (.slice A n c) xs:=by intro h;(with_reducible repeat apply ru);exact h) : Aside0 (Kd.R d e w' base ok' v r1):=by
  injection hf with hf
  injection hf with h1 _
  subst h1
  subst hv
  subst hw
  exact ⟨Kd.R_mono (R_clip (s h.out)) hok⟩
set_option maxHeartbeats 8000000 in
set_option maxRecDepth 100000 in
theorem clip_rule (A : Option Addr) (n c : Nat) (h : n ≤ c) (w : World) : Calls Tryz.prog 44 #[.slice A n c] w fun e w'=>∃ v,e = .returned v ∧ v = .slice A n n ∧ w' = w:=by
  go_enter Tryz.func44,Tryz.ntmps44
  go_wp2
  go_ret
  exact ⟨_,rfl,rfl,rfl⟩
set_option maxHeartbeats 8000000 in
set_option maxRecDepth 100000 in
theorem clone_rule (A : Option Addr) (c : Nat) (l : List S35) (w : World) (hr : Kd.C k35 w A l.length l) (hc : l.length ≤ c) (hl : l.length < 1000000000000) :
    Calls Tryz.prog 45 #[.slice A l.length c] w fun e w'=>∃ v,e = .returned v ∧ Kd.R k35 35 w' w.heap.size (fun _=>True) v l ∧ Below w.heap.size w w':=by
  have HR:=Aside0.mk hr
  have HL:=Aside0.mk hl
  clear hl
  have HB:=Aside0.mk (Below.refl w.heap.size w)
  cases A with
  | none=>
    have h0 : l.length = 0:=by
      rcases Nat.eq_zero_or_pos l.length with h | h
      · exact h
      · obtain ⟨x,hx,_⟩:=hr.2.2 h
        cases hx
    have hnil:=Aside0.mk (List.eq_nil_of_length_eq_zero h0)
    clear hr h0
    have hq:=fun w' : World=>Lib.run_eql_slice_nil (P:=Tryz.prog) w' 23 35 none l.length c 0 0 Tryz.underlying23
    go_enter Tryz.func45,Tryz.ntmps45
    go_wp2
    go_ret
    exact ⟨_,rfl,by rw [hnil.out];exact Kd.R_nil _ _ _ _ _,HB.out⟩
  | some ad=>
    clear hr
    have hq:=fun w' : World=>Lib.run_eql_slice_nil (P:=Tryz.prog) w' 23 35 (some ad) l.length c 0 0 Tryz.underlying23
    go_enter Tryz.func45,Tryz.ntmps45
    go_wp2_with (first
      | ((with_reducible refine gate_dst (N:=5) rfl ?_)
         refine Kd.R_lit k35 _ 35 ?hg (N:=5) ?hd (xs:=([] : List (S35))) (inner:=[]) (ok:=fun _=>True) (okp:=fun _=>True) ?hr ?hp (fun _ hk=>hk) trivial (Below.refl _ _) (Nat.le_refl _) (by simp) ?_
         (case hd=>rfl)
         (case hg=>rfl)
         (case hr=>first | (go_simp;done) | (go_simp;rfl))
         (case hp=>exact (Reps.none _ _))
         intro v5 w5 ho5 hb hg_ hnew_
         clear hg_ hnew_
         have HO:=Aside0.mk (Kd.R_lower ho5 (below_size (bl HB)))
         have n3_:=Aside0.mk (below_step (bl HB) hb)
         clear HB
         have HB:=n3_
         clear n3_ hb ho5)
      | ((with_reducible refine gate_builtin (b:=.append) (xs:=#[.tmp 5,.tmp 6]) rfl ?_)
         at_builtin
         refine Kd.R_append_rows k35 (w0:=w) w.heap.size rfl (.tmp 5) (.tmp 6) 23 35 (.agg #[(.bool false),(.int .i64 0),(.int .i64 0),(.int .i64 0),(.int .i64 0),(.int .i64 0),(.int .i64 0)]) 56 rfl Tryz.underlying23 info35 rfl (by decide) (by omega) v5 [] l _ _ _ (fun _=>True) (fun _=>False) rfl rfl ?aO ?aR (fun _ _ h=>h) (fun _ h=>h.elim) ?aF ?aB ?aS ?aL ?_
         (case aR=>repeat (first | exact (Kd.C_below HR.out HB.out) | (with_reducible refine Kd.C_alloc ?_ _) | (with_reducible refine Kd.C_drewN ?_ _) | (with_reducible refine Kd.C_drew ?_)))
         (case aB=>exact (bl HB))
         (case aF=>exact (fun _ _=>trivial))
         (case aO=>exact (rs HO))
         (case aS=>exact (below_size (bl HB)))
         (case aL=>have:=HL.out;simp only [List.length_nil];omega)
         intro v7 w7 ho hb hg hat
         have n2_:=Aside0.mk hb
         clear HB HO
         have HB:=n2_
         have HO:=Aside0.mk ho
         clear n2_ ho hb hg hat))
    go_ret
    exact ⟨_,rfl,HO.out,HB.out⟩
def impl_RulRule_45.f (l : List S35) : Option (List S35):=if l.length < 1000000000000 then some l else none
theorem impl_RulRule_45.calls (A0 : Option Addr) (c0 : Nat) (l0 : List (S35)) (r : List (S35)) (w : World) (hr0 : Kd.C k35 w A0 l0.length l0) (hc0 : l0.length ≤ c0) (h : impl_RulRule_45.f l0 = some r) :
    Calls Tryz.prog 45 #[.slice A0 l0.length c0] w fun e w'=>∃ v0_ : Value,e = .returned (v0_) ∧ Kd.R k35 35 w' w.heap.size (fun _=>True) v0_ r ∧ Below w.heap.size w w':=by
  unfold impl_RulRule_45.f at h
  by_cases hl : l0.length < 1000000000000
  · rw [if_pos hl] at h
    obtain rfl:=Option.some.inj h
    exact clone_rule A0 c0 l0 w hr0 hc0 hl
  · rw [if_neg hl] at h
    cases h
def impl_RulRule_44.f (l : List S35) : Option (List S35 × List S35):=some (l,[])
section
attribute [local go_sem] max2_int min2_int max_two min_two max_three min_three max_four min_four
def impl_within.f (a0 : Int) (a1 : Int) (a2 : Int) : Option (Bool):=if a0 ≥ a1 then (some (decide (a0 ≤ a2))) else (some false)
set_option maxHeartbeats 8000000 in
set_option maxRecDepth 100000 in
theorem impl_within.calls (a0 : Int) (a1 : Int) (a2 : Int) (r : Bool) (w : World) (h : impl_within.f a0 a1 a2 = some r) :
  Calls Tryz.prog 65 #[.int .i64 a0,.int .i64 a1,.int .i64 a2] w fun e w'=>e = .returned (.bool r) ∧ Drawn0 w w':=by
 have H : (if a0 ≥ a1 then (some (decide (a0 ≤ a2))) else (some false)) = some r:=h;clear h
 by_cases c4 : a0 ≥ a1
 ·rw [if_pos c4] at H;have c4b0 : decide (a1 ≤ a0) = true:=decide_eq_true c4;clear c4;obtain rfl:=Option.some.inj H
  go_enter Tryz.func65,Tryz.ntmps65
  go_wp2
  go_ret
  exact ⟨fr_,dn_⟩
 ·rw [if_neg c4] at H;have c4b0 : decide (a1 ≤ a0) = false:=decide_eq_false c4;clear c4;obtain rfl:=Option.some.inj H
  go_enter Tryz.func65,Tryz.ntmps65
  go_wp2
  go_ret
  exact ⟨fr_,dn_⟩
def impl_inside.f (a0 : Int) : Option (Bool):=(impl_within.f a0 1 9).bind fun t240=>(some t240)
set_option maxHeartbeats 8000000 in
set_option maxRecDepth 100000 in
theorem impl_inside.calls (a0 : Int) (r : Bool) (w : World) (h : impl_inside.f a0 = some r) :
  Calls Tryz.prog 135 #[.int .i64 a0] w fun e w'=>e = .returned (.bool r) ∧ Drawn0 w w':=by
 have H : ((impl_within.f a0 1 9).bind fun t0=>(some t0)) = some r:=h;clear h;obtain ⟨t0,A2,H⟩:=bse H
 try dsimp only at H
 obtain rfl:=Option.some.inj H
 go_enter Tryz.func135,Tryz.ntmps135
 go_wp2_with (first | ((with_reducible refine gC 65 rfl ?_);refine gL (some 4) Tryz.func65 #[.int .i64 a0,.int .i64 1,.int .i64 9] ?_;(with_reducible refine (impl_within.calls a0 1 9 t0 _ A2.out).mono ?_);rintro e w' ⟨rfl,⟨nd,rfl⟩⟩;refine ⟨_,rfl,?_⟩))
 go_ret
 exact ⟨fr_,dn_⟩
def impl_portOk.f (a0 : Int) : Option (Bool):=(impl_within.f a0 1 999).bind fun t241=>(some t241)
set_option maxHeartbeats 8000000 in
set_option maxRecDepth 100000 in
theorem impl_portOk.calls (a0 : Int) (r : Bool) (w : World) (h : impl_portOk.f a0 = some r) :
  Calls Tryz.prog 136 #[.int .i64 a0] w fun e w'=>e = .returned (.bool r) ∧ Drawn0 w w':=by
 have H : ((impl_within.f a0 1 999).bind fun t0=>(some t0)) = some r:=h;clear h;obtain ⟨t0,A2,H⟩:=bse H
 try dsimp only at H
 obtain rfl:=Option.some.inj H
 go_enter Tryz.func136,Tryz.ntmps136
 go_wp2_with (first | ((with_reducible refine gC 65 rfl ?_);refine gL (some 4) Tryz.func65 #[.int .i64 a0,.int .i64 1,.int .i64 999] ?_;(with_reducible refine (impl_within.calls a0 1 999 t0 _ A2.out).mono ?_);rintro e w' ⟨rfl,⟨nd,rfl⟩⟩;refine ⟨_,rfl,?_⟩))
 go_ret
 exact ⟨fr_,dn_⟩
def impl_EndInside.f (a0_0 : Int) (a0_1 : Int) : Option (Bool):=(impl_inside.f a0_0).bind fun t243=>(if t243 = true then ((impl_portOk.f a0_1).bind fun t244=>(some t244)) else (some false))
set_option maxHeartbeats 8000000 in
set_option maxRecDepth 100000 in
theorem impl_EndInside.calls (a0_0 : Int) (a0_1 : Int) (r : Bool) (w : World) (h : impl_EndInside.f a0_0 a0_1 = some r) :
  Calls Tryz.prog 75 #[.agg #[.int .i64 a0_0,.int .i64 a0_1]] w fun e w'=>e = .returned (.bool r) ∧ Below w.heap.size w w':=by
 have hu54:=Tryz.underlying54;have HB:=am (Below.refl w.heap.size w);have H : ((impl_inside.f a0_0).bind fun t0=>(if t0 = true then ((impl_portOk.f a0_1).bind fun t1=>(some t1)) else (some false))) = some r:=h;clear h;obtain ⟨t0,A2,H⟩:=bse H
 try dsimp only at H
 by_cases c3 : t0 = true
 ·subst c3;rw [if_pos rfl] at H;obtain ⟨t1,A4,H⟩:=bse H
  try dsimp only at H
  obtain rfl:=Option.some.inj H
  go_enter Tryz.func75,Tryz.ntmps75
  go_wp2_with (first | ((with_reducible refine gD 1 rfl ?_);refine box_event rfl (N:=1) rfl (cs:=#[.int .i64 a0_0,.int .i64 a0_1]) (t:=54) hr_ ?_;intro gb2 hg w5 hbox hb;have BK2:=am hbox;have GW2:=gwE HB hg;have GE2:=gwE HB hg;replace HB:=hbS HB hb;clear hb hbox hg;have ⟨_,_,_,_⟩:=cf2 BK2) | ((with_reducible refine gC 135 rfl ?_);refine gL (some 5) Tryz.func135 #[.int .i64 a0_0] ?_;(with_reducible refine (impl_inside.calls a0_0 true _ A2.out).mono ?_);rintro e w' ⟨rfl,⟨nd,rfl⟩⟩;refine ⟨_,rfl,?_⟩) | (go_at_call 136;(with_reducible refine (impl_portOk.calls a0_1 t1 _ A4.out).mono ?_);rintro e w' ⟨rfl,⟨nd,rfl⟩⟩))
  go_ret
  exact ⟨fi_,m4_⟩
 ·replace c3:=Bool.eq_false_iff.mpr c3;subst c3;rw [if_neg nft_] at H;obtain rfl:=Option.some.inj H
  go_enter Tryz.func75,Tryz.ntmps75
  go_wp2_with (first | ((with_reducible refine gD 1 rfl ?_);refine box_event rfl (N:=1) rfl (cs:=#[.int .i64 a0_0,.int .i64 a0_1]) (t:=54) hr_ ?_;intro gb2 hg w7 hbox hb;have BK2:=am hbox;have GW2:=gwE HB hg;have GE2:=gwE HB hg;replace HB:=hbS HB hb;clear hb hbox hg;have ⟨_,_,_,_⟩:=cf2 BK2) | ((with_reducible refine gC 135 rfl ?_);refine gL (some 5) Tryz.func135 #[.int .i64 a0_0] ?_;(with_reducible refine (impl_inside.calls a0_0 false _ A2.out).mono ?_);rintro e w' ⟨rfl,⟨nd,rfl⟩⟩;refine ⟨_,rfl,?_⟩))
  go_ret
  exact ⟨fi_,m4_⟩
def impl_outside.f (a0 : Int) : Option (Bool):=(impl_within.f a0 100 109).bind fun t258=>(some t258)
set_option maxHeartbeats 8000000 in
set_option maxRecDepth 100000 in
theorem impl_outside.calls (a0 : Int) (r : Bool) (w : World) (h : impl_outside.f a0 = some r) :
  Calls Tryz.prog 155 #[.int .i64 a0] w fun e w'=>e = .returned (.bool r) ∧ Drawn0 w w':=by
 have H : ((impl_within.f a0 100 109).bind fun t0=>(some t0)) = some r:=h;clear h;obtain ⟨t0,A2,H⟩:=bse H
 try dsimp only at H
 obtain rfl:=Option.some.inj H
 go_enter Tryz.func155,Tryz.ntmps155
 go_wp2_with (first | ((with_reducible refine gC 65 rfl ?_);refine gL (some 4) Tryz.func65 #[.int .i64 a0,.int .i64 100,.int .i64 109] ?_;(with_reducible refine (impl_within.calls a0 100 109 t0 _ A2.out).mono ?_);rintro e w' ⟨rfl,⟨nd,rfl⟩⟩;refine ⟨_,rfl,?_⟩))
 go_ret
 exact ⟨fr_,dn_⟩
def impl_EndOutside.f (a0_0 : Int) (a0_1 : Int) : Option (Bool):=(impl_outside.f a0_0).bind fun t260=>(if t260 = true then ((impl_portOk.f a0_1).bind fun t261=>(some t261)) else (some false))
set_option maxHeartbeats 8000000 in
set_option maxRecDepth 100000 in
theorem impl_EndOutside.calls (a0_0 : Int) (a0_1 : Int) (r : Bool) (w : World) (h : impl_EndOutside.f a0_0 a0_1 = some r) :
  Calls Tryz.prog 103 #[.agg #[.int .i64 a0_0,.int .i64 a0_1]] w fun e w'=>e = .returned (.bool r) ∧ Below w.heap.size w w':=by
 have hu54:=Tryz.underlying54;have HB:=am (Below.refl w.heap.size w);have H : ((impl_outside.f a0_0).bind fun t0=>(if t0 = true then ((impl_portOk.f a0_1).bind fun t1=>(some t1)) else (some false))) = some r:=h;clear h;obtain ⟨t0,A2,H⟩:=bse H
 try dsimp only at H
 by_cases c3 : t0 = true
 ·subst c3;rw [if_pos rfl] at H;obtain ⟨t1,A4,H⟩:=bse H
  try dsimp only at H
  obtain rfl:=Option.some.inj H
  go_enter Tryz.func103,Tryz.ntmps103
  go_wp2_with (first | ((with_reducible refine gD 1 rfl ?_);refine box_event rfl (N:=1) rfl (cs:=#[.int .i64 a0_0,.int .i64 a0_1]) (t:=54) hr_ ?_;intro gb2 hg w5 hbox hb;have BK2:=am hbox;have GW2:=gwE HB hg;have GE2:=gwE HB hg;replace HB:=hbS HB hb;clear hb hbox hg;have ⟨_,_,_,_⟩:=cf2 BK2) | ((with_reducible refine gC 155 rfl ?_);refine gL (some 5) Tryz.func155 #[.int .i64 a0_0] ?_;(with_reducible refine (impl_outside.calls a0_0 true _ A2.out).mono ?_);rintro e w' ⟨rfl,⟨nd,rfl⟩⟩;refine ⟨_,rfl,?_⟩) | (go_at_call 136;(with_reducible refine (impl_portOk.calls a0_1 t1 _ A4.out).mono ?_);rintro e w' ⟨rfl,⟨nd,rfl⟩⟩))
  go_ret
  exact ⟨fi_,m4_⟩
 ·replace c3:=Bool.eq_false_iff.mpr c3;subst c3;rw [if_neg nft_] at H;obtain rfl:=Option.some.inj H
  go_enter Tryz.func103,Tryz.ntmps103
  go_wp2_with (first | ((with_reducible refine gD 1 rfl ?_);refine box_event rfl (N:=1) rfl (cs:=#[.int .i64 a0_0,.int .i64 a0_1]) (t:=54) hr_ ?_;intro gb2 hg w7 hbox hb;have BK2:=am hbox;have GW2:=gwE HB hg;have GE2:=gwE HB hg;replace HB:=hbS HB hb;clear hb hbox hg;have ⟨_,_,_,_⟩:=cf2 BK2) | ((with_reducible refine gC 155 rfl ?_);refine gL (some 5) Tryz.func155 #[.int .i64 a0_0] ?_;(with_reducible refine (impl_outside.calls a0_0 false _ A2.out).mono ?_);rintro e w' ⟨rfl,⟨nd,rfl⟩⟩;refine ⟨_,rfl,?_⟩))
  go_ret
  exact ⟨fi_,m4_⟩
end
def inB (n lo hi : Int) : Bool:=decide (lo ≤ n) && decide (n ≤ hi)
theorem within_f (n lo hi : Int) : impl_within.f n lo hi = some (inB n lo hi):=by
  unfold impl_within.f inB
  by_cases h : lo ≤ n <;> simp [h]
theorem inside_f (n : Int) : impl_inside.f n = some (inB n 1 9):=by unfold impl_inside.f;rw [within_f];rfl
theorem outside_f (n : Int) : impl_outside.f n = some (inB n 100 109):=by unfold impl_outside.f;rw [within_f];rfl
theorem portOk_f (n : Int) : impl_portOk.f n = some (inB n 1 999):=by unfold impl_portOk.f;rw [within_f];rfl
def endIn (a p : Int) : Bool:=inB a 1 9 && inB p 1 999
def endOut (a p : Int) : Bool:=inB a 100 109 && inB p 1 999
theorem EndInside_f (a p : Int) : impl_EndInside.f a p = some (endIn a p):=by
  unfold impl_EndInside.f endIn
  rw [inside_f,Option.bind_some]
  cases h : inB a 1 9 <;> simp [portOk_f]
theorem EndOutside_f (a p : Int) : impl_EndOutside.f a p = some (endOut a p):=by
  unfold impl_EndOutside.f endOut
  rw [outside_f,Option.bind_some]
  cases h : inB a 100 109 <;> simp [portOk_f]
section
attribute [local go_sem] max2_int min2_int max_two min_two max_three min_three max_four min_four
def impl_RulOk.f (a0_0 : Bool) (a0_1 : Int) (a0_2 : Int) (a0_3 : Int) (a0_4 : Int) (a0_5 : Int) (a0_6 : Int) : Option (Bool):=(impl_inside.f a0_1).bind fun t1911=>(if t1911 = true then ((impl_inside.f a0_2).bind fun t1912=>(if t1912 = true then (if a0_1 ≤ a0_2 then ((impl_outside.f a0_3).bind fun t1913=>(if t1913 = true then ((impl_outside.f a0_4).bind fun t1914=>(if t1914 = true then (if a0_3 ≤ a0_4 then ((impl_portOk.f a0_5).bind fun t1915=>(if t1915 = true then ((impl_portOk.f a0_6).bind fun t1916=>(if t1916 = true then (some (decide (a0_5 ≤ a0_6))) else (some false))) else (some false))) else (some false)) else (some false))) else (some false))) else (some false)) else (some false))) else (some false))
set_option maxHeartbeats 8000000 in
set_option maxRecDepth 100000 in
theorem impl_RulOk.calls (a0_0 : Bool) (a0_1 : Int) (a0_2 : Int) (a0_3 : Int) (a0_4 : Int) (a0_5 : Int) (a0_6 : Int) (r : Bool) (w : World) (h : impl_RulOk.f a0_0 a0_1 a0_2 a0_3 a0_4 a0_5 a0_6 = some r) :
  Calls Tryz.prog 100 #[.agg #[.bool a0_0,.int .i64 a0_1,.int .i64 a0_2,.int .i64 a0_3,.int .i64 a0_4,.int .i64 a0_5,.int .i64 a0_6]] w fun e w'=>e = .returned (.bool r) ∧ Below w.heap.size w w':=by
 have hu35:=Tryz.underlying35;have HB:=am (Below.refl w.heap.size w);have H : ((impl_inside.f a0_1).bind fun t0=>(if t0 = true then ((impl_inside.f a0_2).bind fun t1=>(if t1 = true then (if a0_1 ≤ a0_2 then ((impl_outside.f a0_3).bind fun t2=>(if t2 = true then ((impl_outside.f a0_4).bind fun t3=>(if t3 = true then (if a0_3 ≤ a0_4 then ((impl_portOk.f a0_5).bind fun t4=>(if t4 = true then ((impl_portOk.f a0_6).bind fun t5=>(if t5 = true then (some (decide (a0_5 ≤ a0_6))) else (some false))) else (some false))) else (some false)) else (some false))) else (some false))) else (some false)) else (some false))) else (some false))) = some r:=h;clear h;obtain ⟨t0,A2,H⟩:=bse H
 try dsimp only at H
 by_cases c3 : t0 = true
 ·subst c3;rw [if_pos rfl] at H;obtain ⟨t1,A4,H⟩:=bse H
  try dsimp only at H
  by_cases c5 : t1 = true
  ·subst c5;rw [if_pos rfl] at H
   by_cases c6 : a0_1 ≤ a0_2
   ·rw [if_pos c6] at H;have c6b0 : decide (a0_1 ≤ a0_2) = true:=decide_eq_true c6;clear c6;obtain ⟨t2,A7,H⟩:=bse H
    try dsimp only at H
    by_cases c8 : t2 = true
    ·subst c8;rw [if_pos rfl] at H;obtain ⟨t3,A9,H⟩:=bse H
     try dsimp only at H
     by_cases c10 : t3 = true
     ·subst c10;rw [if_pos rfl] at H
      by_cases c11 : a0_3 ≤ a0_4
      ·rw [if_pos c11] at H;have c11b0 : decide (a0_3 ≤ a0_4) = true:=decide_eq_true c11;clear c11;obtain ⟨t4,A12,H⟩:=bse H
       try dsimp only at H
       by_cases c13 : t4 = true
       ·subst c13;rw [if_pos rfl] at H;obtain ⟨t5,A14,H⟩:=bse H
        try dsimp only at H
        by_cases c15 : t5 = true
        ·subst c15;rw [if_pos rfl] at H;obtain rfl:=Option.some.inj H
         go_enter Tryz.func100,Tryz.ntmps100
         go_wp2_with (first | ((with_reducible refine gD 1 rfl ?_);refine box_event rfl (N:=1) rfl (cs:=#[.bool a0_0,.int .i64 a0_1,.int .i64 a0_2,.int .i64 a0_3,.int .i64 a0_4,.int .i64 a0_5,.int .i64 a0_6]) (t:=35) hr_ ?_;intro gb6 hg w16 hbox hb;have BK6:=am hbox;have GW6:=gwE HB hg;have GE6:=gwE HB hg;replace HB:=hbS HB hb;clear hb hbox hg;have ⟨_,_,_,_,_,_,_,_,_,_,_,_,_,_⟩:=cf7 BK6) | ((with_reducible refine gC 135 rfl ?_);refine gL (some 5) Tryz.func135 #[.int .i64 a0_1] ?_;(with_reducible refine (impl_inside.calls a0_1 true _ A2.out).mono ?_);rintro e w' ⟨rfl,⟨nd,rfl⟩⟩;refine ⟨_,rfl,?_⟩) | (go_at_call 135;(with_reducible refine (impl_inside.calls a0_2 true _ A4.out).mono ?_);rintro e w' ⟨rfl,⟨nd,rfl⟩⟩) | (go_at_call 155;(with_reducible refine (impl_outside.calls a0_3 true _ A7.out).mono ?_);rintro e w' ⟨rfl,⟨nd,rfl⟩⟩) | (go_at_call 155;(with_reducible refine (impl_outside.calls a0_4 true _ A9.out).mono ?_);rintro e w' ⟨rfl,⟨nd,rfl⟩⟩) | (go_at_call 136;(with_reducible refine (impl_portOk.calls a0_5 true _ A12.out).mono ?_);rintro e w' ⟨rfl,⟨nd,rfl⟩⟩) | (go_at_call 136;(with_reducible refine (impl_portOk.calls a0_6 true _ A14.out).mono ?_);rintro e w' ⟨rfl,⟨nd,rfl⟩⟩))
         go_ret
         exact ⟨fi_,m4_⟩
        ·replace c15:=Bool.eq_false_iff.mpr c15;subst c15;rw [if_neg nft_] at H;obtain rfl:=Option.some.inj H
         go_enter Tryz.func100,Tryz.ntmps100
         go_wp2_with (first | ((with_reducible refine gD 1 rfl ?_);refine box_event rfl (N:=1) rfl (cs:=#[.bool a0_0,.int .i64 a0_1,.int .i64 a0_2,.int .i64 a0_3,.int .i64 a0_4,.int .i64 a0_5,.int .i64 a0_6]) (t:=35) hr_ ?_;intro gb6 hg w18 hbox hb;have BK6:=am hbox;have GW6:=gwE HB hg;have GE6:=gwE HB hg;replace HB:=hbS HB hb;clear hb hbox hg;have ⟨_,_,_,_,_,_,_,_,_,_,_,_,_,_⟩:=cf7 BK6) | ((with_reducible refine gC 135 rfl ?_);refine gL (some 5) Tryz.func135 #[.int .i64 a0_1] ?_;(with_reducible refine (impl_inside.calls a0_1 true _ A2.out).mono ?_);rintro e w' ⟨rfl,⟨nd,rfl⟩⟩;refine ⟨_,rfl,?_⟩) | (go_at_call 135;(with_reducible refine (impl_inside.calls a0_2 true _ A4.out).mono ?_);rintro e w' ⟨rfl,⟨nd,rfl⟩⟩) | (go_at_call 155;(with_reducible refine (impl_outside.calls a0_3 true _ A7.out).mono ?_);rintro e w' ⟨rfl,⟨nd,rfl⟩⟩) | (go_at_call 155;(with_reducible refine (impl_outside.calls a0_4 true _ A9.out).mono ?_);rintro e w' ⟨rfl,⟨nd,rfl⟩⟩) | (go_at_call 136;(with_reducible refine (impl_portOk.calls a0_5 true _ A12.out).mono ?_);rintro e w' ⟨rfl,⟨nd,rfl⟩⟩) | (go_at_call 136;(with_reducible refine (impl_portOk.calls a0_6 false _ A14.out).mono ?_);rintro e w' ⟨rfl,⟨nd,rfl⟩⟩))
         go_ret
         exact ⟨fi_,m4_⟩
       ·replace c13:=Bool.eq_false_iff.mpr c13;subst c13;rw [if_neg nft_] at H;obtain rfl:=Option.some.inj H
        go_enter Tryz.func100,Tryz.ntmps100
        go_wp2_with (first | ((with_reducible refine gD 1 rfl ?_);refine box_event rfl (N:=1) rfl (cs:=#[.bool a0_0,.int .i64 a0_1,.int .i64 a0_2,.int .i64 a0_3,.int .i64 a0_4,.int .i64 a0_5,.int .i64 a0_6]) (t:=35) hr_ ?_;intro gb6 hg w20 hbox hb;have BK6:=am hbox;have GW6:=gwE HB hg;have GE6:=gwE HB hg;replace HB:=hbS HB hb;clear hb hbox hg;have ⟨_,_,_,_,_,_,_,_,_,_,_,_,_,_⟩:=cf7 BK6) | ((with_reducible refine gC 135 rfl ?_);refine gL (some 5) Tryz.func135 #[.int .i64 a0_1] ?_;(with_reducible refine (impl_inside.calls a0_1 true _ A2.out).mono ?_);rintro e w' ⟨rfl,⟨nd,rfl⟩⟩;refine ⟨_,rfl,?_⟩) | (go_at_call 135;(with_reducible refine (impl_inside.calls a0_2 true _ A4.out).mono ?_);rintro e w' ⟨rfl,⟨nd,rfl⟩⟩) | (go_at_call 155;(with_reducible refine (impl_outside.calls a0_3 true _ A7.out).mono ?_);rintro e w' ⟨rfl,⟨nd,rfl⟩⟩) | (go_at_call 155;(with_reducible refine (impl_outside.calls a0_4 true _ A9.out).mono ?_);rintro e w' ⟨rfl,⟨nd,rfl⟩⟩) | (go_at_call 136;(with_reducible refine (impl_portOk.calls a0_5 false _ A12.out).mono ?_);rintro e w' ⟨rfl,⟨nd,rfl⟩⟩))
        go_ret
        exact ⟨fi_,m4_⟩
      ·rw [if_neg c11] at H;have c11b0 : decide (a0_3 ≤ a0_4) = false:=decide_eq_false c11;clear c11;obtain rfl:=Option.some.inj H
       go_enter Tryz.func100,Tryz.ntmps100
       go_wp2_with (first | ((with_reducible refine gD 1 rfl ?_);refine box_event rfl (N:=1) rfl (cs:=#[.bool a0_0,.int .i64 a0_1,.int .i64 a0_2,.int .i64 a0_3,.int .i64 a0_4,.int .i64 a0_5,.int .i64 a0_6]) (t:=35) hr_ ?_;intro gb6 hg w22 hbox hb;have BK6:=am hbox;have GW6:=gwE HB hg;have GE6:=gwE HB hg;replace HB:=hbS HB hb;clear hb hbox hg;have ⟨_,_,_,_,_,_,_,_,_,_,_,_,_,_⟩:=cf7 BK6) | ((with_reducible refine gC 135 rfl ?_);refine gL (some 5) Tryz.func135 #[.int .i64 a0_1] ?_;(with_reducible refine (impl_inside.calls a0_1 true _ A2.out).mono ?_);rintro e w' ⟨rfl,⟨nd,rfl⟩⟩;refine ⟨_,rfl,?_⟩) | (go_at_call 135;(with_reducible refine (impl_inside.calls a0_2 true _ A4.out).mono ?_);rintro e w' ⟨rfl,⟨nd,rfl⟩⟩) | (go_at_call 155;(with_reducible refine (impl_outside.calls a0_3 true _ A7.out).mono ?_);rintro e w' ⟨rfl,⟨nd,rfl⟩⟩) | (go_at_call 155;(with_reducible refine (impl_outside.calls a0_4 true _ A9.out).mono ?_);rintro e w' ⟨rfl,⟨nd,rfl⟩⟩))
       go_ret
       exact ⟨fi_,m4_⟩
     ·replace c10:=Bool.eq_false_iff.mpr c10;subst c10;rw [if_neg nft_] at H;obtain rfl:=Option.some.inj H
      go_enter Tryz.func100,Tryz.ntmps100
      go_wp2_with (first | ((with_reducible refine gD 1 rfl ?_);refine box_event rfl (N:=1) rfl (cs:=#[.bool a0_0,.int .i64 a0_1,.int .i64 a0_2,.int .i64 a0_3,.int .i64 a0_4,.int .i64 a0_5,.int .i64 a0_6]) (t:=35) hr_ ?_;intro gb6 hg w24 hbox hb;have BK6:=am hbox;have GW6:=gwE HB hg;have GE6:=gwE HB hg;replace HB:=hbS HB hb;clear hb hbox hg;have ⟨_,_,_,_,_,_,_,_,_,_,_,_,_,_⟩:=cf7 BK6) | ((with_reducible refine gC 135 rfl ?_);refine gL (some 5) Tryz.func135 #[.int .i64 a0_1] ?_;(with_reducible refine (impl_inside.calls a0_1 true _ A2.out).mono ?_);rintro e w' ⟨rfl,⟨nd,rfl⟩⟩;refine ⟨_,rfl,?_⟩) | (go_at_call 135;(with_reducible refine (impl_inside.calls a0_2 true _ A4.out).mono ?_);rintro e w' ⟨rfl,⟨nd,rfl⟩⟩) | (go_at_call 155;(with_reducible refine (impl_outside.calls a0_3 true _ A7.out).mono ?_);rintro e w' ⟨rfl,⟨nd,rfl⟩⟩) | (go_at_call 155;(with_reducible refine (impl_outside.calls a0_4 false _ A9.out).mono ?_);rintro e w' ⟨rfl,⟨nd,rfl⟩⟩))
      go_ret
      exact ⟨fi_,m4_⟩
    ·replace c8:=Bool.eq_false_iff.mpr c8;subst c8;rw [if_neg nft_] at H;obtain rfl:=Option.some.inj H
     go_enter Tryz.func100,Tryz.ntmps100
     go_wp2_with (first | ((with_reducible refine gD 1 rfl ?_);refine box_event rfl (N:=1) rfl (cs:=#[.bool a0_0,.int .i64 a0_1,.int .i64 a0_2,.int .i64 a0_3,.int .i64 a0_4,.int .i64 a0_5,.int .i64 a0_6]) (t:=35) hr_ ?_;intro gb6 hg w26 hbox hb;have BK6:=am hbox;have GW6:=gwE HB hg;have GE6:=gwE HB hg;replace HB:=hbS HB hb;clear hb hbox hg;have ⟨_,_,_,_,_,_,_,_,_,_,_,_,_,_⟩:=cf7 BK6) | ((with_reducible refine gC 135 rfl ?_);refine gL (some 5) Tryz.func135 #[.int .i64 a0_1] ?_;(with_reducible refine (impl_inside.calls a0_1 true _ A2.out).mono ?_);rintro e w' ⟨rfl,⟨nd,rfl⟩⟩;refine ⟨_,rfl,?_⟩) | (go_at_call 135;(with_reducible refine (impl_inside.calls a0_2 true _ A4.out).mono ?_);rintro e w' ⟨rfl,⟨nd,rfl⟩⟩) | (go_at_call 155;(with_reducible refine (impl_outside.calls a0_3 false _ A7.out).mono ?_);rintro e w' ⟨rfl,⟨nd,rfl⟩⟩))
     go_ret
     exact ⟨fi_,m4_⟩
   ·rw [if_neg c6] at H;have c6b0 : decide (a0_1 ≤ a0_2) = false:=decide_eq_false c6;clear c6;obtain rfl:=Option.some.inj H
    go_enter Tryz.func100,Tryz.ntmps100
    go_wp2_with (first | ((with_reducible refine gD 1 rfl ?_);refine box_event rfl (N:=1) rfl (cs:=#[.bool a0_0,.int .i64 a0_1,.int .i64 a0_2,.int .i64 a0_3,.int .i64 a0_4,.int .i64 a0_5,.int .i64 a0_6]) (t:=35) hr_ ?_;intro gb6 hg w28 hbox hb;have BK6:=am hbox;have GW6:=gwE HB hg;have GE6:=gwE HB hg;replace HB:=hbS HB hb;clear hb hbox hg;have ⟨_,_,_,_,_,_,_,_,_,_,_,_,_,_⟩:=cf7 BK6) | ((with_reducible refine gC 135 rfl ?_);refine gL (some 5) Tryz.func135 #[.int .i64 a0_1] ?_;(with_reducible refine (impl_inside.calls a0_1 true _ A2.out).mono ?_);rintro e w' ⟨rfl,⟨nd,rfl⟩⟩;refine ⟨_,rfl,?_⟩) | (go_at_call 135;(with_reducible refine (impl_inside.calls a0_2 true _ A4.out).mono ?_);rintro e w' ⟨rfl,⟨nd,rfl⟩⟩))
    go_ret
    exact ⟨fi_,m4_⟩
  ·replace c5:=Bool.eq_false_iff.mpr c5;subst c5;rw [if_neg nft_] at H;obtain rfl:=Option.some.inj H
   go_enter Tryz.func100,Tryz.ntmps100
   go_wp2_with (first | ((with_reducible refine gD 1 rfl ?_);refine box_event rfl (N:=1) rfl (cs:=#[.bool a0_0,.int .i64 a0_1,.int .i64 a0_2,.int .i64 a0_3,.int .i64 a0_4,.int .i64 a0_5,.int .i64 a0_6]) (t:=35) hr_ ?_;intro gb6 hg w30 hbox hb;have BK6:=am hbox;have GW6:=gwE HB hg;have GE6:=gwE HB hg;replace HB:=hbS HB hb;clear hb hbox hg;have ⟨_,_,_,_,_,_,_,_,_,_,_,_,_,_⟩:=cf7 BK6) | ((with_reducible refine gC 135 rfl ?_);refine gL (some 5) Tryz.func135 #[.int .i64 a0_1] ?_;(with_reducible refine (impl_inside.calls a0_1 true _ A2.out).mono ?_);rintro e w' ⟨rfl,⟨nd,rfl⟩⟩;refine ⟨_,rfl,?_⟩) | (go_at_call 135;(with_reducible refine (impl_inside.calls a0_2 false _ A4.out).mono ?_);rintro e w' ⟨rfl,⟨nd,rfl⟩⟩))
   go_ret
   exact ⟨fi_,m4_⟩
 ·replace c3:=Bool.eq_false_iff.mpr c3;subst c3;rw [if_neg nft_] at H;obtain rfl:=Option.some.inj H
  go_enter Tryz.func100,Tryz.ntmps100
  go_wp2_with (first | ((with_reducible refine gD 1 rfl ?_);refine box_event rfl (N:=1) rfl (cs:=#[.bool a0_0,.int .i64 a0_1,.int .i64 a0_2,.int .i64 a0_3,.int .i64 a0_4,.int .i64 a0_5,.int .i64 a0_6]) (t:=35) hr_ ?_;intro gb6 hg w32 hbox hb;have BK6:=am hbox;have GW6:=gwE HB hg;have GE6:=gwE HB hg;replace HB:=hbS HB hb;clear hb hbox hg;have ⟨_,_,_,_,_,_,_,_,_,_,_,_,_,_⟩:=cf7 BK6) | ((with_reducible refine gC 135 rfl ?_);refine gL (some 5) Tryz.func135 #[.int .i64 a0_1] ?_;(with_reducible refine (impl_inside.calls a0_1 false _ A2.out).mono ?_);rintro e w' ⟨rfl,⟨nd,rfl⟩⟩;refine ⟨_,rfl,?_⟩))
  go_ret
  exact ⟨fi_,m4_⟩
end
def ruleOk (x : S35) : Bool:=inB x.f1 1 9 && inB x.f2 1 9 && decide (x.f1 ≤ x.f2) && inB x.f3 100 109 && inB x.f4 100 109 && decide (x.f3 ≤ x.f4) && inB x.f5 1 999 && inB x.f6 1 999 && decide (x.f5 ≤ x.f6)
theorem RulOk_f (x : S35) : impl_RulOk.f x.f0 x.f1 x.f2 x.f3 x.f4 x.f5 x.f6 = some (ruleOk x):=by
  unfold impl_RulOk.f ruleOk
  simp only [inside_f,outside_f,portOk_f,Option.bind_some]
  cases inB x.f1 1 9 <;> cases inB x.f2 1 9 <;> cases inB x.f3 100 109 <;> cases inB x.f4 100 109 <;> cases inB x.f5 1 999 <;> cases inB x.f6 1 999 <;> by_cases h1 : x.f1 ≤ x.f2 <;> by_cases h2 : x.f3 ≤ x.f4 <;> simp [h1,h2]
def impl_rulesOk.f (l : List S35) : Option Bool:=some (decide ((l.length : Int) ≤ 5) && l.all ruleOk)
set_option maxRecDepth 100000 in
theorem rulesOk_cl (x : S35) (w : World) :
    Calls Tryz.prog 99 #[.agg #[.bool x.f0,.int .i64 x.f1,.int .i64 x.f2,.int .i64 x.f3,.int .i64 x.f4,.int .i64 x.f5,.int .i64 x.f6]] w fun e w'=>e = .returned (.bool (!(ruleOk x))) ∧ Below w.heap.size w w':=by
  have HF:=Lib.hid (RulOk_f x)
  go_enter Tryz.func99,Tryz.ntmps99
  go_wp2_with (go_at_call 100;refine (impl_RulOk.calls _ _ _ _ _ _ _ _ _ HF.out).mono ?_;rintro e w' ⟨rfl,hb⟩)
  go_ret
  exact ⟨rfl,((Below.refl _ _).alloc (Nat.le_refl _) _).trans (hb.mono (by simp))⟩
def IdxPost (b : Bool) (w : World) (e : Ending) (w' : World) : Prop:=∃ n : Int,e = .returned (.int .i64 n) ∧ decide (0 ≤ n) = b ∧ Below w.heap.size w w'
set_option maxRecDepth 100000 in
set_option maxHeartbeats 1000000 in
theorem rulesOk_idx (A0 : Option Addr) (c0 : Nat) (l0 : List S35) (w : World) (hr0 : Kd.C k35 w A0 l0.length l0) :
    Calls Tryz.prog 154 #[.slice A0 l0.length c0,.func (.func 99) #[] #[]] w (IdxPost (!(l0.all ruleOk)) w):=by
  have hlen : l0.length ≤ 9223372036854775807:=hr0.2.1
  have HR:=Lib.hid hr0
  clear hr0
  go_enter Tryz.func154,Tryz.ntmps154
  go_wp2
  go_loopw [8] (fun i wr=>∃ k : Nat,k ≤ l0.length ∧ i = .int .i64 k ∧ Aside0 ((l0.take k).all ruleOk = true) ∧ Aside0 (Below w.heap.size w wr)) (fun i _=>l0.length - (intOf i).toNat)
  case atStart=>exact ⟨0,Nat.zero_le _,rfl,⟨by simp⟩,⟨Below.refl _ _⟩⟩
  case round=>
    obtain ⟨k,hk,rfl,ha,hb⟩:=hrel
    by_cases hlt : k < l0.length
    · obtain ⟨ad,e,h0,h1,h2,h3,h4,h5,h6⟩:=at_T35 (Kd.C_below HR.out hb.out) k (by omega) (by omega)
      have hx : rd_T35 l0 k = l0[k]:=by simp [rd_T35,List.getD_eq_getElem?_getD,hlt]
      have htk:=List.take_succ_eq_append_getElem hlt
      rw [← hx] at htk
      obtain ⟨x,hxx⟩ : ∃ x,rd_T35 l0 k = x:=⟨_,rfl⟩
      rw [hxx] at h0 h1 h2 h3 h4 h5 h6 hx htk
      have hmem : x ∈ l0:=by rw [hx];exact List.getElem_mem _
      have HT:=Lib.hid htk
      have HM:=Lib.hid hmem
      clear hxx hx htk hmem
      cases e
      rw [Int.toNat_natCast] at h0 h1 h2 h3 h4 h5 h6
      cases hok : ruleOk x with
      | true=>
        have HO:=Lib.hid hok
        clear hok
        go_wp2_with (go_at_call 99;refine (rulesOk_cl x _).mono ?_;rw [HO.out];rintro e w' ⟨rfl,hb1⟩)
        go_roundw
        case rel=>exact ⟨k + 1,by omega,by go_num,⟨by rw [HT.out,List.all_append,ha.out];simp [HO.out]⟩,⟨hb.out.trans (hb1.mono hb.out.size)⟩⟩
        case measure=>simp [intOf];omega
      | false=>
        have HO:=Lib.hid hok
        clear hok
        go_wp2_with (go_at_call 99;refine (rulesOk_cl x _).mono ?_;rw [HO.out];rintro e w' ⟨rfl,hb1⟩)
        go_ret
        refine ⟨k,rfl,?_,hb.out.trans (hb1.mono hb.out.size)⟩
        have : l0.all ruleOk = false:=by
          rw [List.all_eq_false]
          exact ⟨x,HM.out,by simp [HO.out]⟩
        simp [this]
    · have hk2 : k = l0.length:=by omega
      subst hk2
      go_wp2
      go_ret
      refine ⟨-1,rfl,?_,hb.out⟩
      have:=ha.out
      rw [List.take_length] at this
      simp [this]
def BoolPost (b : Bool) (w : World) (e : Ending) (w' : World) : Prop:=e = .returned (.bool b) ∧ Below w.heap.size w w'
set_option maxRecDepth 100000 in
theorem rulesOk_has (A0 : Option Addr) (c0 : Nat) (l0 : List S35) (w : World) (hr0 : Kd.C k35 w A0 l0.length l0) :
    Calls Tryz.prog 98 #[.slice A0 l0.length c0,.func (.func 99) #[] #[]] w (BoolPost (!(l0.all ruleOk)) w):=by
  have HR:=Lib.hid hr0
  clear hr0
  go_enter Tryz.func98,Tryz.ntmps98
  go_wp2_with (go_at_call 154;refine (rulesOk_idx A0 c0 l0 _ HR.out).mono ?_;rintro e w' ⟨n,rfl,hn,hb⟩;have HN:=Lib.hid hn;clear hn)
  go_ret
  exact ⟨by rw [← HN.out];rfl,hb⟩
set_option maxRecDepth 100000 in
theorem impl_rulesOk.calls (A0 : Option Addr) (c0 : Nat) (l0 : List (S35)) (r : Bool) (w : World) (hr0 : Kd.C k35 w A0 l0.length l0) (hc0 : l0.length ≤ c0) (h : impl_rulesOk.f l0 = some r) :
    Calls Tryz.prog 43 #[.slice A0 l0.length c0] w fun e w'=>e = .returned (.bool r) ∧ Below w.heap.size w w':=by
  have hlen : l0.length ≤ 9223372036854775807:=hr0.2.1
  have HH:=Lib.hid (Option.some.inj h)
  have HR:=Lib.hid hr0
  clear hr0 h hc0
  by_cases h5 : (l0.length : Int) ≤ 5
  · have h5' : decide ((l0.length : Int) ≤ 5) = true:=decide_eq_true h5
    have H5:=Lib.hid h5'
    clear h5'
    go_enter Tryz.func43,Tryz.ntmps43
    go_wp2_with (go_at_call 98;refine (rulesOk_has A0 c0 l0 _ HR.out).mono ?_;rintro e w' ⟨rfl,hb⟩)
    go_ret
    exact ⟨by rw [← HH.out,H5.out];simp,hb⟩
  · have h5' : decide ((l0.length : Int) ≤ 5) = false:=decide_eq_false h5
    have H5:=Lib.hid h5'
    clear h5'
    go_enter Tryz.func43,Tryz.ntmps43
    go_wp2_with fail
    go_ret
    exact ⟨by rw [← HH.out,H5.out];simp,Below.refl _ _⟩
section
attribute [local go_sem] max2_int min2_int max_two min_two max_three min_three max_four min_four
def impl_BoxNew.f (l0 : List (S35)) : Option ((List (S35)) × (List (S54)) × (List (S56))):=(impl_rulesOk.f l0).bind fun t207=>(if t207 = true then ((impl_RulRule_45.f l0).bind fun t208=>((impl_RulRule_44.f t208).bind fun bt211=>(some (bt211.1,([] : List (S54)),([] : List (S56)))))) else (some (([] : List (S35)),([] : List (S54)),([] : List (S56)))))
set_option maxHeartbeats 8000000 in
set_option maxRecDepth 100000 in
theorem impl_BoxNew.calls (A0 : Option Addr) (c0 : Nat) (l0 : List (S35)) (r1 : List (S35)) (r2 : List (S54)) (r3 : List (S56)) (w : World) (hr0 : Kd.C k35 w A0 l0.length l0) (hc0 : l0.length ≤ c0) (h : impl_BoxNew.f l0 = some (r1,r2,r3)) :
  Calls Tryz.prog 11 #[.slice A0 l0.length c0] w fun e w'=>∃ v0_ v1_ v2_ : Value,e = .returned (.agg #[v0_,v1_,v2_]) ∧ Kd.R k35 35 w' w.heap.size (fun _=>True) v0_ r1 ∧ Kd.R k54 54 w' w.heap.size (fun _=>True) v1_ r2 ∧ Kd.R k56 56 w' w.heap.size (fun _=>True) v2_ r3 ∧ Below w.heap.size w w':=by
 have hu30:=Tryz.underlying30;have HR0:=am hr0;have HC0:=am hc0;clear hr0 hc0;have HB:=am (Below.refl w.heap.size w);have H : ((impl_rulesOk.f l0).bind fun t0=>(if t0 = true then ((impl_RulRule_45.f l0).bind fun t1=>((impl_RulRule_44.f t1).bind fun bt2=>(some (bt2.1,([] : List (S54)),([] : List (S56)))))) else (some (([] : List (S35)),([] : List (S54)),([] : List (S56)))))) = some (r1,r2,r3):=h;clear h;obtain ⟨t0,A2,H⟩:=bse H
 try dsimp only at H
 by_cases c3 : t0 = true
 ·subst c3;rw [if_pos rfl] at H;obtain ⟨t1,A4,H⟩:=bse H
  try dsimp only at H
  obtain ⟨⟨t2,t3⟩,A5,H⟩:=bse H
  try dsimp only at H
  simp only [Option.some.injEq,Prod.mk.injEq] at H;obtain ⟨rfl,rfl,rfl⟩:=H
  go_enter Tryz.func11,Tryz.ntmps11
  go_wp2_with (first | ((with_reducible refine gD 2 rfl ?_);refine box_event rfl (N:=2) rfl (cs:=#[.slice none 0 0,.slice none 0 0,.slice none 0 0]) (t:=30) hr_ ?_;intro gb4 hg w6 hbox hb;have BK4:=am hbox;have GW4:=gwE HB hg;have GE4:=gwE HB hg;replace HB:=hbS HB hb;clear hb hbox hg) | ((with_reducible refine gC 43 rfl ?_);refine gL (some 4) Tryz.func43 #[.slice A0 l0.length c0] ?_;(with_reducible refine (impl_rulesOk.calls _ _ l0 true _ ?side1 ?side2 A2.out).mono ?_);(case side1=>exact m3_);(case side2=>exact HC0.out);rintro e w7 ⟨rfl,hb⟩;refine ⟨_,rfl,?_⟩;replace BK4:=bkB BK4 hb;replace HB:=hbS HB hb;(try clear hb)) | ((with_reducible refine gC 45 rfl ?_);refine gL (some 8) Tryz.func45 #[.slice A0 l0.length c0] ?_;(with_reducible refine (impl_RulRule_45.calls _ _ l0 t1 _ ?side1 ?side2 A4.out).mono ?_);(case side1=>exact m3_);(case side2=>exact HC0.out);rintro e w8 ⟨v5,rfl,ho0,hb⟩;refine ⟨_,rfl,?_⟩;have HO6:=am (Kd.R_lower ho0 (below_size (bl HB)));replace BK4:=bkB BK4 hb;replace HB:=hbS HB hb;(try clear hb);(try clear ho0);obtain ⟨Ao9,co9,eo9⟩:=Kd.R_slice HO6.out;subst eo9) | ((with_reducible refine gC 44 rfl ?_);refine gL (some 9) Tryz.func44 #[.slice Ao9 t1.length co9] ?_;(with_reducible refine (clip_rule Ao9 t1.length co9 (Kd.R_reads' HO6.out).2.1 _).mono ?_);rintro e w10 ⟨v7,rfl,hv_,hw_⟩;refine ⟨_,rfl,?_⟩;replace BK4:=bkW BK4 hw_;have HO8:=clipR (ok':=fun k_=>some k_ ≠ (.slice none 0 0 : Value).ownBlock) HO6 hv_ hw_ A5.out (fun k_ hk_=>by first | exact ⟨by simp [Value.ownBlock],hk_⟩ | (simp [Value.ownBlock];done) | exact hk_);replace HO6:=clipNil HO6 w10 A5.out;replace HB:=blW HB hw_;clear hv_ hw_;obtain ⟨Ao11,co11,eo11⟩:=Kd.R_slice HO8.out;subst eo11;have ⟨_,_,_,_,_,_⟩:=cf3 BK4))
  refine bodyPost_ret (results_cell_row rfl _ _ gb4 30 #[.slice Ao11 t2.length co11,.slice none 0 0,.slice none 0 0] (0,0) _ rfl (by (with_reducible repeat refine bu ?_);refine blk_put (cs:=#[.slice Ao11 t2.length co11,.slice none 0 0,.slice none 0 0]) ?_ 2 _ rfl;(with_reducible repeat refine bu ?_);refine blk_put (cs:=#[.slice Ao11 t2.length co11,.slice none 0 0,.slice none 0 0]) ?_ 1 _ rfl;(with_reducible repeat refine bu ?_);refine blk_put (cs:=#[.slice none 0 0,.slice none 0 0,.slice none 0 0]) ?_ 0 _ rfl;(with_reducible repeat refine bu ?_);exact BK4.out) Tryz.underlying30 rfl (by kernel_rfl)) rfl ?_;exact ⟨_,_,_,fi_,by (with_reducible repeat apply ru);exact Kd.R_mono (Kd.R_far (p:=⟨gb4,2,none⟩) (Kd.R_far (p:=⟨gb4,1,none⟩) (Kd.R_far (p:=⟨gb4,0,none⟩) (Kd.R_types HO8.out BK4.out (by decide)) (fun _ hk=>hk.2) (.slice Ao11 t2.length co11)) (fun _ hk=>hk.2) (.slice none 0 0)) (fun _ hk=>hk.2) (.slice none 0 0)) (fun _ hk=>trivial),by first | exact Kd.R_nil _ _ _ _ _ | exact Kd.N_nil _ _ _ _ _ | exact Kd.V_nil _ _ _ _ _ | exact Kd.Q_nil _ _ _ _ _ | exact Kd.S_nil _ _ _ _ _,by first | exact Kd.R_nil _ _ _ _ _ | exact Kd.N_nil _ _ _ _ _ | exact Kd.V_nil _ _ _ _ _ | exact Kd.Q_nil _ _ _ _ _ | exact Kd.S_nil _ _ _ _ _,m4_⟩
 ·replace c3:=Bool.eq_false_iff.mpr c3;subst c3;rw [if_neg nft_] at H;simp only [Option.some.injEq,Prod.mk.injEq] at H;obtain ⟨rfl,rfl,rfl⟩:=H
  go_enter Tryz.func11,Tryz.ntmps11
  go_wp2_with (first | ((with_reducible refine gD 2 rfl ?_);refine box_event rfl (N:=2) rfl (cs:=#[.slice none 0 0,.slice none 0 0,.slice none 0 0]) (t:=30) hr_ ?_;intro gb4 hg w13 hbox hb;have BK4:=am hbox;have GW4:=gwE HB hg;have GE4:=gwE HB hg;replace HB:=hbS HB hb;clear hb hbox hg) | ((with_reducible refine gC 43 rfl ?_);refine gL (some 4) Tryz.func43 #[.slice A0 l0.length c0] ?_;(with_reducible refine (impl_rulesOk.calls _ _ l0 false _ ?side1 ?side2 A2.out).mono ?_);(case side1=>exact m3_);(case side2=>exact HC0.out);rintro e w14 ⟨rfl,hb⟩;refine ⟨_,rfl,?_⟩;replace BK4:=bkB BK4 hb;replace HB:=hbS HB hb;(try clear hb);have ⟨_,_,_,_,_,_⟩:=cf3 BK4))
  refine bodyPost_ret (results_cell_row rfl _ _ gb4 30 #[.slice none 0 0,.slice none 0 0,.slice none 0 0] (0,0) _ rfl (by (with_reducible repeat refine bu ?_);refine blk_put (cs:=#[.slice none 0 0,.slice none 0 0,.slice none 0 0]) ?_ 2 _ rfl;(with_reducible repeat refine bu ?_);refine blk_put (cs:=#[.slice none 0 0,.slice none 0 0,.slice none 0 0]) ?_ 1 _ rfl;(with_reducible repeat refine bu ?_);refine blk_put (cs:=#[.slice none 0 0,.slice none 0 0,.slice none 0 0]) ?_ 0 _ rfl;(with_reducible repeat refine bu ?_);exact BK4.out) Tryz.underlying30 rfl (by kernel_rfl)) rfl ?_;exact ⟨_,_,_,fi_,by first | exact Kd.R_nil _ _ _ _ _ | exact Kd.N_nil _ _ _ _ _ | exact Kd.V_nil _ _ _ _ _ | exact Kd.Q_nil _ _ _ _ _ | exact Kd.S_nil _ _ _ _ _,by first | exact Kd.R_nil _ _ _ _ _ | exact Kd.N_nil _ _ _ _ _ | exact Kd.V_nil _ _ _ _ _ | exact Kd.Q_nil _ _ _ _ _ | exact Kd.S_nil _ _ _ _ _,by first | exact Kd.R_nil _ _ _ _ _ | exact Kd.N_nil _ _ _ _ _ | exact Kd.V_nil _ _ _ _ _ | exact Kd.Q_nil _ _ _ _ _ | exact Kd.S_nil _ _ _ _ _,m4_⟩
theorem eqA35 (d : Nat) (w : World) (x0 y0 : Bool) (x1 y1 : Int) (x2 y2 : Int) (x3 y3 : Int) (x4 y4 : Int) (x5 y5 : Int) (x6 y6 : Int) :
  (Op.equalIn (d + 2) 35 (.agg #[.bool x0,.int .i64 x1,.int .i64 x2,.int .i64 x3,.int .i64 x4,.int .i64 x5,.int .i64 x6]) (.agg #[.bool y0,.int .i64 y1,.int .i64 y2,.int .i64 y3,.int .i64 y4,.int .i64 y5,.int .i64 y6])).run Tryz.prog w = .ok (x0 == y0 && (x1 == y1 && (x2 == y2 && (x3 == y3 && (x4 == y4 && (x5 == y5 && (x6 == y6))))))) w:=by
 refine eqA_of Tryz.underlying35 (by kernel_rfl) ?_;refine eqf_cons (by rfl) (by go_simp;rfl) (by go_simp;rfl) (by go_simp) ?_;refine eqf_cons (by rfl) (by go_simp;rfl) (by go_simp;rfl) (by go_simp) ?_;refine eqf_cons (by rfl) (by go_simp;rfl) (by go_simp;rfl) (by go_simp) ?_;refine eqf_cons (by rfl) (by go_simp;rfl) (by go_simp;rfl) (by go_simp) ?_;refine eqf_cons (by rfl) (by go_simp;rfl) (by go_simp;rfl) (by go_simp) ?_;refine eqf_cons (by rfl) (by go_simp;rfl) (by go_simp;rfl) (by go_simp) ?_;exact eqf_last (by rfl) (by go_simp;rfl) (by go_simp;rfl) (by go_simp)
theorem eqA54 (d : Nat) (w : World) (x0 y0 : Int) (x1 y1 : Int) :
  (Op.equalIn (d + 2) 54 (.agg #[.int .i64 x0,.int .i64 x1]) (.agg #[.int .i64 y0,.int .i64 y1])).run Tryz.prog w = .ok (x0 == y0 && (x1 == y1)) w:=by
 refine eqA_of Tryz.underlying54 (by kernel_rfl) ?_;refine eqf_cons (by rfl) (by go_simp;rfl) (by go_simp;rfl) (by go_simp) ?_;exact eqf_last (by rfl) (by go_simp;rfl) (by go_simp;rfl) (by go_simp)
theorem eqA56 (d : Nat) (w : World) (x0 y0 : Int) (x1 y1 : Int) (x2 y2 : Int) (x3 y3 : Int) (x4 y4 : ByteArray) (x5 y5 : ByteArray) (x6 y6 : ByteArray) :
  (Op.equalIn (d + 3) 56 (.agg #[.int .i64 x0,.int .i64 x1,.int .i64 x2,.int .i64 x3,.string x4,.string x5,.string x6]) (.agg #[.int .i64 y0,.int .i64 y1,.int .i64 y2,.int .i64 y3,.string y4,.string y5,.string y6])).run Tryz.prog w = .ok ((x0 == y0 && (x1 == y1)) && ((x2 == y2 && (x3 == y3)) && (x4.toList == y4.toList && (x5.toList == y5.toList && (x6.toList == y6.toList))))) w:=by
 refine eqA_of Tryz.underlying56 (by kernel_rfl) ?_;refine eqf_cons (by rfl) (by go_simp) (by go_simp) (eqA54 (d + 0) w _ _ _ _) ?_;refine eqf_cons (by rfl) (by go_simp) (by go_simp) (eqA54 (d + 0) w _ _ _ _) ?_;refine eqf_cons (by rfl) (by go_simp;rfl) (by go_simp;rfl) (by go_simp) ?_;refine eqf_cons (by rfl) (by go_simp;rfl) (by go_simp;rfl) (by go_simp) ?_;exact eqf_last (by rfl) (by go_simp;rfl) (by go_simp;rfl) (by go_simp)
end
section
attribute [local go_sem] max2_int min2_int max_two min_two max_three min_three max_four min_four
attribute [local go_sem high] eqA35
def laws_haRules.l0 : Nat → List (S35) → List (S35) → Int → Option (Bool)
 | 0,_,_,_=>none
 | k + 1,x0,x1,x5=>if x5 < (x0.length : Int) then (if 0 ≤ x5 then (if x5 < (x1.length : Int) then (if (!(((rd_T35 x0 x5).f0) == ((rd_T35 x1 x5).f0)) || (!(((rd_T35 x0 x5).f1) == ((rd_T35 x1 x5).f1)) || (!(((rd_T35 x0 x5).f2) == ((rd_T35 x1 x5).f2)) || (!(((rd_T35 x0 x5).f3) == ((rd_T35 x1 x5).f3)) || (!(((rd_T35 x0 x5).f4) == ((rd_T35 x1 x5).f4)) || (!(((rd_T35 x0 x5).f5) == ((rd_T35 x1 x5).f5)) || (!(((rd_T35 x0 x5).f6) == ((rd_T35 x1 x5).f6))))))))) = true then (some false) else (laws_haRules.l0 k x0 x1 (wrap64 (x5 + 1)))) else (none)) else (none)) else (some true)
def laws_haRules.f (k : Nat) (l0 : List (S35)) (l1 : List (S35)) : Option (Bool):=if (l0.length : Int) = (l1.length : Int) then (laws_haRules.l0 k l0 l1 0) else (some false)
theorem laws_haRules.mono_l : ∀ k,(∀ y0 y1 y2,LeO (laws_haRules.l0 k y0 y1 y2) (laws_haRules.l0 (k + 1) y0 y1 y2))
 | 0=>fun _ _ _ r h=>by simp [laws_haRules.l0] at h
 | k + 1=>by
  have ih0:=laws_haRules.mono_l k
  ·intro y0 y1 y2;unfold laws_haRules.l0
   repeat' first | (with_reducible first | exact ih0 _ _ _ | exact LeO.refl _ | exact LeO.none _ | refine LeO.ite ?_ ?_ | refine LeO.bind ?_ (fun _=>?_)) | exact ih0 _ _ _ | exact LeO.none _ | refine LeO.ite ?_ ?_ | refine LeO.bind ?_ (fun _=>?_)
theorem laws_haRules.mono : ∀ a0 a1 k,LeO (laws_haRules.f k a0 a1) (laws_haRules.f (k + 1) a0 a1):=by
 intro a0 a1 k;have ih0:=laws_haRules.mono_l k;unfold laws_haRules.f
 repeat' first | (with_reducible first | exact ih0 _ _ _ | exact LeO.refl _ | exact LeO.none _ | refine LeO.ite ?_ ?_ | refine LeO.bind ?_ (fun _=>?_)) | exact ih0 _ _ _ | exact LeO.none _ | refine LeO.ite ?_ ?_ | refine LeO.bind ?_ (fun _=>?_)
set_option maxHeartbeats 8000000 in
set_option maxRecDepth 100000 in
theorem laws_haRules.calls (k : Nat) (A0 : Option Addr) (c0 : Nat) (l0 : List (S35)) (A1 : Option Addr) (c1 : Nat) (l1 : List (S35)) (r : Bool) (w : World) (hr0 : Kd.C k35 w A0 l0.length l0) (hc0 : l0.length ≤ c0) (hr1 : Kd.C k35 w A1 l1.length l1) (hc1 : l1.length ≤ c1) (h : laws_haRules.f k l0 l1 = some r) :
  Calls Tryz.prog 17 #[.slice A0 l0.length c0,.slice A1 l1.length c1] w fun e w'=>e = .returned (.bool r) ∧ Drawn0 w w':=by
 have hu35:=Tryz.underlying35;have HR0:=am hr0;have HC0:=am hc0;clear hr0 hc0;have HR1:=am hr1;have HC1:=am hc1;clear hr1 hc1;have H : (if (l0.length : Int) = (l1.length : Int) then (laws_haRules.l0 k l0 l1 0) else (some false)) = some r:=h;clear h
 by_cases c3 : (l0.length : Int) = (l1.length : Int)
 ·rw [if_pos c3] at H;have c3b0 : ((l0.length : Int) == (l1.length : Int)) = true:=beq_iff_eq.mpr c3;have c3b1 : ((l0.length : Int) != (l1.length : Int)) = false:=bne_eq_false_iff_eq.mpr c3;have c3b2 : (l0.length == l1.length) = true:=by first | simpa using c3 | (simp at c3 ⊢;omega)
  clear c3;have H':=am H;clear H
  go_enter Tryz.func17,Tryz.ntmps17
  go_wp2
  repeat (go_quiet (fail);try go_wp2)
  go_loopg [5] k (fun kq v5 w'=>∃ (x5_1 : Int),v5 = .int .i64 x5_1 ∧ Aside0 (laws_haRules.l0 kq l0 l1 x5_1 = some r) ∧ Aside0 (kq ≤ k) ∧ Drawn0 w w')
  case atStart=>exact ⟨(0),rs_,H',⟨Nat.le_refl _⟩,by repeat (first | exact Drawn0.refl _ | apply Drawn0.step)⟩
  case round=>
   clear H';(try clear c1);(try clear p2);(try clear c3);(try clear c3b0);(try clear c3b1);(try clear c3b2);obtain ⟨x5_1,rfl,HA,HK1,⟨m1,rfl⟩⟩:=hrel
   cases gk with
   | zero=>exact absurd HA.out (by simp [laws_haRules.l0])
   | succ k1=>
    have H:=HA.out;clear HA;simp only [laws_haRules.l0] at H
    by_cases c4 : x5_1 < (l0.length : Int)
    ·rw [if_pos c4] at H;have c4b0 : decide (x5_1 < (l0.length : Int)) = true:=decide_eq_true c4;clear c4
     by_cases c5 : 0 ≤ x5_1
     ·rw [if_pos c5] at H;have c5b0 : decide (0 ≤ x5_1) = true:=decide_eq_true c5;clear c5
      by_cases c6 : x5_1 < (l1.length : Int)
      ·rw [if_pos c6] at H;have c6b0 : decide (x5_1 < (l1.length : Int)) = true:=decide_eq_true c6;clear c6
       by_cases c7 : (!(((rd_T35 l0 x5_1).f0) == ((rd_T35 l1 x5_1).f0)) || (!(((rd_T35 l0 x5_1).f1) == ((rd_T35 l1 x5_1).f1)) || (!(((rd_T35 l0 x5_1).f2) == ((rd_T35 l1 x5_1).f2)) || (!(((rd_T35 l0 x5_1).f3) == ((rd_T35 l1 x5_1).f3)) || (!(((rd_T35 l0 x5_1).f4) == ((rd_T35 l1 x5_1).f4)) || (!(((rd_T35 l0 x5_1).f5) == ((rd_T35 l1 x5_1).f5)) || (!(((rd_T35 l0 x5_1).f6) == ((rd_T35 l1 x5_1).f6))))))))) = true
       ·rw [if_pos c7] at H;have c7b0 : (!(((rd_T35 l0 x5_1).f0) == ((rd_T35 l1 x5_1).f0)) || (!(((rd_T35 l0 x5_1).f1) == ((rd_T35 l1 x5_1).f1)) || (!(((rd_T35 l0 x5_1).f2) == ((rd_T35 l1 x5_1).f2)) || (!(((rd_T35 l0 x5_1).f3) == ((rd_T35 l1 x5_1).f3)) || (!(((rd_T35 l0 x5_1).f4) == ((rd_T35 l1 x5_1).f4)) || (!(((rd_T35 l0 x5_1).f5) == ((rd_T35 l1 x5_1).f5)) || (!(((rd_T35 l0 x5_1).f6) == ((rd_T35 l1 x5_1).f6))))))))) = true:=c7;clear c7;obtain rfl:=Option.some.inj H;have p7 : 0 ≤ (x5_1 : Int):=of_decide_eq_true da_;have q7 : x5_1 < (l0.length : Int):=of_decide_eq_true da_;obtain ⟨ad7,e7,hx7_0,hx7_1,hx7_2,hx7_3,hx7_4,hx7_5,hx7_6⟩:=at_T35 HR0.out x5_1 p7 q7;cases e7;replace p7:=eq_true p7;replace q7:=eq_true q7;have p8 : 0 ≤ (x5_1 : Int):=of_decide_eq_true da_;have q8 : x5_1 < (l1.length : Int):=of_decide_eq_true da_;obtain ⟨ad8,e8,hx8_0,hx8_1,hx8_2,hx8_3,hx8_4,hx8_5,hx8_6⟩:=at_T35 HR1.out x5_1 p8 q8;cases e8;replace p8:=eq_true p8;replace q8:=eq_true q8
        go_wp2
        repeat (go_quiet (fail);try go_wp2)
        go_ret
        exact ⟨fr_,dn_⟩
       ·rw [if_neg c7] at H;have c7b0 : (!(((rd_T35 l0 x5_1).f0) == ((rd_T35 l1 x5_1).f0)) || (!(((rd_T35 l0 x5_1).f1) == ((rd_T35 l1 x5_1).f1)) || (!(((rd_T35 l0 x5_1).f2) == ((rd_T35 l1 x5_1).f2)) || (!(((rd_T35 l0 x5_1).f3) == ((rd_T35 l1 x5_1).f3)) || (!(((rd_T35 l0 x5_1).f4) == ((rd_T35 l1 x5_1).f4)) || (!(((rd_T35 l0 x5_1).f5) == ((rd_T35 l1 x5_1).f5)) || (!(((rd_T35 l0 x5_1).f6) == ((rd_T35 l1 x5_1).f6))))))))) = false:=by simpa using c7
        clear c7;have H':=am H;clear H;have p7 : 0 ≤ (x5_1 : Int):=of_decide_eq_true da_;have q7 : x5_1 < (l0.length : Int):=of_decide_eq_true da_;obtain ⟨ad7,e7,hx7_0,hx7_1,hx7_2,hx7_3,hx7_4,hx7_5,hx7_6⟩:=at_T35 HR0.out x5_1 p7 q7;cases e7;replace p7:=eq_true p7;replace q7:=eq_true q7;have p8 : 0 ≤ (x5_1 : Int):=of_decide_eq_true da_;have q8 : x5_1 < (l1.length : Int):=of_decide_eq_true da_;obtain ⟨ad8,e8,hx8_0,hx8_1,hx8_2,hx8_3,hx8_4,hx8_5,hx8_6⟩:=at_T35 HR1.out x5_1 p8 q8;cases e8;replace p8:=eq_true p8;replace q8:=eq_true q8
        go_wp2
        repeat (go_quiet (fail);try go_wp2)
        go_roundg k1
        case measure=>have:=HK1.out;omega
        case rel=>exact ⟨(wrap64 (x5_1 + 1)),rs_,H',⟨by have:=HK1.out;omega⟩,by repeat (first | exact Drawn0.refl _ | apply Drawn0.step)⟩
      ·rw [if_neg c6] at H;exact absurd H (by simp)
     ·rw [if_neg c5] at H;exact absurd H (by simp)
    ·rw [if_neg c4] at H;have c4b0 : decide (x5_1 < (l0.length : Int)) = false:=decide_eq_false c4;clear c4;obtain rfl:=Option.some.inj H
     go_wp2
     repeat (go_quiet (fail);try go_wp2)
     go_ret
     exact ⟨fr_,dn_⟩
 ·rw [if_neg c3] at H;have c3b0 : ((l0.length : Int) == (l1.length : Int)) = false:=beq_eq_false_iff_ne.mpr c3;have c3b1 : ((l0.length : Int) != (l1.length : Int)) = true:=bne_iff_ne.mpr c3;have c3b2 : (l0.length == l1.length) = false:=by first | simpa using c3 | (simp at c3 ⊢;omega)
  obtain rfl:=Option.some.inj H
  go_enter Tryz.func17,Tryz.ntmps17
  go_wp2
  repeat (go_quiet (fail);try go_wp2)
  go_ret
  exact ⟨fr_,dn_⟩
end
section
attribute [local go_sem] max2_int min2_int max_two min_two max_three min_three max_four min_four
attribute [local go_sem high] eqA54
def laws_haEnds.l0 : Nat → List (S54) → List (S54) → Int → Option (Bool)
 | 0,_,_,_=>none
 | k + 1,x0,x1,x5=>if x5 < (x0.length : Int) then (if 0 ≤ x5 then (if x5 < (x1.length : Int) then (if (!(((rd_T54 x0 x5).f0) == ((rd_T54 x1 x5).f0)) || (!(((rd_T54 x0 x5).f1) == ((rd_T54 x1 x5).f1)))) = true then (some false) else (laws_haEnds.l0 k x0 x1 (wrap64 (x5 + 1)))) else (none)) else (none)) else (some true)
def laws_haEnds.f (k : Nat) (l0 : List (S54)) (l1 : List (S54)) : Option (Bool):=if (l0.length : Int) = (l1.length : Int) then (laws_haEnds.l0 k l0 l1 0) else (some false)
theorem laws_haEnds.mono_l : ∀ k,(∀ y0 y1 y2,LeO (laws_haEnds.l0 k y0 y1 y2) (laws_haEnds.l0 (k + 1) y0 y1 y2))
 | 0=>fun _ _ _ r h=>by simp [laws_haEnds.l0] at h
 | k + 1=>by
  have ih0:=laws_haEnds.mono_l k
  ·intro y0 y1 y2;unfold laws_haEnds.l0
   repeat' first | (with_reducible first | exact ih0 _ _ _ | exact LeO.refl _ | exact LeO.none _ | refine LeO.ite ?_ ?_ | refine LeO.bind ?_ (fun _=>?_)) | exact ih0 _ _ _ | exact LeO.none _ | refine LeO.ite ?_ ?_ | refine LeO.bind ?_ (fun _=>?_)
theorem laws_haEnds.mono : ∀ a0 a1 k,LeO (laws_haEnds.f k a0 a1) (laws_haEnds.f (k + 1) a0 a1):=by
 intro a0 a1 k;have ih0:=laws_haEnds.mono_l k;unfold laws_haEnds.f
 repeat' first | (with_reducible first | exact ih0 _ _ _ | exact LeO.refl _ | exact LeO.none _ | refine LeO.ite ?_ ?_ | refine LeO.bind ?_ (fun _=>?_)) | exact ih0 _ _ _ | exact LeO.none _ | refine LeO.ite ?_ ?_ | refine LeO.bind ?_ (fun _=>?_)
set_option maxHeartbeats 8000000 in
set_option maxRecDepth 100000 in
theorem laws_haEnds.calls (k : Nat) (A0 : Option Addr) (c0 : Nat) (l0 : List (S54)) (A1 : Option Addr) (c1 : Nat) (l1 : List (S54)) (r : Bool) (w : World) (hr0 : Kd.C k54 w A0 l0.length l0) (hc0 : l0.length ≤ c0) (hr1 : Kd.C k54 w A1 l1.length l1) (hc1 : l1.length ≤ c1) (h : laws_haEnds.f k l0 l1 = some r) :
  Calls Tryz.prog 46 #[.slice A0 l0.length c0,.slice A1 l1.length c1] w fun e w'=>e = .returned (.bool r) ∧ Drawn0 w w':=by
 have hu54:=Tryz.underlying54;have HR0:=am hr0;have HC0:=am hc0;clear hr0 hc0;have HR1:=am hr1;have HC1:=am hc1;clear hr1 hc1;have H : (if (l0.length : Int) = (l1.length : Int) then (laws_haEnds.l0 k l0 l1 0) else (some false)) = some r:=h;clear h
 by_cases c3 : (l0.length : Int) = (l1.length : Int)
 ·rw [if_pos c3] at H;have c3b0 : ((l0.length : Int) == (l1.length : Int)) = true:=beq_iff_eq.mpr c3;have c3b1 : ((l0.length : Int) != (l1.length : Int)) = false:=bne_eq_false_iff_eq.mpr c3;have c3b2 : (l0.length == l1.length) = true:=by first | simpa using c3 | (simp at c3 ⊢;omega)
  clear c3;have H':=am H;clear H
  go_enter Tryz.func46,Tryz.ntmps46
  go_wp2
  repeat (go_quiet (fail);try go_wp2)
  go_loopg [5] k (fun kq v5 w'=>∃ (x5_1 : Int),v5 = .int .i64 x5_1 ∧ Aside0 (laws_haEnds.l0 kq l0 l1 x5_1 = some r) ∧ Aside0 (kq ≤ k) ∧ Drawn0 w w')
  case atStart=>exact ⟨(0),rs_,H',⟨Nat.le_refl _⟩,by repeat (first | exact Drawn0.refl _ | apply Drawn0.step)⟩
  case round=>
   clear H';(try clear c1);(try clear p2);(try clear c3);(try clear c3b0);(try clear c3b1);(try clear c3b2);obtain ⟨x5_1,rfl,HA,HK1,⟨m1,rfl⟩⟩:=hrel
   cases gk with
   | zero=>exact absurd HA.out (by simp [laws_haEnds.l0])
   | succ k1=>
    have H:=HA.out;clear HA;simp only [laws_haEnds.l0] at H
    by_cases c4 : x5_1 < (l0.length : Int)
    ·rw [if_pos c4] at H;have c4b0 : decide (x5_1 < (l0.length : Int)) = true:=decide_eq_true c4;clear c4
     by_cases c5 : 0 ≤ x5_1
     ·rw [if_pos c5] at H;have c5b0 : decide (0 ≤ x5_1) = true:=decide_eq_true c5;clear c5
      by_cases c6 : x5_1 < (l1.length : Int)
      ·rw [if_pos c6] at H;have c6b0 : decide (x5_1 < (l1.length : Int)) = true:=decide_eq_true c6;clear c6
       by_cases c7 : (!(((rd_T54 l0 x5_1).f0) == ((rd_T54 l1 x5_1).f0)) || (!(((rd_T54 l0 x5_1).f1) == ((rd_T54 l1 x5_1).f1)))) = true
       ·rw [if_pos c7] at H;have c7b0 : (!(((rd_T54 l0 x5_1).f0) == ((rd_T54 l1 x5_1).f0)) || (!(((rd_T54 l0 x5_1).f1) == ((rd_T54 l1 x5_1).f1)))) = true:=c7;clear c7;obtain rfl:=Option.some.inj H;have p3 : 0 ≤ (x5_1 : Int):=of_decide_eq_true da_;have q3 : x5_1 < (l0.length : Int):=of_decide_eq_true da_;obtain ⟨ad3,e3,hx3_0,hx3_1⟩:=at_T54 HR0.out x5_1 p3 q3;cases e3;replace p3:=eq_true p3;replace q3:=eq_true q3;have p4 : 0 ≤ (x5_1 : Int):=of_decide_eq_true da_;have q4 : x5_1 < (l1.length : Int):=of_decide_eq_true da_;obtain ⟨ad4,e4,hx4_0,hx4_1⟩:=at_T54 HR1.out x5_1 p4 q4;cases e4;replace p4:=eq_true p4;replace q4:=eq_true q4
        go_wp2
        repeat (go_quiet (fail);try go_wp2)
        go_ret
        exact ⟨fr_,dn_⟩
       ·rw [if_neg c7] at H;have c7b0 : (!(((rd_T54 l0 x5_1).f0) == ((rd_T54 l1 x5_1).f0)) || (!(((rd_T54 l0 x5_1).f1) == ((rd_T54 l1 x5_1).f1)))) = false:=by simpa using c7
        clear c7;have H':=am H;clear H;have p3 : 0 ≤ (x5_1 : Int):=of_decide_eq_true da_;have q3 : x5_1 < (l0.length : Int):=of_decide_eq_true da_;obtain ⟨ad3,e3,hx3_0,hx3_1⟩:=at_T54 HR0.out x5_1 p3 q3;cases e3;replace p3:=eq_true p3;replace q3:=eq_true q3;have p4 : 0 ≤ (x5_1 : Int):=of_decide_eq_true da_;have q4 : x5_1 < (l1.length : Int):=of_decide_eq_true da_;obtain ⟨ad4,e4,hx4_0,hx4_1⟩:=at_T54 HR1.out x5_1 p4 q4;cases e4;replace p4:=eq_true p4;replace q4:=eq_true q4
        go_wp2
        repeat (go_quiet (fail);try go_wp2)
        go_roundg k1
        case measure=>have:=HK1.out;omega
        case rel=>exact ⟨(wrap64 (x5_1 + 1)),rs_,H',⟨by have:=HK1.out;omega⟩,by repeat (first | exact Drawn0.refl _ | apply Drawn0.step)⟩
      ·rw [if_neg c6] at H;exact absurd H (by simp)
     ·rw [if_neg c5] at H;exact absurd H (by simp)
    ·rw [if_neg c4] at H;have c4b0 : decide (x5_1 < (l0.length : Int)) = false:=decide_eq_false c4;clear c4;obtain rfl:=Option.some.inj H
     go_wp2
     repeat (go_quiet (fail);try go_wp2)
     go_ret
     exact ⟨fr_,dn_⟩
 ·rw [if_neg c3] at H;have c3b0 : ((l0.length : Int) == (l1.length : Int)) = false:=beq_eq_false_iff_ne.mpr c3;have c3b1 : ((l0.length : Int) != (l1.length : Int)) = true:=bne_iff_ne.mpr c3;have c3b2 : (l0.length == l1.length) = false:=by first | simpa using c3 | (simp at c3 ⊢;omega)
  obtain rfl:=Option.some.inj H
  go_enter Tryz.func46,Tryz.ntmps46
  go_wp2
  repeat (go_quiet (fail);try go_wp2)
  go_ret
  exact ⟨fr_,dn_⟩
end
section
attribute [local go_sem] max2_int min2_int max_two min_two max_three min_three max_four min_four
attribute [local go_sem high] eqA56
mutual
def laws_haBox.j0 : Nat → Bool → List (S35) → List (S54) → List (S56) → List (S35) → List (S54) → List (S56) → Option (Bool)
 | 0,_,_,_,_,_,_,_=>none
 | k + 1,x30,x220000,x220001,x220002,x221000,x221001,x221002=>if x30 = true then (some false) else (laws_haBox.l0 k 0 x220000 x220001 x220002 x221000 x221001 x221002)
def laws_haBox.l0 : Nat → Int → List (S35) → List (S54) → List (S56) → List (S35) → List (S54) → List (S56) → Option (Bool)
 | 0,_,_,_,_,_,_,_=>none
 | k + 1,x5,x220000,x220001,x220002,x221000,x221001,x221002=>if x5 < (x220002.length : Int) then (if 0 ≤ x5 then (if x5 < (x221002.length : Int) then (if ((!(((rd_T56 x220002 x5).f0.f0) == ((rd_T56 x221002 x5).f0.f0)) || (!(((rd_T56 x220002 x5).f0.f1) == ((rd_T56 x221002 x5).f0.f1)))) || ((!(((rd_T56 x220002 x5).f1.f0) == ((rd_T56 x221002 x5).f1.f0)) || (!(((rd_T56 x220002 x5).f1.f1) == ((rd_T56 x221002 x5).f1.f1)))) || (!((((rd_T56 x220002 x5).f2).toList) == (((rd_T56 x221002 x5).f2).toList)) || (!((((rd_T56 x220002 x5).f3).toList) == (((rd_T56 x221002 x5).f3).toList)) || (!((((rd_T56 x220002 x5).f4).toList) == (((rd_T56 x221002 x5).f4).toList))))))) = true then (some false) else (laws_haBox.l0 k (wrap64 (x5 + 1)) x220000 x220001 x220002 x221000 x221001 x221002)) else (none)) else (none)) else (some true)
end
def laws_haBox.f (k : Nat) (l0_0 : List (S35)) (l0_1 : List (S54)) (l0_2 : List (S56)) (l1_0 : List (S35)) (l1_1 : List (S54)) (l1_2 : List (S56)) : Option (Bool):=(laws_haEnds.f k l0_1 l1_1).bind fun t221=>(if t221 = true then (if (l0_2.length : Int) = (l1_2.length : Int) then ((laws_haRules.f k l0_0 l1_0).bind fun t222=>(laws_haBox.j0 k (!t222) l0_0 l0_1 l0_2 l1_0 l1_1 l1_2)) else (laws_haBox.j0 k true l0_0 l0_1 l0_2 l1_0 l1_1 l1_2)) else (laws_haBox.j0 k true l0_0 l0_1 l0_2 l1_0 l1_1 l1_2))
theorem laws_haBox.mono_l : ∀ k,(∀ y0 y1 y2 y3 y4 y5 y6,LeO (laws_haBox.j0 k y0 y1 y2 y3 y4 y5 y6) (laws_haBox.j0 (k + 1) y0 y1 y2 y3 y4 y5 y6)) ∧ (∀ y0 y1 y2 y3 y4 y5 y6,LeO (laws_haBox.l0 k y0 y1 y2 y3 y4 y5 y6) (laws_haBox.l0 (k + 1) y0 y1 y2 y3 y4 y5 y6))
 | 0=>⟨fun _ _ _ _ _ _ _ r h=>by simp [laws_haBox.j0] at h,fun _ _ _ _ _ _ _ r h=>by simp [laws_haBox.l0] at h⟩
 | k + 1=>by
  obtain ⟨ih0,ih1⟩:=laws_haBox.mono_l k;refine ⟨?_,?_⟩
  ·intro y0 y1 y2 y3 y4 y5 y6;unfold laws_haBox.j0
   repeat' first | (with_reducible first | exact ih0 _ _ _ _ _ _ _ | exact ih1 _ _ _ _ _ _ _ | exact laws_haEnds.mono _ _ _ | exact laws_haRules.mono _ _ _ | exact LeO.refl _ | exact LeO.none _ | refine LeO.ite ?_ ?_ | refine LeO.bind ?_ (fun _=>?_)) | exact ih0 _ _ _ _ _ _ _ | exact ih1 _ _ _ _ _ _ _ | exact laws_haEnds.mono _ _ _ | exact laws_haRules.mono _ _ _ | exact LeO.none _ | refine LeO.ite ?_ ?_ | refine LeO.bind ?_ (fun _=>?_)
  ·intro y0 y1 y2 y3 y4 y5 y6;unfold laws_haBox.l0
   repeat' first | (with_reducible first | exact ih0 _ _ _ _ _ _ _ | exact ih1 _ _ _ _ _ _ _ | exact laws_haEnds.mono _ _ _ | exact laws_haRules.mono _ _ _ | exact LeO.refl _ | exact LeO.none _ | refine LeO.ite ?_ ?_ | refine LeO.bind ?_ (fun _=>?_)) | exact ih0 _ _ _ _ _ _ _ | exact ih1 _ _ _ _ _ _ _ | exact laws_haEnds.mono _ _ _ | exact laws_haRules.mono _ _ _ | exact LeO.none _ | refine LeO.ite ?_ ?_ | refine LeO.bind ?_ (fun _=>?_)
theorem laws_haBox.mono : ∀ a0 a1 a2 a3 a4 a5 k,LeO (laws_haBox.f k a0 a1 a2 a3 a4 a5) (laws_haBox.f (k + 1) a0 a1 a2 a3 a4 a5):=by
 intro a0 a1 a2 a3 a4 a5 k;obtain ⟨ih0,ih1⟩:=laws_haBox.mono_l k;unfold laws_haBox.f
 repeat' first | (with_reducible first | exact ih0 _ _ _ _ _ _ _ | exact ih1 _ _ _ _ _ _ _ | exact laws_haEnds.mono _ _ _ | exact laws_haRules.mono _ _ _ | exact LeO.refl _ | exact LeO.none _ | refine LeO.ite ?_ ?_ | refine LeO.bind ?_ (fun _=>?_)) | exact ih0 _ _ _ _ _ _ _ | exact ih1 _ _ _ _ _ _ _ | exact laws_haEnds.mono _ _ _ | exact laws_haRules.mono _ _ _ | exact LeO.none _ | refine LeO.ite ?_ ?_ | refine LeO.bind ?_ (fun _=>?_)
set_option maxHeartbeats 8000000 in
set_option maxRecDepth 100000 in
theorem laws_haBox.calls (k : Nat) (A0_0 : Option Addr) (c0_0 : Nat) (l0_0 : List (S35)) (A0_1 : Option Addr) (c0_1 : Nat) (l0_1 : List (S54)) (A0_2 : Option Addr) (c0_2 : Nat) (l0_2 : List (S56)) (A1_0 : Option Addr) (c1_0 : Nat) (l1_0 : List (S35)) (A1_1 : Option Addr) (c1_1 : Nat) (l1_1 : List (S54)) (A1_2 : Option Addr) (c1_2 : Nat) (l1_2 : List (S56)) (r : Bool) (w : World) (hr0_0 : Kd.C k35 w A0_0 l0_0.length l0_0) (hc0_0 : l0_0.length ≤ c0_0) (hr0_1 : Kd.C k54 w A0_1 l0_1.length l0_1) (hc0_1 : l0_1.length ≤ c0_1) (hr0_2 : Kd.C k56 w A0_2 l0_2.length l0_2) (hc0_2 : l0_2.length ≤ c0_2) (hr1_0 : Kd.C k35 w A1_0 l1_0.length l1_0) (hc1_0 : l1_0.length ≤ c1_0) (hr1_1 : Kd.C k54 w A1_1 l1_1.length l1_1) (hc1_1 : l1_1.length ≤ c1_1) (hr1_2 : Kd.C k56 w A1_2 l1_2.length l1_2) (hc1_2 : l1_2.length ≤ c1_2) (h : laws_haBox.f k l0_0 l0_1 l0_2 l1_0 l1_1 l1_2 = some r) :
  Calls Tryz.prog 12 #[.agg #[.slice A0_0 l0_0.length c0_0,.slice A0_1 l0_1.length c0_1,.slice A0_2 l0_2.length c0_2],.agg #[.slice A1_0 l1_0.length c1_0,.slice A1_1 l1_1.length c1_1,.slice A1_2 l1_2.length c1_2]] w fun e w'=>e = .returned (.bool r) ∧ Below w.heap.size w w':=by
 have hu30:=Tryz.underlying30;have hu56:=Tryz.underlying56;have HR0_0:=am hr0_0;have HC0_0:=am hc0_0;clear hr0_0 hc0_0;have HR0_1:=am hr0_1;have HC0_1:=am hc0_1;clear hr0_1 hc0_1;have HR0_2:=am hr0_2;have HC0_2:=am hc0_2;clear hr0_2 hc0_2;have HR1_0:=am hr1_0;have HC1_0:=am hc1_0;clear hr1_0 hc1_0;have HR1_1:=am hr1_1;have HC1_1:=am hc1_1;clear hr1_1 hc1_1;have HR1_2:=am hr1_2;have HC1_2:=am hc1_2;clear hr1_2 hc1_2;have HB:=am (Below.refl w.heap.size w);have H : ((laws_haEnds.f k l0_1 l1_1).bind fun t7=>(if t7 = true then (if (l0_2.length : Int) = (l1_2.length : Int) then ((laws_haRules.f k l0_0 l1_0).bind fun t8=>(laws_haBox.j0 k (!t8) l0_0 l0_1 l0_2 l1_0 l1_1 l1_2)) else (laws_haBox.j0 k true l0_0 l0_1 l0_2 l1_0 l1_1 l1_2)) else (laws_haBox.j0 k true l0_0 l0_1 l0_2 l1_0 l1_1 l1_2))) = some r:=h;clear h;have HC3:=am H;clear H
 go_enter Tryz.func12,Tryz.ntmps12
 go_upto_region 1 with (first | ((with_reducible refine gD 2 rfl ?_);refine box_event rfl (N:=2) rfl (cs:=#[.slice A0_0 l0_0.length c0_0,.slice A0_1 l0_1.length c0_1,.slice A0_2 l0_2.length c0_2]) (t:=30) hr_ ?_;intro gb9 hg w4 hbox hb;have BK9:=am hbox;have GW9:=gwE HB hg;have GE9:=gwE HB hg;replace HB:=hbS HB hb;clear hb hbox hg) | ((with_reducible refine gD 3 rfl ?_);refine box_event rfl (N:=3) rfl (cs:=#[.slice A1_0 l1_0.length c1_0,.slice A1_1 l1_1.length c1_1,.slice A1_2 l1_2.length c1_2]) (t:=30) hr_ ?_;intro gb10 hg w5 hbox hb;have BK10:=am hbox;have GW10:=gwE HB hg;have GE10:=gwE HB hg;replace HB:=hbS HB hb;have NB9_10:=neL BK9 hg;have NB10_9:=neG BK9 hg;replace BK9:=bkB BK9 hb;clear hb hbox hg))
 repeat (go_quiet (fail);go_upto_region 1 with (first | ((with_reducible refine gD 2 rfl ?_);refine box_event rfl (N:=2) rfl (cs:=#[.slice A0_0 l0_0.length c0_0,.slice A0_1 l0_1.length c0_1,.slice A0_2 l0_2.length c0_2]) (t:=30) hr_ ?_;intro gb9 hg w4 hbox hb;have BK9:=am hbox;have GW9:=gwE HB hg;have GE9:=gwE HB hg;replace HB:=hbS HB hb;clear hb hbox hg) | ((with_reducible refine gD 3 rfl ?_);refine box_event rfl (N:=3) rfl (cs:=#[.slice A1_0 l1_0.length c1_0,.slice A1_1 l1_1.length c1_1,.slice A1_2 l1_2.length c1_2]) (t:=30) hr_ ?_;intro gb10 hg w5 hbox hb;have BK10:=am hbox;have GW10:=gwE HB hg;have GE10:=gwE HB hg;replace HB:=hbS HB hb;have NB9_10:=neL BK9 hg;have NB10_9:=neG BK9 hg;replace BK9:=bkB BK9 hb;clear hb hbox hg)))
 (try simp only [Act.put,List.setIfInBounds_toArray,List.set_cons_zero,List.set_cons_succ])
 go_cut [30] (fun v30 wc=>∃ (kq : Nat) (x30_2 : Bool),v30 = .bool x30_2 ∧ Aside0 (laws_haBox.j0 kq x30_2 l0_0 l0_1 l0_2 l1_0 l1_1 l1_2 = some r) ∧ Aside0 (kq ≤ k) ∧ Aside0 (wc.heap[gb9]? = some (.cells #[(.slice A0_0 l0_0.length c0_0),(.slice A0_1 l0_1.length c0_1),(.slice A0_2 l0_2.length c0_2)] 30 (0,0))) ∧ Aside0 (wc.heap[gb10]? = some (.cells #[(.slice A1_0 l1_0.length c1_0),(.slice A1_1 l1_1.length c1_1),(.slice A1_2 l1_2.length c1_2)] 30 (0,0))) ∧ Aside0 (Below w.heap.size w wc))
 case first=>
  have H:=HC3.out;clear HC3;obtain ⟨t7,A6,H⟩:=bse H
  try dsimp only at H
  by_cases c7 : t7 = true
  ·subst c7;rw [if_pos rfl] at H
   by_cases c8 : (l0_2.length : Int) = (l1_2.length : Int)
   ·rw [if_pos c8] at H;have c8b0 : ((l0_2.length : Int) == (l1_2.length : Int)) = true:=beq_iff_eq.mpr c8;have c8b1 : ((l0_2.length : Int) != (l1_2.length : Int)) = false:=bne_eq_false_iff_eq.mpr c8;have c8b2 : (l0_2.length == l1_2.length) = true:=by first | simpa using c8 | (simp at c8 ⊢;omega)
    clear c8;(first | rw [c8b0] | (simp only [i64_w,i32_w];rw [c8b0]) | skip);obtain ⟨t8,A9,H⟩:=bse H
    try dsimp only at H
    have H':=am H;clear H;have:=NB9_10.out;have:=NB10_9.out;have ⟨hcz11_0,hcz11_1,hcz11_2,hfz11_0,hfz11_1,hfz11_2⟩:=cf3 BK9;have ⟨hcz12_0,hcz12_1,hcz12_2,hfz12_0,hfz12_1,hfz12_2⟩:=cf3 BK10
    iterate 4 ((try go_quiet (fail));(try go_wp2_with (first | (go_at_call 46;(with_reducible refine (laws_haEnds.calls k _ _ l0_1 _ _ l1_1 true _ ?side1 ?side2 ?side3 ?side4 A6.out).mono ?_);(case side1=>exact m9_);(case side2=>exact HC0_1.out);(case side3=>exact m10_);(case side4=>exact HC1_1.out);rintro e w' ⟨rfl,⟨nd,rfl⟩⟩;(try first | exact ⟨rfl,_,World.drewN_drewN _ _ _⟩ | exact ⟨rfl,_,Eq.trans (World.drewN_drewN _ _ _) (congrArg (World.drewN _) (Nat.add_assoc _ _ _))⟩)) | (go_at_call 17;(with_reducible refine (laws_haRules.calls k _ _ l0_0 _ _ l1_0 t8 _ ?side1 ?side2 ?side3 ?side4 A9.out).mono ?_);(case side1=>exact m11_);(case side2=>exact HC0_0.out);(case side3=>exact m12_);(case side4=>exact HC1_0.out);rintro e w' ⟨rfl,⟨nd,rfl⟩⟩;(try first | exact ⟨rfl,_,World.drewN_drewN _ _ _⟩ | exact ⟨rfl,_,Eq.trans (World.drewN_drewN _ _ _) (congrArg (World.drewN _) (Nat.add_assoc _ _ _))⟩)))))
    go_meet
    case rel=>exact ⟨_,(!t8),rs_,H',⟨by first | omega | exact Nat.le_refl _⟩,⟨bk BK9⟩,⟨bk BK10⟩,⟨m4_⟩⟩
   ·rw [if_neg c8] at H;have c8b0 : ((l0_2.length : Int) == (l1_2.length : Int)) = false:=beq_eq_false_iff_ne.mpr c8;have c8b1 : ((l0_2.length : Int) != (l1_2.length : Int)) = true:=bne_iff_ne.mpr c8;have c8b2 : (l0_2.length == l1_2.length) = false:=by first | simpa using c8 | (simp at c8 ⊢;omega)
    (first | rw [c8b0] | (simp only [i64_w,i32_w];rw [c8b0]) | skip);have H':=am H;clear H;have:=NB9_10.out;have:=NB10_9.out;have ⟨hcz14_0,hcz14_1,hcz14_2,hfz14_0,hfz14_1,hfz14_2⟩:=cf3 BK9;have ⟨hcz15_0,hcz15_1,hcz15_2,hfz15_0,hfz15_1,hfz15_2⟩:=cf3 BK10
    iterate 4 ((try go_quiet (fail));(try go_wp2_with (first | (go_at_call 46;(with_reducible refine (laws_haEnds.calls k _ _ l0_1 _ _ l1_1 true _ ?side1 ?side2 ?side3 ?side4 A6.out).mono ?_);(case side1=>exact m9_);(case side2=>exact HC0_1.out);(case side3=>exact m10_);(case side4=>exact HC1_1.out);rintro e w' ⟨rfl,⟨nd,rfl⟩⟩;(try first | exact ⟨rfl,_,World.drewN_drewN _ _ _⟩ | exact ⟨rfl,_,Eq.trans (World.drewN_drewN _ _ _) (congrArg (World.drewN _) (Nat.add_assoc _ _ _))⟩)))))
    go_meet
    case rel=>exact ⟨_,(true),rs_,H',⟨by first | omega | exact Nat.le_refl _⟩,⟨bk BK9⟩,⟨bk BK10⟩,⟨m4_⟩⟩
  ·replace c7:=Bool.eq_false_iff.mpr c7;subst c7;rw [if_neg nft_] at H;have H':=am H;clear H;have:=NB9_10.out;have:=NB10_9.out;have ⟨hcz17_0,hcz17_1,hcz17_2,hfz17_0,hfz17_1,hfz17_2⟩:=cf3 BK9;have ⟨hcz18_0,hcz18_1,hcz18_2,hfz18_0,hfz18_1,hfz18_2⟩:=cf3 BK10
   iterate 4 ((try go_quiet (fail));(try go_wp2_with (first | (go_at_call 46;(with_reducible refine (laws_haEnds.calls k _ _ l0_1 _ _ l1_1 false _ ?side1 ?side2 ?side3 ?side4 A6.out).mono ?_);(case side1=>exact m9_);(case side2=>exact HC0_1.out);(case side3=>exact m10_);(case side4=>exact HC1_1.out);rintro e w' ⟨rfl,⟨nd,rfl⟩⟩;(try first | exact ⟨rfl,_,World.drewN_drewN _ _ _⟩ | exact ⟨rfl,_,Eq.trans (World.drewN_drewN _ _ _) (congrArg (World.drewN _) (Nat.add_assoc _ _ _))⟩)))))
   go_meet
   case rel=>exact ⟨_,(true),rs_,H',⟨by first | omega | exact Nat.le_refl _⟩,⟨bk BK9⟩,⟨bk BK10⟩,⟨m4_⟩⟩
 case rest=>
  clear HC3;(try clear c1);(try clear p2);(try clear c7);(try clear c8);(try clear c8b0);(try clear c8b1);(try clear c8b2);(try clear c10);(try clear c12);(try clear c13);(try clear c16);(try clear hcz11_0 hcz11_1 hcz11_2 hcz12_0 hcz12_1 hcz12_2 hcz14_0 hcz14_1 hcz14_2 hcz15_0 hcz15_1 hcz15_2 hcz17_0 hcz17_1 hcz17_2 hcz18_0 hcz18_1 hcz18_2 hfz11_0 hfz11_1 hfz11_2 hfz12_0 hfz12_1 hfz12_2 hfz14_0 hfz14_1 hfz14_2 hfz15_0 hfz15_1 hfz15_2 hfz17_0 hfz17_1 hfz17_2 hfz18_0 hfz18_1 hfz18_2);obtain ⟨kq,x30_2,rfl,HA,HJ2,BK9,BK10,HB⟩:=hcut
  cases kq with
  | zero=>exact absurd HA.out (by simp [laws_haBox.j0])
  | succ kj2=>
   have H:=HA.out;clear HA;simp only [laws_haBox.j0] at H
   by_cases c19 : x30_2 = true
   ·subst c19;rw [if_pos rfl] at H;obtain rfl:=Option.some.inj H
    go_wp2
    repeat (go_quiet (fail);try go_wp2)
    go_ret
    exact ⟨fi_,m4_⟩
   ·replace c19:=Bool.eq_false_iff.mpr c19;subst c19;rw [if_neg nft_] at H;have H':=am H;clear H
    go_wp2
    repeat (go_quiet (fail);try go_wp2)
    go_loopg [5] kj2 (fun kq v5 w'=>∃ (x5_2 : Int),v5 = .int .i64 x5_2 ∧ Aside0 (laws_haBox.l0 kq x5_2 l0_0 l0_1 l0_2 l1_0 l1_1 l1_2 = some r) ∧ Aside0 (kq ≤ kj2) ∧ Aside0 (w'.heap[gb9]? = some (.cells #[(.slice A0_0 l0_0.length c0_0),(.slice A0_1 l0_1.length c0_1),(.slice A0_2 l0_2.length c0_2)] 30 (0,0))) ∧ Aside0 (w'.heap[gb10]? = some (.cells #[(.slice A1_0 l1_0.length c1_0),(.slice A1_1 l1_1.length c1_1),(.slice A1_2 l1_2.length c1_2)] 30 (0,0))) ∧ Aside0 (Below w.heap.size w w'))
    case atStart=>exact ⟨(0),rs_,H',⟨Nat.le_refl _⟩,⟨bk BK9⟩,⟨bk BK10⟩,⟨m4_⟩⟩
    case round=>
     clear H';(try clear c1);(try clear p2);(try clear c7);(try clear c8);(try clear c8b0);(try clear c8b1);(try clear c8b2);(try clear c10);(try clear c12);(try clear c13);(try clear c16);(try clear c19);(try clear hcz11_0 hcz11_1 hcz11_2 hcz12_0 hcz12_1 hcz12_2 hcz14_0 hcz14_1 hcz14_2 hcz15_0 hcz15_1 hcz15_2 hcz17_0 hcz17_1 hcz17_2 hcz18_0 hcz18_1 hcz18_2 hfz11_0 hfz11_1 hfz11_2 hfz12_0 hfz12_1 hfz12_2 hfz14_0 hfz14_1 hfz14_2 hfz15_0 hfz15_1 hfz15_2 hfz17_0 hfz17_1 hfz17_2 hfz18_0 hfz18_1 hfz18_2);(try clear p2);obtain ⟨x5_2,rfl,HA,HK2,BK9,BK10,HB⟩:=hrel
     cases gk with
     | zero=>exact absurd HA.out (by simp [laws_haBox.l0])
     | succ k2=>
      have H:=HA.out;clear HA;simp only [laws_haBox.l0] at H
      by_cases c20 : x5_2 < (l0_2.length : Int)
      ·rw [if_pos c20] at H;have c20b0 : decide (x5_2 < (l0_2.length : Int)) = true:=decide_eq_true c20;clear c20
       by_cases c21 : 0 ≤ x5_2
       ·rw [if_pos c21] at H;have c21b0 : decide (0 ≤ x5_2) = true:=decide_eq_true c21;clear c21
        by_cases c22 : x5_2 < (l1_2.length : Int)
        ·rw [if_pos c22] at H;have c22b0 : decide (x5_2 < (l1_2.length : Int)) = true:=decide_eq_true c22;clear c22
         by_cases c23 : ((!(((rd_T56 l0_2 x5_2).f0.f0) == ((rd_T56 l1_2 x5_2).f0.f0)) || (!(((rd_T56 l0_2 x5_2).f0.f1) == ((rd_T56 l1_2 x5_2).f0.f1)))) || ((!(((rd_T56 l0_2 x5_2).f1.f0) == ((rd_T56 l1_2 x5_2).f1.f0)) || (!(((rd_T56 l0_2 x5_2).f1.f1) == ((rd_T56 l1_2 x5_2).f1.f1)))) || (!((((rd_T56 l0_2 x5_2).f2).toList) == (((rd_T56 l1_2 x5_2).f2).toList)) || (!((((rd_T56 l0_2 x5_2).f3).toList) == (((rd_T56 l1_2 x5_2).f3).toList)) || (!((((rd_T56 l0_2 x5_2).f4).toList) == (((rd_T56 l1_2 x5_2).f4).toList))))))) = true
         ·rw [if_pos c23] at H;have c23b0 : ((!(((rd_T56 l0_2 x5_2).f0.f0) == ((rd_T56 l1_2 x5_2).f0.f0)) || (!(((rd_T56 l0_2 x5_2).f0.f1) == ((rd_T56 l1_2 x5_2).f0.f1)))) || ((!(((rd_T56 l0_2 x5_2).f1.f0) == ((rd_T56 l1_2 x5_2).f1.f0)) || (!(((rd_T56 l0_2 x5_2).f1.f1) == ((rd_T56 l1_2 x5_2).f1.f1)))) || (!((((rd_T56 l0_2 x5_2).f2).toList) == (((rd_T56 l1_2 x5_2).f2).toList)) || (!((((rd_T56 l0_2 x5_2).f3).toList) == (((rd_T56 l1_2 x5_2).f3).toList)) || (!((((rd_T56 l0_2 x5_2).f4).toList) == (((rd_T56 l1_2 x5_2).f4).toList))))))) = true:=c23;clear c23;obtain rfl:=Option.some.inj H;have:=NB9_10.out;have:=NB10_9.out;have ⟨_,_,_,_,_,_⟩:=cf3 BK9;have p11 : 0 ≤ (x5_2 : Int):=of_decide_eq_true da_;have q11 : x5_2 < (l0_2.length : Int):=of_decide_eq_true da_;obtain ⟨ad11,e11,hx11_0,hx11_1,hx11_2,hx11_3,hx11_4,hx11_5,hx11_6⟩:=at_T56 HR0_2.out x5_2 p11 q11;cases e11;replace hx11_0:=bcl HB hx11_0;replace hx11_1:=bcl HB hx11_1;replace hx11_2:=bcl HB hx11_2;replace hx11_3:=bcl HB hx11_3;replace hx11_4:=bcl HB hx11_4;replace hx11_5:=bcl HB hx11_5;replace hx11_6:=bcl HB hx11_6;replace p11:=eq_true p11;replace q11:=eq_true q11;have ⟨_,_,_,_,_,_⟩:=cf3 BK10;have p12 : 0 ≤ (x5_2 : Int):=of_decide_eq_true da_;have q12 : x5_2 < (l1_2.length : Int):=of_decide_eq_true da_;obtain ⟨ad12,e12,hx12_0,hx12_1,hx12_2,hx12_3,hx12_4,hx12_5,hx12_6⟩:=at_T56 HR1_2.out x5_2 p12 q12;cases e12;replace hx12_0:=bcl HB hx12_0;replace hx12_1:=bcl HB hx12_1;replace hx12_2:=bcl HB hx12_2;replace hx12_3:=bcl HB hx12_3;replace hx12_4:=bcl HB hx12_4;replace hx12_5:=bcl HB hx12_5;replace hx12_6:=bcl HB hx12_6;replace p12:=eq_true p12;replace q12:=eq_true q12
          go_wp2
          repeat (go_quiet (fail);try go_wp2)
          go_ret
          exact ⟨fi_,m4_⟩
         ·rw [if_neg c23] at H;have c23b0 : ((!(((rd_T56 l0_2 x5_2).f0.f0) == ((rd_T56 l1_2 x5_2).f0.f0)) || (!(((rd_T56 l0_2 x5_2).f0.f1) == ((rd_T56 l1_2 x5_2).f0.f1)))) || ((!(((rd_T56 l0_2 x5_2).f1.f0) == ((rd_T56 l1_2 x5_2).f1.f0)) || (!(((rd_T56 l0_2 x5_2).f1.f1) == ((rd_T56 l1_2 x5_2).f1.f1)))) || (!((((rd_T56 l0_2 x5_2).f2).toList) == (((rd_T56 l1_2 x5_2).f2).toList)) || (!((((rd_T56 l0_2 x5_2).f3).toList) == (((rd_T56 l1_2 x5_2).f3).toList)) || (!((((rd_T56 l0_2 x5_2).f4).toList) == (((rd_T56 l1_2 x5_2).f4).toList))))))) = false:=by simpa using c23
          clear c23;have H':=am H;clear H;have:=NB9_10.out;have:=NB10_9.out;have ⟨_,_,_,_,_,_⟩:=cf3 BK9;have p11 : 0 ≤ (x5_2 : Int):=of_decide_eq_true da_;have q11 : x5_2 < (l0_2.length : Int):=of_decide_eq_true da_;obtain ⟨ad11,e11,hx11_0,hx11_1,hx11_2,hx11_3,hx11_4,hx11_5,hx11_6⟩:=at_T56 HR0_2.out x5_2 p11 q11;cases e11;replace hx11_0:=bcl HB hx11_0;replace hx11_1:=bcl HB hx11_1;replace hx11_2:=bcl HB hx11_2;replace hx11_3:=bcl HB hx11_3;replace hx11_4:=bcl HB hx11_4;replace hx11_5:=bcl HB hx11_5;replace hx11_6:=bcl HB hx11_6;replace p11:=eq_true p11;replace q11:=eq_true q11;have ⟨_,_,_,_,_,_⟩:=cf3 BK10;have p12 : 0 ≤ (x5_2 : Int):=of_decide_eq_true da_;have q12 : x5_2 < (l1_2.length : Int):=of_decide_eq_true da_;obtain ⟨ad12,e12,hx12_0,hx12_1,hx12_2,hx12_3,hx12_4,hx12_5,hx12_6⟩:=at_T56 HR1_2.out x5_2 p12 q12;cases e12;replace hx12_0:=bcl HB hx12_0;replace hx12_1:=bcl HB hx12_1;replace hx12_2:=bcl HB hx12_2;replace hx12_3:=bcl HB hx12_3;replace hx12_4:=bcl HB hx12_4;replace hx12_5:=bcl HB hx12_5;replace hx12_6:=bcl HB hx12_6;replace p12:=eq_true p12;replace q12:=eq_true q12
          go_wp2
          repeat (go_quiet (fail);try go_wp2)
          go_roundg k2
          case measure=>have:=HJ2.out;have:=HK2.out;omega
          case rel=>exact ⟨(wrap64 (x5_2 + 1)),rs_,H',⟨by have:=HJ2.out;have:=HK2.out;omega⟩,⟨bk BK9⟩,⟨bk BK10⟩,⟨m4_⟩⟩
        ·rw [if_neg c22] at H;exact absurd H (by simp)
       ·rw [if_neg c21] at H;exact absurd H (by simp)
      ·rw [if_neg c20] at H;have c20b0 : decide (x5_2 < (l0_2.length : Int)) = false:=decide_eq_false c20;clear c20;obtain rfl:=Option.some.inj H;have:=NB9_10.out;have:=NB10_9.out;have ⟨_,_,_,_,_,_⟩:=cf3 BK9
       go_wp2
       repeat (go_quiet (fail);try go_wp2)
       go_ret
       exact ⟨fi_,m4_⟩
end
section
attribute [local go_sem] max2_int min2_int max_two min_two max_three min_three max_four min_four
def spec_l1In.f (a0 : Int) (a1 : Int) (a2 : Int) : Option (Bool):=if a0 ≥ a1 then (some (decide (a0 ≤ a2))) else (some false)
set_option maxHeartbeats 8000000 in
set_option maxRecDepth 100000 in
theorem spec_l1In.calls (a0 : Int) (a1 : Int) (a2 : Int) (r : Bool) (w : World) (h : spec_l1In.f a0 a1 a2 = some r) :
  Calls Tryz.prog 48 #[.int .i64 a0,.int .i64 a1,.int .i64 a2] w fun e w'=>e = .returned (.bool r) ∧ Drawn0 w w':=by
 have H : (if a0 ≥ a1 then (some (decide (a0 ≤ a2))) else (some false)) = some r:=h;clear h
 by_cases c4 : a0 ≥ a1
 ·rw [if_pos c4] at H;have c4b0 : decide (a1 ≤ a0) = true:=decide_eq_true c4;clear c4;obtain rfl:=Option.some.inj H
  go_enter Tryz.func48,Tryz.ntmps48
  go_wp2
  go_ret
  exact ⟨fr_,dn_⟩
 ·rw [if_neg c4] at H;have c4b0 : decide (a1 ≤ a0) = false:=decide_eq_false c4;clear c4;obtain rfl:=Option.some.inj H
  go_enter Tryz.func48,Tryz.ntmps48
  go_wp2
  go_ret
  exact ⟨fr_,dn_⟩
def spec_RulOk.f (a0_0 : Bool) (a0_1 : Int) (a0_2 : Int) (a0_3 : Int) (a0_4 : Int) (a0_5 : Int) (a0_6 : Int) : Option (Bool):=(spec_l1In.f a0_1 1 a0_2).bind fun t226=>(if t226 = true then (if a0_2 ≤ 9 then ((spec_l1In.f a0_3 100 a0_4).bind fun t227=>(if t227 = true then (if a0_4 ≤ 109 then ((spec_l1In.f a0_5 1 a0_6).bind fun t228=>(if t228 = true then (some (decide (a0_6 ≤ 999))) else (some false))) else (some false)) else (some false))) else (some false)) else (some false))
set_option maxHeartbeats 8000000 in
set_option maxRecDepth 100000 in
theorem spec_RulOk.calls (a0_0 : Bool) (a0_1 : Int) (a0_2 : Int) (a0_3 : Int) (a0_4 : Int) (a0_5 : Int) (a0_6 : Int) (r : Bool) (w : World) (h : spec_RulOk.f a0_0 a0_1 a0_2 a0_3 a0_4 a0_5 a0_6 = some r) :
  Calls Tryz.prog 14 #[.agg #[.bool a0_0,.int .i64 a0_1,.int .i64 a0_2,.int .i64 a0_3,.int .i64 a0_4,.int .i64 a0_5,.int .i64 a0_6]] w fun e w'=>e = .returned (.bool r) ∧ Below w.heap.size w w':=by
 have hu35:=Tryz.underlying35;have HB:=am (Below.refl w.heap.size w);have H : ((spec_l1In.f a0_1 1 a0_2).bind fun t0=>(if t0 = true then (if a0_2 ≤ 9 then ((spec_l1In.f a0_3 100 a0_4).bind fun t1=>(if t1 = true then (if a0_4 ≤ 109 then ((spec_l1In.f a0_5 1 a0_6).bind fun t2=>(if t2 = true then (some (decide (a0_6 ≤ 999))) else (some false))) else (some false)) else (some false))) else (some false)) else (some false))) = some r:=h;clear h;obtain ⟨t0,A2,H⟩:=bse H
 try dsimp only at H
 by_cases c3 : t0 = true
 ·subst c3;rw [if_pos rfl] at H
  by_cases c4 : a0_2 ≤ 9
  ·rw [if_pos c4] at H;have c4b0 : decide (a0_2 ≤ 9) = true:=decide_eq_true c4;clear c4;obtain ⟨t1,A5,H⟩:=bse H
   try dsimp only at H
   by_cases c6 : t1 = true
   ·subst c6;rw [if_pos rfl] at H
    by_cases c7 : a0_4 ≤ 109
    ·rw [if_pos c7] at H;have c7b0 : decide (a0_4 ≤ 109) = true:=decide_eq_true c7;clear c7;obtain ⟨t2,A8,H⟩:=bse H
     try dsimp only at H
     by_cases c9 : t2 = true
     ·subst c9;rw [if_pos rfl] at H;obtain rfl:=Option.some.inj H
      go_enter Tryz.func14,Tryz.ntmps14
      go_wp2_with (first | ((with_reducible refine gD 1 rfl ?_);refine box_event rfl (N:=1) rfl (cs:=#[.bool a0_0,.int .i64 a0_1,.int .i64 a0_2,.int .i64 a0_3,.int .i64 a0_4,.int .i64 a0_5,.int .i64 a0_6]) (t:=35) hr_ ?_;intro gb3 hg w10 hbox hb;have BK3:=am hbox;have GW3:=gwE HB hg;have GE3:=gwE HB hg;replace HB:=hbS HB hb;clear hb hbox hg;have ⟨_,_,_,_,_,_,_,_,_,_,_,_,_,_⟩:=cf7 BK3) | ((with_reducible refine gC 48 rfl ?_);refine gL (some 7) Tryz.func48 #[.int .i64 a0_1,.int .i64 1,.int .i64 a0_2] ?_;(with_reducible refine (spec_l1In.calls a0_1 1 a0_2 true _ A2.out).mono ?_);rintro e w' ⟨rfl,⟨nd,rfl⟩⟩;refine ⟨_,rfl,?_⟩) | (go_at_call 48;(with_reducible refine (spec_l1In.calls a0_3 100 a0_4 true _ A5.out).mono ?_);rintro e w' ⟨rfl,⟨nd,rfl⟩⟩) | (go_at_call 48;(with_reducible refine (spec_l1In.calls a0_5 1 a0_6 true _ A8.out).mono ?_);rintro e w' ⟨rfl,⟨nd,rfl⟩⟩))
      go_ret
      exact ⟨fi_,m4_⟩
     ·replace c9:=Bool.eq_false_iff.mpr c9;subst c9;rw [if_neg nft_] at H;obtain rfl:=Option.some.inj H
      go_enter Tryz.func14,Tryz.ntmps14
      go_wp2_with (first | ((with_reducible refine gD 1 rfl ?_);refine box_event rfl (N:=1) rfl (cs:=#[.bool a0_0,.int .i64 a0_1,.int .i64 a0_2,.int .i64 a0_3,.int .i64 a0_4,.int .i64 a0_5,.int .i64 a0_6]) (t:=35) hr_ ?_;intro gb3 hg w12 hbox hb;have BK3:=am hbox;have GW3:=gwE HB hg;have GE3:=gwE HB hg;replace HB:=hbS HB hb;clear hb hbox hg;have ⟨_,_,_,_,_,_,_,_,_,_,_,_,_,_⟩:=cf7 BK3) | ((with_reducible refine gC 48 rfl ?_);refine gL (some 7) Tryz.func48 #[.int .i64 a0_1,.int .i64 1,.int .i64 a0_2] ?_;(with_reducible refine (spec_l1In.calls a0_1 1 a0_2 true _ A2.out).mono ?_);rintro e w' ⟨rfl,⟨nd,rfl⟩⟩;refine ⟨_,rfl,?_⟩) | (go_at_call 48;(with_reducible refine (spec_l1In.calls a0_3 100 a0_4 true _ A5.out).mono ?_);rintro e w' ⟨rfl,⟨nd,rfl⟩⟩) | (go_at_call 48;(with_reducible refine (spec_l1In.calls a0_5 1 a0_6 false _ A8.out).mono ?_);rintro e w' ⟨rfl,⟨nd,rfl⟩⟩))
      go_ret
      exact ⟨fi_,m4_⟩
    ·rw [if_neg c7] at H;have c7b0 : decide (a0_4 ≤ 109) = false:=decide_eq_false c7;clear c7;obtain rfl:=Option.some.inj H
     go_enter Tryz.func14,Tryz.ntmps14
     go_wp2_with (first | ((with_reducible refine gD 1 rfl ?_);refine box_event rfl (N:=1) rfl (cs:=#[.bool a0_0,.int .i64 a0_1,.int .i64 a0_2,.int .i64 a0_3,.int .i64 a0_4,.int .i64 a0_5,.int .i64 a0_6]) (t:=35) hr_ ?_;intro gb3 hg w14 hbox hb;have BK3:=am hbox;have GW3:=gwE HB hg;have GE3:=gwE HB hg;replace HB:=hbS HB hb;clear hb hbox hg;have ⟨_,_,_,_,_,_,_,_,_,_,_,_,_,_⟩:=cf7 BK3) | ((with_reducible refine gC 48 rfl ?_);refine gL (some 7) Tryz.func48 #[.int .i64 a0_1,.int .i64 1,.int .i64 a0_2] ?_;(with_reducible refine (spec_l1In.calls a0_1 1 a0_2 true _ A2.out).mono ?_);rintro e w' ⟨rfl,⟨nd,rfl⟩⟩;refine ⟨_,rfl,?_⟩) | (go_at_call 48;(with_reducible refine (spec_l1In.calls a0_3 100 a0_4 true _ A5.out).mono ?_);rintro e w' ⟨rfl,⟨nd,rfl⟩⟩))
     go_ret
     exact ⟨fi_,m4_⟩
   ·replace c6:=Bool.eq_false_iff.mpr c6;subst c6;rw [if_neg nft_] at H;obtain rfl:=Option.some.inj H
    go_enter Tryz.func14,Tryz.ntmps14
    go_wp2_with (first | ((with_reducible refine gD 1 rfl ?_);refine box_event rfl (N:=1) rfl (cs:=#[.bool a0_0,.int .i64 a0_1,.int .i64 a0_2,.int .i64 a0_3,.int .i64 a0_4,.int .i64 a0_5,.int .i64 a0_6]) (t:=35) hr_ ?_;intro gb3 hg w16 hbox hb;have BK3:=am hbox;have GW3:=gwE HB hg;have GE3:=gwE HB hg;replace HB:=hbS HB hb;clear hb hbox hg;have ⟨_,_,_,_,_,_,_,_,_,_,_,_,_,_⟩:=cf7 BK3) | ((with_reducible refine gC 48 rfl ?_);refine gL (some 7) Tryz.func48 #[.int .i64 a0_1,.int .i64 1,.int .i64 a0_2] ?_;(with_reducible refine (spec_l1In.calls a0_1 1 a0_2 true _ A2.out).mono ?_);rintro e w' ⟨rfl,⟨nd,rfl⟩⟩;refine ⟨_,rfl,?_⟩) | (go_at_call 48;(with_reducible refine (spec_l1In.calls a0_3 100 a0_4 false _ A5.out).mono ?_);rintro e w' ⟨rfl,⟨nd,rfl⟩⟩))
    go_ret
    exact ⟨fi_,m4_⟩
  ·rw [if_neg c4] at H;have c4b0 : decide (a0_2 ≤ 9) = false:=decide_eq_false c4;clear c4;obtain rfl:=Option.some.inj H
   go_enter Tryz.func14,Tryz.ntmps14
   go_wp2_with (first | ((with_reducible refine gD 1 rfl ?_);refine box_event rfl (N:=1) rfl (cs:=#[.bool a0_0,.int .i64 a0_1,.int .i64 a0_2,.int .i64 a0_3,.int .i64 a0_4,.int .i64 a0_5,.int .i64 a0_6]) (t:=35) hr_ ?_;intro gb3 hg w18 hbox hb;have BK3:=am hbox;have GW3:=gwE HB hg;have GE3:=gwE HB hg;replace HB:=hbS HB hb;clear hb hbox hg;have ⟨_,_,_,_,_,_,_,_,_,_,_,_,_,_⟩:=cf7 BK3) | ((with_reducible refine gC 48 rfl ?_);refine gL (some 7) Tryz.func48 #[.int .i64 a0_1,.int .i64 1,.int .i64 a0_2] ?_;(with_reducible refine (spec_l1In.calls a0_1 1 a0_2 true _ A2.out).mono ?_);rintro e w' ⟨rfl,⟨nd,rfl⟩⟩;refine ⟨_,rfl,?_⟩))
   go_ret
   exact ⟨fi_,m4_⟩
 ·replace c3:=Bool.eq_false_iff.mpr c3;subst c3;rw [if_neg nft_] at H;obtain rfl:=Option.some.inj H
  go_enter Tryz.func14,Tryz.ntmps14
  go_wp2_with (first | ((with_reducible refine gD 1 rfl ?_);refine box_event rfl (N:=1) rfl (cs:=#[.bool a0_0,.int .i64 a0_1,.int .i64 a0_2,.int .i64 a0_3,.int .i64 a0_4,.int .i64 a0_5,.int .i64 a0_6]) (t:=35) hr_ ?_;intro gb3 hg w20 hbox hb;have BK3:=am hbox;have GW3:=gwE HB hg;have GE3:=gwE HB hg;replace HB:=hbS HB hb;clear hb hbox hg;have ⟨_,_,_,_,_,_,_,_,_,_,_,_,_,_⟩:=cf7 BK3) | ((with_reducible refine gC 48 rfl ?_);refine gL (some 7) Tryz.func48 #[.int .i64 a0_1,.int .i64 1,.int .i64 a0_2] ?_;(with_reducible refine (spec_l1In.calls a0_1 1 a0_2 false _ A2.out).mono ?_);rintro e w' ⟨rfl,⟨nd,rfl⟩⟩;refine ⟨_,rfl,?_⟩))
  go_ret
  exact ⟨fi_,m4_⟩
def spec_l6Rules.l0 : Nat → List (S35) → Int → Option (Bool)
 | 0,_,_=>none
 | k + 1,x0,x3=>if x3 < (x0.length : Int) then (if 0 ≤ x3 then ((spec_RulOk.f ((rd_T35 x0 x3).f0) ((rd_T35 x0 x3).f1) ((rd_T35 x0 x3).f2) ((rd_T35 x0 x3).f3) ((rd_T35 x0 x3).f4) ((rd_T35 x0 x3).f5) ((rd_T35 x0 x3).f6)).bind fun t230=>(if t230 = true then (spec_l6Rules.l0 k x0 (wrap64 (x3 + 1))) else (some false))) else (none)) else (some true)
def spec_l6Rules.f (k : Nat) (l0 : List (S35)) : Option (Bool):=if (l0.length : Int) > 5 then (some false) else (spec_l6Rules.l0 k l0 0)
set_option maxHeartbeats 8000000 in
set_option maxRecDepth 100000 in
theorem spec_l6Rules.calls (k : Nat) (A0 : Option Addr) (c0 : Nat) (l0 : List (S35)) (r : Bool) (w : World) (hr0 : Kd.C k35 w A0 l0.length l0) (hc0 : l0.length ≤ c0) (h : spec_l6Rules.f k l0 = some r) :
  Calls Tryz.prog 47 #[.slice A0 l0.length c0] w fun e w'=>e = .returned (.bool r) ∧ Below w.heap.size w w':=by
 have hu35:=Tryz.underlying35;have HR0:=am hr0;have HC0:=am hc0;clear hr0 hc0;have HB:=am (Below.refl w.heap.size w);have H : (if (l0.length : Int) > 5 then (some false) else (spec_l6Rules.l0 k l0 0)) = some r:=h;clear h
 by_cases c2 : (l0.length : Int) > 5
 ·rw [if_pos c2] at H;have c2b0 : decide (5 < (l0.length : Int)) = true:=decide_eq_true c2;have c2b1 : decide (5 < l0.length) = true:=decide_eq_true (by omega);clear c2;obtain rfl:=Option.some.inj H
  go_enter Tryz.func47,Tryz.ntmps47
  go_wp2
  go_ret
  exact ⟨fi_,m0_⟩
 ·rw [if_neg c2] at H;have c2b0 : decide (5 < (l0.length : Int)) = false:=decide_eq_false c2;have c2b1 : decide (5 < l0.length) = false:=decide_eq_false (by omega);clear c2;have H':=am H;clear H
  go_enter Tryz.func47,Tryz.ntmps47
  go_wp2
  go_loopg [3] k (fun kq v3 w'=>∃ (x3_1 : Int),v3 = .int .i64 x3_1 ∧ Aside0 (spec_l6Rules.l0 kq l0 x3_1 = some r) ∧ Aside0 (kq ≤ k) ∧ Aside0 (Below w.heap.size w w'))
  case atStart=>exact ⟨(0),rs_,H',⟨Nat.le_refl _⟩,⟨m0_⟩⟩
  case round=>
   clear H';(try clear c2);(try clear c2b0);(try clear c2b1);(try clear p2);obtain ⟨x3_1,rfl,HA,HK1,HB⟩:=hrel
   cases gk with
   | zero=>exact absurd HA.out (by simp [spec_l6Rules.l0])
   | succ k1=>
    have H:=HA.out;clear HA;simp only [spec_l6Rules.l0] at H
    by_cases c3 : x3_1 < (l0.length : Int)
    ·rw [if_pos c3] at H;have c3b0 : decide (x3_1 < (l0.length : Int)) = true:=decide_eq_true c3;clear c3
     by_cases c4 : 0 ≤ x3_1
     ·rw [if_pos c4] at H;have c4b0 : decide (0 ≤ x3_1) = true:=decide_eq_true c4;clear c4;obtain ⟨t7,A5,H⟩:=bse H
      try dsimp only at H
      by_cases c6 : t7 = true
      ·subst c6;rw [if_pos rfl] at H;have H':=am H;clear H;have p8 : 0 ≤ (x3_1 : Int):=of_decide_eq_true da_;have q8 : x3_1 < (l0.length : Int):=of_decide_eq_true da_;obtain ⟨ad8,e8,hx8_0,hx8_1,hx8_2,hx8_3,hx8_4,hx8_5,hx8_6⟩:=at_T35 HR0.out x3_1 p8 q8;cases e8;replace hx8_0:=bcl HB hx8_0;replace hx8_1:=bcl HB hx8_1;replace hx8_2:=bcl HB hx8_2;replace hx8_3:=bcl HB hx8_3;replace hx8_4:=bcl HB hx8_4;replace hx8_5:=bcl HB hx8_5;replace hx8_6:=bcl HB hx8_6;replace p8:=eq_true p8;replace q8:=eq_true q8
       go_wp2_with (first | ((with_reducible refine gC 14 rfl ?_);refine gL (some 17) Tryz.func14 #[.agg #[.bool ((rd_T35 l0 x3_1).f0),.int .i64 ((rd_T35 l0 x3_1).f1),.int .i64 ((rd_T35 l0 x3_1).f2),.int .i64 ((rd_T35 l0 x3_1).f3),.int .i64 ((rd_T35 l0 x3_1).f4),.int .i64 ((rd_T35 l0 x3_1).f5),.int .i64 ((rd_T35 l0 x3_1).f6)]] ?_;(with_reducible refine (spec_RulOk.calls ((rd_T35 l0 x3_1).f0) ((rd_T35 l0 x3_1).f1) ((rd_T35 l0 x3_1).f2) ((rd_T35 l0 x3_1).f3) ((rd_T35 l0 x3_1).f4) ((rd_T35 l0 x3_1).f5) ((rd_T35 l0 x3_1).f6) true _ A5.out).mono ?_);rintro e w7 ⟨rfl,hb⟩;refine ⟨_,rfl,?_⟩;replace HB:=hbS HB hb;(try clear hb)))
       go_roundg k1
       case measure=>have:=HK1.out;omega
       case rel=>exact ⟨(wrap64 (x3_1 + 1)),rs_,H',⟨by have:=HK1.out;omega⟩,⟨m0_⟩⟩
      ·replace c6:=Bool.eq_false_iff.mpr c6;subst c6;rw [if_neg nft_] at H;obtain rfl:=Option.some.inj H;have p8 : 0 ≤ (x3_1 : Int):=of_decide_eq_true da_;have q8 : x3_1 < (l0.length : Int):=of_decide_eq_true da_;obtain ⟨ad8,e8,hx8_0,hx8_1,hx8_2,hx8_3,hx8_4,hx8_5,hx8_6⟩:=at_T35 HR0.out x3_1 p8 q8;cases e8;replace hx8_0:=bcl HB hx8_0;replace hx8_1:=bcl HB hx8_1;replace hx8_2:=bcl HB hx8_2;replace hx8_3:=bcl HB hx8_3;replace hx8_4:=bcl HB hx8_4;replace hx8_5:=bcl HB hx8_5;replace hx8_6:=bcl HB hx8_6;replace p8:=eq_true p8;replace q8:=eq_true q8
       go_wp2_with (first | ((with_reducible refine gC 14 rfl ?_);refine gL (some 17) Tryz.func14 #[.agg #[.bool ((rd_T35 l0 x3_1).f0),.int .i64 ((rd_T35 l0 x3_1).f1),.int .i64 ((rd_T35 l0 x3_1).f2),.int .i64 ((rd_T35 l0 x3_1).f3),.int .i64 ((rd_T35 l0 x3_1).f4),.int .i64 ((rd_T35 l0 x3_1).f5),.int .i64 ((rd_T35 l0 x3_1).f6)]] ?_;(with_reducible refine (spec_RulOk.calls ((rd_T35 l0 x3_1).f0) ((rd_T35 l0 x3_1).f1) ((rd_T35 l0 x3_1).f2) ((rd_T35 l0 x3_1).f3) ((rd_T35 l0 x3_1).f4) ((rd_T35 l0 x3_1).f5) ((rd_T35 l0 x3_1).f6) false _ A5.out).mono ?_);rintro e w8 ⟨rfl,hb⟩;refine ⟨_,rfl,?_⟩;replace HB:=hbS HB hb;(try clear hb)))
       go_ret
       exact ⟨fi_,m0_⟩
     ·rw [if_neg c4] at H;exact absurd H (by simp)
    ·rw [if_neg c3] at H;have c3b0 : decide (x3_1 < (l0.length : Int)) = false:=decide_eq_false c3;clear c3;obtain rfl:=Option.some.inj H
     go_wp2
     go_ret
     exact ⟨fi_,m0_⟩
def spec_BoxNew.f (k : Nat) (l0 : List (S35)) : Option ((List (S35)) × (List (S54)) × (List (S56))):=(spec_l6Rules.f k l0).bind fun t232=>(if t232 = true then ((some (([] : List (S35)) : List (S35))).bind fun y233=>(if y233.length + l0.length < 2513169434916 then (some ((y233 ++ l0),([] : List (S54)),([] : List (S56)))) else (none))) else (some (([] : List (S35)),([] : List (S54)),([] : List (S56)))))
set_option maxHeartbeats 8000000 in
set_option maxRecDepth 100000 in
theorem spec_BoxNew.calls (k : Nat) (A0 : Option Addr) (c0 : Nat) (l0 : List (S35)) (r1 : List (S35)) (r2 : List (S54)) (r3 : List (S56)) (w : World) (hr0 : Kd.C k35 w A0 l0.length l0) (hc0 : l0.length ≤ c0) (h : spec_BoxNew.f k l0 = some (r1,r2,r3)) :
  Calls Tryz.prog 13 #[.slice A0 l0.length c0] w fun e w'=>∃ v0_ v1_ v2_ : Value,e = .returned (.agg #[v0_,v1_,v2_]) ∧ Kd.R k35 35 w' w.heap.size (fun _=>True) v0_ r1 ∧ Kd.R k54 54 w' w.heap.size (fun _=>True) v1_ r2 ∧ Kd.R k56 56 w' w.heap.size (fun _=>True) v2_ r3 ∧ Below w.heap.size w w':=by
 have hu30:=Tryz.underlying30;have HR0:=am hr0;have HC0:=am hc0;clear hr0 hc0;have HB:=am (Below.refl w.heap.size w);have H : ((spec_l6Rules.f k l0).bind fun t0=>(if t0 = true then ((some (([] : List (S35)) : List (S35))).bind fun y1=>(if y1.length + l0.length < 2513169434916 then (some ((y1 ++ l0),([] : List (S54)),([] : List (S56)))) else (none))) else (some (([] : List (S35)),([] : List (S54)),([] : List (S56)))))) = some (r1,r2,r3):=h;clear h;obtain ⟨t0,A2,H⟩:=bse H
 try dsimp only at H
 by_cases c3 : t0 = true
 ·subst c3;rw [if_pos rfl] at H;obtain ⟨y1,hy1⟩ : ∃ y_ : List (S35),y_ = (([] : List (S35))):=⟨_,rfl⟩;replace H : (if y1.length + l0.length < 2513169434916 then (some ((y1 ++ l0),([] : List (S54)),([] : List (S56)))) else (none)) = some (r1,r2,r3):=by first | (rw [hy1];with_reducible exact H) | (have H2_:=(Option.bind_some _ _).symm.trans H;rw [hy1];with_reducible exact H2_) | (have H2_:=(Option.bind_some _ _).symm.trans H;with_reducible exact H2_) | with_reducible exact H | (rw [hy1];exact H) | exact H
  have Ny1:=am hy1;clear hy1
  by_cases c4 : y1.length + l0.length < 2513169434916
  ·rw [if_pos c4] at H;have LMc4:=am c4;clear c4;obtain ⟨y2,hy2⟩ : ∃ y_ : List (S35),y_ = (y1 ++ l0):=⟨_,rfl⟩;replace H : (some (y2,([] : List (S54)),([] : List (S56)))) = some (r1,r2,r3):=by first | (rw [hy2];with_reducible exact H) | (have H2_:=(Option.bind_some _ _).symm.trans H;rw [hy2];with_reducible exact H2_) | (have H2_:=(Option.bind_some _ _).symm.trans H;with_reducible exact H2_) | with_reducible exact H | (rw [hy2];exact H) | exact H
   have Ny2:=am hy2;clear hy2;simp only [Option.some.injEq,Prod.mk.injEq] at H;obtain ⟨rfl,rfl,rfl⟩:=H
   go_enter Tryz.func13,Tryz.ntmps13
   go_wp2_with (first | ((with_reducible refine gD 2 rfl ?_);refine box_event rfl (N:=2) rfl (cs:=#[.slice none 0 0,.slice none 0 0,.slice none 0 0]) (t:=30) hr_ ?_;intro gb3 hg w5 hbox hb;have BK3:=am hbox;have GW3:=gwE HB hg;have GE3:=gwE HB hg;replace HB:=hbS HB hb;clear hb hbox hg) | ((with_reducible refine gC 47 rfl ?_);refine gL (some 4) Tryz.func47 #[.slice A0 l0.length c0] ?_;(with_reducible refine (spec_l6Rules.calls k _ _ l0 true _ ?side1 ?side2 A2.out).mono ?_);(case side1=>exact m3_);(case side2=>exact HC0.out);rintro e w6 ⟨rfl,hb⟩;refine ⟨_,rfl,?_⟩;replace BK3:=bkB BK3 hb;replace HB:=hbS HB hb;(try clear hb)) | ((with_reducible refine gD 7 rfl ?_);refine Kd.R_lit k35 _ 35 rfl (N:=7) rfl (xs:=([] : List (S35))) (inner:=[]) (ok:=fun _=>True) (okp:=fun _=>True) hr_ ?hp (fun _ hk=>hk) trivial (Below.refl _ _) (Nat.le_refl _) (by simp) ?_;(case hp=>exact (Reps.none _ _));intro v4 w7 ho8 hb hg_ hnew_;clear hg_ hnew_;(first | rw [← Ny1.out] at ho8 | (simp only [Int.reduceToNat] at ho8;rw [← Ny1.out] at ho8));have HO5:=am (Kd.R_lower ho8 (below_size (bl HB)));replace BK3:=bkB BK3 hb;replace HB:=hbS HB hb;clear hb ho8) | ((with_reducible refine gate_builtin (b:=.append) (xs:=#[.tmp 7,.tmp 8]) rfl ?_);at_builtin;refine Kd.R_append_rows k35 (w0:=w) w.heap.size rfl (.tmp 7) (.tmp 8) 23 35 (.agg #[(.bool false),(.int .i64 0),(.int .i64 0),(.int .i64 0),(.int .i64 0),(.int .i64 0),(.int .i64 0)]) 56 rfl Tryz.underlying23 info35 rfl (by decide) (by omega) v4 y1 l0 _ _ _ (fun _=>True) (fun _=>False) rfl rfl ?aO ?aR (fun _ _ h=>h) (fun _ h=>h.elim) ?aF ?aB ?aS ?aL ?_;(case aR=>exact m3_);(case aB=>exact (bl HB));(case aF=>exact (fun _ _=>trivial));(case aO=>exact (rs HO5));(case aS=>exact (below_size (bl HB)));(case aL=>have:=LMc4.out;omega);intro v6 w9 ho hb hg hat;rw [← Ny2.out] at ho;replace BK3:=am (blk_grown (g:=gb3) (o:=.cells #[.slice none 0 0,.slice none 0 0,.slice none 0 0] 30 (0,0)) (bk BK3) hg (Kd.R_ne HO5.out BK3.out (by decide)));replace HB:=am hb;have HO7:=am (ho);clear HO5;clear ho hb hg hat;obtain ⟨Ao10,co10,eo10⟩:=Kd.R_slice HO7.out;subst eo10;have ⟨_,_,_,_,_,_⟩:=cf3 BK3))
   refine bodyPost_ret (results_cell_row rfl _ _ gb3 30 #[.slice Ao10 y2.length co10,.slice none 0 0,.slice none 0 0] (0,0) _ rfl (by (with_reducible repeat refine bu ?_);refine blk_put (cs:=#[.slice Ao10 y2.length co10,.slice none 0 0,.slice none 0 0]) ?_ 2 _ rfl;(with_reducible repeat refine bu ?_);refine blk_put (cs:=#[.slice Ao10 y2.length co10,.slice none 0 0,.slice none 0 0]) ?_ 1 _ rfl;(with_reducible repeat refine bu ?_);refine blk_put (cs:=#[.slice none 0 0,.slice none 0 0,.slice none 0 0]) ?_ 0 _ rfl;(with_reducible repeat refine bu ?_);exact BK3.out) Tryz.underlying30 rfl (by kernel_rfl)) rfl ?_;exact ⟨_,_,_,fi_,by (with_reducible repeat apply ru);exact Kd.R_mono (Kd.R_far (p:=⟨gb3,2,none⟩) (Kd.R_far (p:=⟨gb3,1,none⟩) (Kd.R_far (p:=⟨gb3,0,none⟩) (Kd.R_types HO7.out BK3.out (by decide)) (fun _ hk=>hk.2) (.slice Ao10 y2.length co10)) (fun _ hk=>hk.2) (.slice none 0 0)) (fun _ hk=>hk.2) (.slice none 0 0)) (fun _ hk=>trivial),by first | exact Kd.R_nil _ _ _ _ _ | exact Kd.N_nil _ _ _ _ _ | exact Kd.V_nil _ _ _ _ _ | exact Kd.Q_nil _ _ _ _ _ | exact Kd.S_nil _ _ _ _ _,by first | exact Kd.R_nil _ _ _ _ _ | exact Kd.N_nil _ _ _ _ _ | exact Kd.V_nil _ _ _ _ _ | exact Kd.Q_nil _ _ _ _ _ | exact Kd.S_nil _ _ _ _ _,m4_⟩
  ·rw [if_neg c4] at H;exact absurd H (by simp)
 ·replace c3:=Bool.eq_false_iff.mpr c3;subst c3;rw [if_neg nft_] at H;simp only [Option.some.injEq,Prod.mk.injEq] at H;obtain ⟨rfl,rfl,rfl⟩:=H
  go_enter Tryz.func13,Tryz.ntmps13
  go_wp2_with (first | ((with_reducible refine gD 2 rfl ?_);refine box_event rfl (N:=2) rfl (cs:=#[.slice none 0 0,.slice none 0 0,.slice none 0 0]) (t:=30) hr_ ?_;intro gb3 hg w12 hbox hb;have BK3:=am hbox;have GW3:=gwE HB hg;have GE3:=gwE HB hg;replace HB:=hbS HB hb;clear hb hbox hg) | ((with_reducible refine gC 47 rfl ?_);refine gL (some 4) Tryz.func47 #[.slice A0 l0.length c0] ?_;(with_reducible refine (spec_l6Rules.calls k _ _ l0 false _ ?side1 ?side2 A2.out).mono ?_);(case side1=>exact m3_);(case side2=>exact HC0.out);rintro e w13 ⟨rfl,hb⟩;refine ⟨_,rfl,?_⟩;replace BK3:=bkB BK3 hb;replace HB:=hbS HB hb;(try clear hb);have ⟨_,_,_,_,_,_⟩:=cf3 BK3))
  refine bodyPost_ret (results_cell_row rfl _ _ gb3 30 #[.slice none 0 0,.slice none 0 0,.slice none 0 0] (0,0) _ rfl (by (with_reducible repeat refine bu ?_);refine blk_put (cs:=#[.slice none 0 0,.slice none 0 0,.slice none 0 0]) ?_ 2 _ rfl;(with_reducible repeat refine bu ?_);refine blk_put (cs:=#[.slice none 0 0,.slice none 0 0,.slice none 0 0]) ?_ 1 _ rfl;(with_reducible repeat refine bu ?_);refine blk_put (cs:=#[.slice none 0 0,.slice none 0 0,.slice none 0 0]) ?_ 0 _ rfl;(with_reducible repeat refine bu ?_);exact BK3.out) Tryz.underlying30 rfl (by kernel_rfl)) rfl ?_;exact ⟨_,_,_,fi_,by first | exact Kd.R_nil _ _ _ _ _ | exact Kd.N_nil _ _ _ _ _ | exact Kd.V_nil _ _ _ _ _ | exact Kd.Q_nil _ _ _ _ _ | exact Kd.S_nil _ _ _ _ _,by first | exact Kd.R_nil _ _ _ _ _ | exact Kd.N_nil _ _ _ _ _ | exact Kd.V_nil _ _ _ _ _ | exact Kd.Q_nil _ _ _ _ _ | exact Kd.S_nil _ _ _ _ _,by first | exact Kd.R_nil _ _ _ _ _ | exact Kd.N_nil _ _ _ _ _ | exact Kd.V_nil _ _ _ _ _ | exact Kd.Q_nil _ _ _ _ _ | exact Kd.S_nil _ _ _ _ _,m4_⟩
def impl_lineByte.f (a0 : Int) : Option (Bool):=if a0 ≥ 97 then (if a0 ≤ 122 then (some true) else (if a0 ≥ 48 then (if a0 ≤ 57 then (some true) else (some (a0 == 32))) else (some (a0 == 32)))) else (if a0 ≥ 48 then (if a0 ≤ 57 then (some true) else (some (a0 == 32))) else (some (a0 == 32)))
set_option maxHeartbeats 8000000 in
set_option maxRecDepth 100000 in
theorem impl_lineByte.calls (a0 : Int) (r : Bool) (w : World) (h : impl_lineByte.f a0 = some r) :
  Calls Tryz.prog 101 #[.int .u8 a0] w fun e w'=>e = .returned (.bool r) ∧ Drawn0 w w':=by
 have H : (if a0 ≥ 97 then (if a0 ≤ 122 then (some true) else (if a0 ≥ 48 then (if a0 ≤ 57 then (some true) else (some (a0 == 32))) else (some (a0 == 32)))) else (if a0 ≥ 48 then (if a0 ≤ 57 then (some true) else (some (a0 == 32))) else (some (a0 == 32)))) = some r:=h;clear h
 by_cases c2 : a0 ≥ 97
 ·rw [if_pos c2] at H;have c2b0 : decide (97 ≤ a0) = true:=decide_eq_true c2;clear c2
  by_cases c3 : a0 ≤ 122
  ·rw [if_pos c3] at H;have c3b0 : decide (a0 ≤ 122) = true:=decide_eq_true c3;clear c3;obtain rfl:=Option.some.inj H
   go_enter Tryz.func101,Tryz.ntmps101
   go_wp2
   go_ret
   exact ⟨fr_,dn_⟩
  ·rw [if_neg c3] at H;have c3b0 : decide (a0 ≤ 122) = false:=decide_eq_false c3;clear c3
   by_cases c4 : a0 ≥ 48
   ·rw [if_pos c4] at H;have c4b0 : decide (48 ≤ a0) = true:=decide_eq_true c4;clear c4
    by_cases c5 : a0 ≤ 57
    ·rw [if_pos c5] at H;have c5b0 : decide (a0 ≤ 57) = true:=decide_eq_true c5;clear c5;obtain rfl:=Option.some.inj H
     go_enter Tryz.func101,Tryz.ntmps101
     go_wp2
     go_ret
     exact ⟨fr_,dn_⟩
    ·rw [if_neg c5] at H;have c5b0 : decide (a0 ≤ 57) = false:=decide_eq_false c5;clear c5;obtain rfl:=Option.some.inj H
     go_enter Tryz.func101,Tryz.ntmps101
     go_wp2
     go_ret
     exact ⟨fr_,dn_⟩
   ·rw [if_neg c4] at H;have c4b0 : decide (48 ≤ a0) = false:=decide_eq_false c4;clear c4;obtain rfl:=Option.some.inj H
    go_enter Tryz.func101,Tryz.ntmps101
    go_wp2
    go_ret
    exact ⟨fr_,dn_⟩
 ·rw [if_neg c2] at H;have c2b0 : decide (97 ≤ a0) = false:=decide_eq_false c2;clear c2
  by_cases c6 : a0 ≥ 48
  ·rw [if_pos c6] at H;have c6b0 : decide (48 ≤ a0) = true:=decide_eq_true c6;clear c6
   by_cases c7 : a0 ≤ 57
   ·rw [if_pos c7] at H;have c7b0 : decide (a0 ≤ 57) = true:=decide_eq_true c7;clear c7;obtain rfl:=Option.some.inj H
    go_enter Tryz.func101,Tryz.ntmps101
    go_wp2
    go_ret
    exact ⟨fr_,dn_⟩
   ·rw [if_neg c7] at H;have c7b0 : decide (a0 ≤ 57) = false:=decide_eq_false c7;clear c7;obtain rfl:=Option.some.inj H
    go_enter Tryz.func101,Tryz.ntmps101
    go_wp2
    go_ret
    exact ⟨fr_,dn_⟩
  ·rw [if_neg c6] at H;have c6b0 : decide (48 ≤ a0) = false:=decide_eq_false c6;clear c6;obtain rfl:=Option.some.inj H
   go_enter Tryz.func101,Tryz.ntmps101
   go_wp2
   go_ret
   exact ⟨fr_,dn_⟩
end
def lb (b : Int) : Bool:=(97 ≤ b && b ≤ 122) || ((48 ≤ b && b ≤ 57) || b == 32)
theorem lb_f (b : Int) : impl_lineByte.f b = some (lb b):=by
  unfold impl_lineByte.f lb
  by_cases h1 : 97 ≤ b <;> by_cases h2 : b ≤ 122 <;> by_cases h3 : 48 ≤ b <;> by_cases h4 : b ≤ 57 <;> simp [h1,h2,h3,h4]
def bys (s : ByteArray) : List Int:=s.data.toList.map fun b=>(b.toNat : Int)
def linOk (s : ByteArray) : Bool:=(bys s).all lb && decide (s.size ≤ 16)
def impl_LinOk.f (s : ByteArray) : Option Bool:=if s.size ≤ 140737488351232 then some (linOk s) else none
theorem bys_get (s : ByteArray) (k : Nat) (h : k < s.size) : ((s.data.toList.getD k 0).toNat : Int) = (bys s)[k]'(by simpa [bys] using h):=by
  have h' : k < s.data.toList.length:=by simpa using h
  simp [bys,List.getD,List.getElem?_eq_getElem h']
theorem below_bytes (w : World) (e : TypeId) (s : ByteArray) : Below w.heap.size w (Lib.bytesWorld w e s):=
  ⟨rfl,rfl,rfl,by rw [Lib.bytesWorld_size];omega,fun i hi=>Lib.bytesWorld_at_old w e s i hi⟩
set_option maxHeartbeats 1000000 in
set_option maxRecDepth 100000 in
theorem impl_LinOk.calls (a0 : ByteArray) (r : Bool) (w : World) (h : impl_LinOk.f a0 = some r) :
    Calls Tryz.prog 49 #[.string a0] w fun e w'=>e = .returned (.bool r) ∧ Below w.heap.size w w':=by
  have hs : a0.size ≤ 140737488351232:=by
    unfold impl_LinOk.f at h
    split at h
    · assumption
    · cases h
  have hr : r = linOk a0:=by
    unfold impl_LinOk.f at h
    rw [if_pos hs] at h
    exact (Option.some.inj h).symm
  have HR:=Lib.hid hr
  clear hr h
  have hcv:=fun (w : World)=>Lib.run_convert_string_bytes (P:=Tryz.prog) w 9 22 5 a0 Tryz.underlying9 Tryz.underlying22 Tryz.underlying5
  go_enter Tryz.func49,Tryz.ntmps49
  go_wp2_with fail
  obtain ⟨W0,hW0⟩ : ∃ W0,Lib.bytesWorld w 5 a0 = W0:=⟨_,rfl⟩
  have hbw : Below w.heap.size w W0:=by rw [← hW0];exact below_bytes w 5 a0
  have hcW:=Lib.hid (fun k (hk : k < a0.size)=>(by rw [← hW0];exact Lib.bytesWorld_cell w 5 a0 k hk : W0.cell? ⟨w.heap.size,k,none⟩ = some (.int .u8 (a0.data.toList.getD k 0).toNat)))
  have HBW:=Lib.hid hbw
  rw [hW0]
  clear hW0 hcv hbw
  go_loopw [4,8] (fun b i wr=>∃ k : Nat,k ≤ a0.size ∧ i = .int .i64 k ∧ Aside0 (((bys a0).take k).all lb = true) ∧ Aside0 (Drawn0 W0 wr)) (fun _ i _=>a0.size - (intOf i).toNat)
  case atStart=>exact ⟨0,Nat.zero_le _,rfl,⟨by simp⟩,⟨Drawn0.refl _⟩⟩
  case round=>
    obtain ⟨k,hk,rfl,ha,hd⟩:=hrel
    by_cases hlt : k < a0.size
    · obtain ⟨nd,hnd⟩:=hd.out.out
      subst hnd
      have hg:=bys_get a0 k hlt
      have hc0:=hcW.out k hlt
      obtain ⟨x,hx⟩ : ∃ x : Int,((a0.data.toList.getD k 0).toNat : Int) = x:=⟨_,rfl⟩
      rw [hx] at hg hc0
      have hc : (W0.drewN nd).cell? ⟨w.heap.size,k,none⟩ = some (.int .u8 x):=hc0
      have hlen : (bys a0).length = a0.size:=by simp [bys]
      have htk : (bys a0).take (k + 1) = (bys a0).take k ++ [x]:=by
        rw [List.take_succ_eq_append_getElem (by omega),← hg]
      have HT:=Lib.hid htk
      have HL:=Lib.hid hlen
      have HG:=Lib.hid hg
      clear hx hg hc0 htk hlen
      cases hb : lb x with
      | true=>
        have HL':=Lib.hid hb
        have hfb : impl_lineByte.f x = some true:=by rw [lb_f,hb]
        have HF:=Lib.hid hfb
        clear hb hfb
        go_wp2_with (go_at_call 101;refine (impl_lineByte.calls _ true _ HF.out).mono ?_;rintro e wq ⟨rfl,⟨nq,rfl⟩⟩)
        go_roundw
        case rel=>exact ⟨k + 1,by omega,by go_num,⟨by rw [HT.out,List.all_append,ha.out];simp [HL'.out]⟩,⟨⟨⟨_,rfl⟩⟩⟩⟩
        case measure=>simp [intOf];omega
      | false=>
        have HL':=Lib.hid hb
        have hfb : impl_lineByte.f x = some false:=by rw [lb_f,hb]
        have HF:=Lib.hid hfb
        clear hb hfb
        go_wp2_with (go_at_call 101;refine (impl_lineByte.calls _ false _ HF.out).mono ?_;rintro e wq ⟨rfl,⟨nq,rfl⟩⟩)
        go_ret
        have hfl : linOk a0 = false:=by
          unfold linOk
          have : (bys a0).all lb = false:=by
            rw [List.all_eq_false]
            exact ⟨x,by rw [HG.out];exact List.getElem_mem _,by simp [HL'.out]⟩
          simp [this]
        exact ⟨by rw [HR.out,hfl];rfl,HBW.out.trans ((Drawn0.below ⟨⟨_,rfl⟩⟩).mono HBW.out.size)⟩
    · obtain ⟨nd,hnd⟩:=hd.out.out
      subst hnd
      have hk2 : k = a0.size:=by omega
      subst hk2
      have hlen : (bys a0).length = a0.size:=by simp [bys]
      have hall : (bys a0).all lb = true:=by have:=ha.out;rwa [List.take_of_length_le (by omega)] at this
      have HA:=Lib.hid hall
      clear hall hlen
      have hfin : linOk a0 = decide ((a0.size : Int) ≤ 16):=by
        rw [linOk,HA.out,Bool.true_and]
        exact decide_eq_decide.mpr (by omega)
      have HFIN:=Lib.hid hfin
      clear hfin
      by_cases h16 : (a0.size : Int) ≤ 16
      · go_wp2
        go_ret
        exact ⟨by rw [HR.out,HFIN.out,decide_eq_true h16];rfl,HBW.out.trans ((Drawn0.below hd.out).mono HBW.out.size)⟩
      · go_wp2
        go_ret
        exact ⟨by rw [HR.out,HFIN.out,decide_eq_false (by omega)];rfl,HBW.out.trans ((Drawn0.below hd.out).mono HBW.out.size)⟩
section
attribute [local go_sem] max2_int min2_int max_two min_two max_three min_three max_four min_four
def laws_haOk.f  : Option (Bool):=(impl_LinOk.f (⟨#[97]⟩ : ByteArray)).bind fun t239=>(some t239)
set_option maxHeartbeats 8000000 in
set_option maxRecDepth 100000 in
theorem laws_haOk.calls  (r : Bool) (w : World) (h : laws_haOk.f  = some r) :
  Calls Tryz.prog 15 #[] w fun e w'=>e = .returned (.bool r) ∧ Below w.heap.size w w':=by
 have HB:=am (Below.refl w.heap.size w);have H : ((impl_LinOk.f (⟨#[97]⟩ : ByteArray)).bind fun t0=>(some t0)) = some r:=h;clear h;obtain ⟨t0,A1,H⟩:=bse H
 try dsimp only at H
 obtain rfl:=Option.some.inj H
 go_enter Tryz.func15,Tryz.ntmps15
 go_wp2_with (first | ((with_reducible refine gC 49 rfl ?_);refine gL (some 1) Tryz.func49 #[.string (⟨#[97]⟩ : ByteArray)] ?_;(with_reducible refine (impl_LinOk.calls (⟨#[97]⟩ : ByteArray) t0 _ A1.out).mono ?_);rintro e w2 ⟨rfl,hb⟩;refine ⟨_,rfl,?_⟩;replace HB:=hbS HB hb;(try clear hb)))
 go_ret
 exact ⟨fi_,m0_⟩
end
section
attribute [local go_sem] max2_int min2_int max_two min_two max_three min_three max_four min_four
attribute [local go_sem high] eqA54
def impl_EndPoint_156.l0 : Nat → List (S54) → Int → Int → Int → Int → Option (Int)
 | 0,_,_,_,_,_=>none
 | k + 1,x0,x7,x8,x246000,x246001=>if x8 < x7 then (if 0 ≤ x8 then (if x8 < (x0.length : Int) then (if (x246000 == ((rd_T54 x0 x8).f0) && (x246001 == ((rd_T54 x0 x8).f1))) = true then (some x8) else (impl_EndPoint_156.l0 k x0 x7 (wrap64 (x8 + 1)) x246000 x246001)) else (none)) else (none)) else (some (-1))
def impl_EndPoint_156.f (k : Nat) (l0 : List (S54)) (a1_0 : Int) (a1_1 : Int) : Option (Int):=impl_EndPoint_156.l0 k l0 (l0.length : Int) 0 a1_0 a1_1
theorem impl_EndPoint_156.mono_l : ∀ k,(∀ y0 y1 y2 y3 y4,LeO (impl_EndPoint_156.l0 k y0 y1 y2 y3 y4) (impl_EndPoint_156.l0 (k + 1) y0 y1 y2 y3 y4))
 | 0=>fun _ _ _ _ _ r h=>by simp [impl_EndPoint_156.l0] at h
 | k + 1=>by
  have ih0:=impl_EndPoint_156.mono_l k
  ·intro y0 y1 y2 y3 y4;unfold impl_EndPoint_156.l0
   repeat' first | (with_reducible first | exact ih0 _ _ _ _ _ | exact LeO.refl _ | exact LeO.none _ | refine LeO.ite ?_ ?_ | refine LeO.bind ?_ (fun _=>?_)) | exact ih0 _ _ _ _ _ | exact LeO.none _ | refine LeO.ite ?_ ?_ | refine LeO.bind ?_ (fun _=>?_)
theorem impl_EndPoint_156.mono : ∀ a0 a1 a2 k,LeO (impl_EndPoint_156.f k a0 a1 a2) (impl_EndPoint_156.f (k + 1) a0 a1 a2):=by
 intro a0 a1 a2 k;have ih0:=impl_EndPoint_156.mono_l k;unfold impl_EndPoint_156.f
 repeat' first | (with_reducible first | exact ih0 _ _ _ _ _ | exact LeO.refl _ | exact LeO.none _ | refine LeO.ite ?_ ?_ | refine LeO.bind ?_ (fun _=>?_)) | exact ih0 _ _ _ _ _ | exact LeO.none _ | refine LeO.ite ?_ ?_ | refine LeO.bind ?_ (fun _=>?_)
set_option maxHeartbeats 8000000 in
set_option maxRecDepth 100000 in
theorem impl_EndPoint_156.calls (k : Nat) (A0 : Option Addr) (c0 : Nat) (l0 : List (S54)) (a1_0 : Int) (a1_1 : Int) (r : Int) (w : World) (hr0 : Kd.C k54 w A0 l0.length l0) (hc0 : l0.length ≤ c0) (h : impl_EndPoint_156.f k l0 a1_0 a1_1 = some r) :
  Calls Tryz.prog 156 #[.slice A0 l0.length c0,.agg #[.int .i64 a1_0,.int .i64 a1_1]] w fun e w'=>e = .returned (.int .i64 r) ∧ Below w.heap.size w w':=by
 have hu54:=Tryz.underlying54;have HR0:=am hr0;have HC0:=am hc0;clear hr0 hc0;have HB:=am (Below.refl w.heap.size w);have H : (impl_EndPoint_156.l0 k l0 (l0.length : Int) 0 a1_0 a1_1) = some r:=h;clear h;have H':=am H;clear H
 go_enter Tryz.func156,Tryz.ntmps156
 iterate 4 ((try go_quiet (fail));(try go_wp2_with (first | ((with_reducible refine gD 3 rfl ?_);refine box_event rfl (N:=3) rfl (cs:=#[.int .i64 a1_0,.int .i64 a1_1]) (t:=54) hr_ ?_;intro gb3 hg w3 hbox hb;have BK3:=am hbox;have GW3:=gwE HB hg;have GE3:=gwE HB hg;replace HB:=hbS HB hb;clear hb hbox hg))))
 go_loopg [8] k (fun kq v8 w'=>∃ (x8_1 : Int),v8 = .int .i64 x8_1 ∧ Aside0 (impl_EndPoint_156.l0 kq l0 (l0.length : Int) x8_1 a1_0 a1_1 = some r) ∧ Aside0 (kq ≤ k) ∧ Aside0 (w'.heap[gb3]? = some (.cells #[.int .i64 a1_0,.int .i64 a1_1] 54 (0,0))) ∧ Aside0 (Below w.heap.size w w'))
 case atStart=>exact ⟨(0),rs_,H',⟨Nat.le_refl _⟩,⟨bk BK3⟩,⟨m4_⟩⟩
 case round=>
  clear H';(try clear c1);(try clear p2);obtain ⟨x8_1,rfl,HA,HK1,BK3,HB⟩:=hrel
  cases gk with
  | zero=>exact absurd HA.out (by simp [impl_EndPoint_156.l0])
  | succ k1=>
   have H:=HA.out;clear HA;simp only [impl_EndPoint_156.l0] at H
   by_cases c4 : x8_1 < (l0.length : Int)
   ·rw [if_pos c4] at H;have c4b0 : decide (x8_1 < (l0.length : Int)) = true:=decide_eq_true c4;clear c4
    by_cases c5 : 0 ≤ x8_1
    ·rw [if_pos c5] at H;have c5b0 : decide (0 ≤ x8_1) = true:=decide_eq_true c5;clear c5
     by_cases c6 : x8_1 < (l0.length : Int)
     ·rw [if_pos c6] at H;have c6b0 : decide (x8_1 < (l0.length : Int)) = true:=decide_eq_true c6;clear c6
      by_cases c7 : (a1_0 == ((rd_T54 l0 x8_1).f0) && (a1_1 == ((rd_T54 l0 x8_1).f1))) = true
      ·rw [if_pos c7] at H;have c7b0 : (a1_0 == ((rd_T54 l0 x8_1).f0) && (a1_1 == ((rd_T54 l0 x8_1).f1))) = true:=c7;(try (have c7b1 : decide (a1_0 = ((rd_T54 l0 x8_1).f0) && (a1_1 == ((rd_T54 l0 x8_1).f1))) = true:=by simpa using c7));(try (have c7b2 : (a1_0 == ((rd_T54 l0 x8_1).f0) && (a1_1 == ((rd_T54 l0 x8_1).f1))) = true:=by simpa using c7));clear c7;obtain rfl:=Option.some.inj H;have ⟨_,_,_,_⟩:=cf2 BK3;have p4 : 0 ≤ (x8_1 : Int):=of_decide_eq_true da_;have q4 : x8_1 < (l0.length : Int):=of_decide_eq_true da_;obtain ⟨ad4,e4,hx4_0,hx4_1⟩:=at_T54 HR0.out x8_1 p4 q4;cases e4;replace hx4_0:=bcl HB hx4_0;replace hx4_1:=bcl HB hx4_1;replace p4:=eq_true p4;replace q4:=eq_true q4
       go_wp2
       repeat (go_quiet (fail);try go_wp2)
       go_ret
       exact ⟨fi_,m4_⟩
      ·rw [if_neg c7] at H;have c7b0 : (a1_0 == ((rd_T54 l0 x8_1).f0) && (a1_1 == ((rd_T54 l0 x8_1).f1))) = false:=by simpa using c7
       (try (have c7b1 : decide (a1_0 = ((rd_T54 l0 x8_1).f0) && (a1_1 == ((rd_T54 l0 x8_1).f1))) = false:=by simpa using c7));(try (have c7b2 : (a1_0 == ((rd_T54 l0 x8_1).f0) && (a1_1 == ((rd_T54 l0 x8_1).f1))) = false:=by simpa using c7));(try (have c7b3 : ¬ (a1_0 = ((rd_T54 l0 x8_1).f0) && (a1_1 == ((rd_T54 l0 x8_1).f1))):=by simpa using c7));clear c7;have H':=am H;clear H;have ⟨_,_,_,_⟩:=cf2 BK3;have p4 : 0 ≤ (x8_1 : Int):=of_decide_eq_true da_;have q4 : x8_1 < (l0.length : Int):=of_decide_eq_true da_;obtain ⟨ad4,e4,hx4_0,hx4_1⟩:=at_T54 HR0.out x8_1 p4 q4;cases e4;replace hx4_0:=bcl HB hx4_0;replace hx4_1:=bcl HB hx4_1;replace p4:=eq_true p4;replace q4:=eq_true q4
       go_wp2
       repeat (go_quiet (fail);try go_wp2)
       go_roundg k1
       case measure=>have:=HK1.out;omega
       case rel=>exact ⟨(wrap64 (x8_1 + 1)),rs_,H',⟨by have:=HK1.out;omega⟩,⟨bk BK3⟩,⟨m4_⟩⟩
     ·rw [if_neg c6] at H;exact absurd H (by simp)
    ·rw [if_neg c5] at H;exact absurd H (by simp)
   ·rw [if_neg c4] at H;have c4b0 : decide (x8_1 < (l0.length : Int)) = false:=decide_eq_false c4;clear c4;obtain rfl:=Option.some.inj H
    go_wp2
    repeat (go_quiet (fail);try go_wp2)
    go_ret
    exact ⟨fi_,m4_⟩
end
section
attribute [local go_sem] max2_int min2_int max_two min_two max_three min_three max_four min_four
def impl_EndPoint_102.f (k : Nat) (l0 : List (S54)) (a1_0 : Int) (a1_1 : Int) : Option (Bool):=(impl_EndPoint_156.f k l0 a1_0 a1_1).bind fun t248=>(some (decide (t248 ≥ 0)))
theorem impl_EndPoint_102.mono : ∀ a0 a1 a2 k,LeO (impl_EndPoint_102.f k a0 a1 a2) (impl_EndPoint_102.f (k + 1) a0 a1 a2):=by
 intro a0 a1 a2 k;unfold impl_EndPoint_102.f
 repeat' first | (with_reducible first | exact impl_EndPoint_156.mono _ _ _ _ | exact LeO.refl _ | exact LeO.none _ | refine LeO.ite ?_ ?_ | refine LeO.bind ?_ (fun _=>?_)) | exact impl_EndPoint_156.mono _ _ _ _ | exact LeO.none _ | refine LeO.ite ?_ ?_ | refine LeO.bind ?_ (fun _=>?_)
set_option maxHeartbeats 8000000 in
set_option maxRecDepth 100000 in
theorem impl_EndPoint_102.calls (k : Nat) (A0 : Option Addr) (c0 : Nat) (l0 : List (S54)) (a1_0 : Int) (a1_1 : Int) (r : Bool) (w : World) (hr0 : Kd.C k54 w A0 l0.length l0) (hc0 : l0.length ≤ c0) (h : impl_EndPoint_102.f k l0 a1_0 a1_1 = some r) :
  Calls Tryz.prog 102 #[.slice A0 l0.length c0,.agg #[.int .i64 a1_0,.int .i64 a1_1]] w fun e w'=>e = .returned (.bool r) ∧ Below w.heap.size w w':=by
 have hu54:=Tryz.underlying54;have HR0:=am hr0;have HC0:=am hc0;clear hr0 hc0;have HB:=am (Below.refl w.heap.size w);have H : ((impl_EndPoint_156.f k l0 a1_0 a1_1).bind fun t0=>(some (decide (t0 ≥ 0)))) = some r:=h;clear h;obtain ⟨t0,A3,H⟩:=bse H
 try dsimp only at H
 obtain rfl:=Option.some.inj H
 go_enter Tryz.func102,Tryz.ntmps102
 go_wp2_with (first | ((with_reducible refine gD 3 rfl ?_);refine box_event rfl (N:=3) rfl (cs:=#[.int .i64 a1_0,.int .i64 a1_1]) (t:=54) hr_ ?_;intro gb1 hg w4 hbox hb;have BK1:=am hbox;have GW1:=gwE HB hg;have GE1:=gwE HB hg;replace HB:=hbS HB hb;clear hb hbox hg;have ⟨_,_,_,_⟩:=cf2 BK1) | ((with_reducible refine gC 156 rfl ?_);refine gL (some 7) Tryz.func156 #[.slice A0 l0.length c0,.agg #[.int .i64 a1_0,.int .i64 a1_1]] ?_;(with_reducible refine (impl_EndPoint_156.calls k _ _ l0 a1_0 a1_1 t0 _ ?side1 ?side2 A3.out).mono ?_);(case side1=>exact m3_);(case side2=>exact HC0.out);rintro e w6 ⟨rfl,hb⟩;refine ⟨_,rfl,?_⟩;replace BK1:=bkB BK1 hb;replace HB:=hbS HB hb;(try clear hb)))
 go_ret
 exact ⟨fi_,m4_⟩
def impl_MapOk.l0 : Nat → List (S54) → Int → Int → List (S54) → Option (Bool)
 | 0,_,_,_,_=>none
 | k + 1,x6,x7,x8,x250000=>if x8 < x7 then (if 0 ≤ x8 then (if x8 < (x6.length : Int) then ((impl_EndInside.f ((rd_T54 x6 x8).f0) ((rd_T54 x6 x8).f1)).bind fun t252=>(if t252 = true then (if x8 ≤ (x250000.length : Int) then ((impl_EndPoint_102.f k (x250000.take (x8 : Int).toNat) ((rd_T54 x6 x8).f0) ((rd_T54 x6 x8).f1)).bind fun t257=>(if t257 = true then (some false) else (impl_MapOk.l0 k x6 x7 (wrap64 (x8 + 1)) x250000))) else (none)) else (some false))) else (none)) else (none)) else (some (decide ((x250000.length : Int) ≤ 6)))
def impl_MapOk.f (k : Nat) (l0_0 : List (S54)) : Option (Bool):=impl_MapOk.l0 k l0_0 (l0_0.length : Int) 0 l0_0
theorem impl_MapOk.mono_l : ∀ k,(∀ y0 y1 y2 y3,LeO (impl_MapOk.l0 k y0 y1 y2 y3) (impl_MapOk.l0 (k + 1) y0 y1 y2 y3))
 | 0=>fun _ _ _ _ r h=>by simp [impl_MapOk.l0] at h
 | k + 1=>by
  have ih0:=impl_MapOk.mono_l k
  ·intro y0 y1 y2 y3;unfold impl_MapOk.l0
   repeat' first | (with_reducible first | exact ih0 _ _ _ _ | exact impl_EndPoint_102.mono _ _ _ _ | exact LeO.refl _ | exact LeO.none _ | refine LeO.ite ?_ ?_ | refine LeO.bind ?_ (fun _=>?_)) | exact ih0 _ _ _ _ | exact impl_EndPoint_102.mono _ _ _ _ | exact LeO.none _ | refine LeO.ite ?_ ?_ | refine LeO.bind ?_ (fun _=>?_)
theorem impl_MapOk.mono : ∀ a0 k,LeO (impl_MapOk.f k a0) (impl_MapOk.f (k + 1) a0):=by
 intro a0 k;have ih0:=impl_MapOk.mono_l k;unfold impl_MapOk.f
 repeat' first | (with_reducible first | exact ih0 _ _ _ _ | exact impl_EndPoint_102.mono _ _ _ _ | exact LeO.refl _ | exact LeO.none _ | refine LeO.ite ?_ ?_ | refine LeO.bind ?_ (fun _=>?_)) | exact ih0 _ _ _ _ | exact impl_EndPoint_102.mono _ _ _ _ | exact LeO.none _ | refine LeO.ite ?_ ?_ | refine LeO.bind ?_ (fun _=>?_)
def impl_MapOk.T4 : Bool × List (List Nat × List Nat):=(true,[([],[]),([0],[0]),([1],[1]),([2,1],[2]),([3],[3]),([4,3],[3,4]),([3],[3]),([5,6,3],[3,5,6]),([3],[3]),([7,8,3,3],[3,7,8]),([3,9],[3,9])])
def impl_MapOk.B4 : List Nat:=[0,1,3,7,15,31,15,127,15,511,1023]
theorem impl_MapOk.tab4 : rtab .any (opsOf Tryz.f50 4) = impl_MapOk.T4:=by kernel_rfl
theorem impl_MapOk.bits4 : waitsOk impl_MapOk.T4.2 impl_MapOk.B4 = true:=by kernel_rfl
set_option maxHeartbeats 8000000 in
set_option maxRecDepth 100000 in
theorem impl_MapOk.calls (k : Nat) (A0_0 : Option Addr) (c0_0 : Nat) (l0_0 : List (S54)) (r : Bool) (w : World) (hr0_0 : Kd.C k54 w A0_0 l0_0.length l0_0) (hc0_0 : l0_0.length ≤ c0_0) (h : impl_MapOk.f k l0_0 = some r) :
  Calls Tryz.prog 50 #[.agg #[.slice A0_0 l0_0.length c0_0]] w fun e w'=>e = .returned (.bool r) ∧ Below w.heap.size w w':=by
 have hu27:=Tryz.underlying27;have hu54:=Tryz.underlying54;have HR0_0:=am hr0_0;have HC0_0:=am hc0_0;clear hr0_0 hc0_0;have HB:=am (Below.refl w.heap.size w);have H : (impl_MapOk.l0 k l0_0 (l0_0.length : Int) 0 l0_0) = some r:=h;clear h;have H':=am H;clear H
 go_enter Tryz.func50,Tryz.ntmps50
 go_wp2_with (first | ((with_reducible refine gD 1 rfl ?_);refine box_event rfl (N:=1) rfl (cs:=#[.slice A0_0 l0_0.length c0_0]) (t:=27) hr_ ?_;intro gb3 hg w2 hbox hb;have BK3:=am hbox;have GW3:=gwE HB hg;have GE3:=gwE HB hg;replace HB:=hbS HB hb;clear hb hbox hg;have ⟨hcz3_0,hfz3_0⟩:=cf1 BK3))
 go_loopg [8] k (fun kq v8 w'=>∃ (x8_1 : Int),v8 = .int .i64 x8_1 ∧ Aside0 (impl_MapOk.l0 kq l0_0 (l0_0.length : Int) x8_1 l0_0 = some r) ∧ Aside0 (kq ≤ k) ∧ Aside0 (w'.heap[gb3]? = some (.cells #[(.slice A0_0 l0_0.length c0_0)] 27 (0,0))) ∧ Aside0 (Below w.heap.size w w'))
 case atStart=>exact ⟨(0),rs_,H',⟨Nat.le_refl _⟩,⟨bk BK3⟩,⟨m4_⟩⟩
 case round=>
  clear H';(try clear p2);(try clear hcz3_0 hfz3_0);obtain ⟨x8_1,rfl,HA,HK1,BK3,HB⟩:=hrel
  cases gk with
  | zero=>exact absurd HA.out (by simp [impl_MapOk.l0])
  | succ k1=>
   have H:=HA.out;clear HA;simp only [impl_MapOk.l0] at H
   by_cases c4 : x8_1 < (l0_0.length : Int)
   ·rw [if_pos c4] at H;have c4b0 : decide (x8_1 < (l0_0.length : Int)) = true:=decide_eq_true c4;clear c4
    by_cases c5 : 0 ≤ x8_1
    ·rw [if_pos c5] at H;have c5b0 : decide (0 ≤ x8_1) = true:=decide_eq_true c5;clear c5
     by_cases c6 : x8_1 < (l0_0.length : Int)
     ·rw [if_pos c6] at H;have c6b0 : decide (x8_1 < (l0_0.length : Int)) = true:=decide_eq_true c6;clear c6;obtain ⟨t4,A7,H⟩:=bse H
      try dsimp only at H
      by_cases c8 : t4 = true
      ·subst c8;rw [if_pos rfl] at H;have c9b0:=eq_true (of_decide_eq_true da_ : 0 ≤ x8_1)
       by_cases c10 : x8_1 ≤ (l0_0.length : Int)
       ·rw [if_pos c10] at H;have c10b0:=eq_true c10;have c10b1 : decide (x8_1 ≤ (l0_0.length : Int)) = true:=decide_eq_true c10;clear c10;obtain ⟨y5,hy5⟩ : ∃ y_ : List (S54),y_ = (l0_0.take (x8_1 : Int).toNat):=⟨_,rfl⟩;replace H : ((impl_EndPoint_102.f k1 y5 ((rd_T54 l0_0 x8_1).f0) ((rd_T54 l0_0 x8_1).f1)).bind fun t6=>(if t6 = true then (some false) else (impl_MapOk.l0 k1 l0_0 (l0_0.length : Int) (wrap64 (x8_1 + 1)) l0_0))) = some r:=by first | (rw [hy5];with_reducible exact H) | (have H2_:=(Option.bind_some _ _).symm.trans H;rw [hy5];with_reducible exact H2_) | (have H2_:=(Option.bind_some _ _).symm.trans H;with_reducible exact H2_) | with_reducible exact H | (rw [hy5];exact H) | exact H
        have Ny5:=am hy5;clear hy5;obtain ⟨t6,A11,H⟩:=bse H
        try dsimp only at H
        by_cases c12 : t6 = true
        ·subst c12;rw [if_pos rfl] at H;obtain rfl:=Option.some.inj H;have p7 : 0 ≤ (x8_1 : Int):=of_decide_eq_true da_;have q7 : x8_1 < (l0_0.length : Int):=of_decide_eq_true da_;obtain ⟨ad7,e7,hx7_0,hx7_1⟩:=at_T54 HR0_0.out x8_1 p7 q7;cases e7;replace hx7_0:=bcl HB hx7_0;replace hx7_1:=bcl HB hx7_1;replace p7:=eq_true p7;replace q7:=eq_true q7
         try go_wp2_with (first | ((with_reducible refine gD 4 rfl ?_);refine box_event rfl (N:=4) rfl (cs:=#[.int .i64 0,.int .i64 0]) (t:=54) hr_ ?_;intro gb9 hg w13 hbox hb;have BK9:=am hbox;have GW9:=gwE HB hg;have GE9:=gwE HB hg;replace HB:=hbS HB hb;have NB3_9:=neL BK3 hg;have NB9_3:=neG BK3 hg;replace BK3:=bkB BK3 hb;clear hb hbox hg;have:=NB9_3.out;have:=NB3_9.out;have ⟨_,_,_,_⟩:=cf2 BK9))
         have n0_ : Aside0 (((w13.setCell ⟨gb9,0,none⟩ (.int .i64 ((rd_T54 l0_0 x8_1).f0))).setCell ⟨gb9,1,none⟩ (.int .i64 ((rd_T54 l0_0 x8_1).f1))).heap[gb3]? = some (.cells #[.slice (some ad7) l0_0.length c0_0] 27 (0,0))):=bf_ BK3;have n1_ : Aside0 (((w13.setCell ⟨gb9,0,none⟩ (.int .i64 ((rd_T54 l0_0 x8_1).f0))).setCell ⟨gb9,1,none⟩ (.int .i64 ((rd_T54 l0_0 x8_1).f1))).heap[gb9]? = some (.cells #[.int .i64 ((rd_T54 l0_0 x8_1).f0),.int .i64 ((rd_T54 l0_0 x8_1).f1)] 54 (0,0))):=⟨by (with_reducible repeat refine bu ?_);refine blk_put (cs:=#[.int .i64 ((rd_T54 l0_0 x8_1).f0),.int .i64 0]) ?_ 1 _ rfl;(with_reducible repeat refine bu ?_);refine blk_put (cs:=#[.int .i64 0,.int .i64 0]) ?_ 0 _ rfl;(with_reducible repeat refine bu ?_);exact BK9.out⟩;have n2_ : Aside0 (Below w.heap.size w ((w13.setCell ⟨gb9,0,none⟩ (.int .i64 ((rd_T54 l0_0 x8_1).f0))).setCell ⟨gb9,1,none⟩ (.int .i64 ((rd_T54 l0_0 x8_1).f1)))):=⟨m4_⟩;(try clear BK3);(try clear BK9);(try clear HB);generalize ((w13.setCell ⟨gb9,0,none⟩ (.int .i64 ((rd_T54 l0_0 x8_1).f0))).setCell ⟨gb9,1,none⟩ (.int .i64 ((rd_T54 l0_0 x8_1).f1))) = w16 at n0_ n1_ n2_ ⊢;have BK3:=n0_;have BK9:=n1_;have HB:=n2_;clear n0_ n1_ n2_;replace BK3:=am (blk_drew BK3.out);replace BK9:=am (blk_drew BK9.out);replace HB:=am (below_drew1 HB.out);refine start_ (n:=11) (S:=fun w'=>w'.cell? ⟨gb9,0,none⟩ = some (.int .i64 ((rd_T54 l0_0 x8_1).f0)) ∧ w'.cell? ⟨gb9,1,none⟩ = some (.int .i64 ((rd_T54 l0_0 x8_1).f1)) ∧ w'.cell? ⟨gb3,0,none⟩ = some (.slice (some ad7) l0_0.length c0_0)) (ds:=[]) #[false,false,false,false,false,false,false,false,false,false,false] (by kernel_rfl) rfl rfl ⟨bcell BK9 0,bcell BK9 1,bcell BK3 0⟩ (fun hHeld=>?_);refine with_tabW impl_MapOk.tab4 impl_MapOk.bits4 (fun HT_ HW_=>?_);generalize w16.drew = w17 at BK3 BK9 HB hHeld ⊢;refine tk_ 0 (some 13) (bm 11 1) rfl (.inl ⟨rfl,m6_⟩) ?_;refine on_ 1 (some 14) (bm 11 3) (fun K hK=>?_);refine gR Tryz.func75 #[.agg #[.int .i64 ((rd_T54 l0_0 x8_1).f0),.int .i64 ((rd_T54 l0_0 x8_1).f1)]] ?_
         with_reducible refine (impl_EndInside.calls ((rd_T54 l0_0 x8_1).f0) ((rd_T54 l0_0 x8_1).f1) true _ A7.out).mono ?_
         rintro e w18 ⟨rfl,hb⟩;refine ⟨_,rfl,?_⟩;replace BK3:=bkB BK3 hb;replace BK9:=bkB BK9 hb;replace HB:=hbS HB hb;(try clear hb);(try clear hb2);(try clear hk);(try clear hi);have q19 : (x8_1 : Int) ≤ ((l0_0.length : Int) : Int):=of_decide_eq_true da_;obtain ⟨i019,hi019,_,hsz19,_⟩:=info_parts info54;have hroom19 : l0_0.length ≤ c0_0:=HC0_0.out;have hC19 : Kd.C k54 _ (some ad7) l0_0.length l0_0:=HR0_0.out;have hcut19:=cut_to (P:=Tryz.prog) 25 54 .i64 Tryz.underlying25 hi019 (some ad7) l0_0.length c0_0 x8_1 (of_decide_eq_true da_) q19 hroom19;have hr19:=Kd.C_take (m:=(x8_1 : Int).toNat) hC19 (by omega);have hy19 : y5.length = (x8_1 : Int).toNat:=(by rw [Ny5.out,List.length_take];omega);rw [← Ny5.out] at hr19;rw [← hy19] at hcut19;have HR256:=am hr19;have HC256:=am (show y5.length ≤ c0_0 from by omega);clear hr19 hC19 hroom19 hi019 hsz19;have KY19:=am hy19;clear hy19;replace q19:=eq_true q19;refine hK.out _ _ ⟨bcell BK9 0,bcell BK9 1,bcell BK3 0⟩ (fun hHeld=>?_);clear hK K;refine nm_ ?_;refine pu_ 2 (some 15) (bm 11 7) ?_;refine pu_ 3 (some 16) (bm 11 15) ?_;refine pu_ 4 (some 17) (bm 11 31) ?_;refine pu_ 6 (some 19) (bm 11 95) ?_;refine tk_ 5 (some 18) (bm 11 127) rfl (.inl ⟨rfl,m6_⟩) ?_;refine pu_ 7 (some 20) (bm 11 255) ?_;refine tk_ 8 (some 21) (bm 11 511) rfl (.inl ⟨rfl,m6_⟩) ?_;refine on_ 9 (some 22) (bm 11 1023) (fun K hK=>?_);refine gR Tryz.func102 #[.slice (some ad7) y5.length c0_0,.agg #[.int .i64 ((rd_T54 l0_0 x8_1).f0),.int .i64 ((rd_T54 l0_0 x8_1).f1)]] ?_
         with_reducible refine (impl_EndPoint_102.calls k1 _ _ y5 ((rd_T54 l0_0 x8_1).f0) ((rd_T54 l0_0 x8_1).f1) true _ ?side1 ?side2 A11.out).mono ?_
         (case side1=>exact m50_)
         (case side2=>exact HC256.out)
         rintro e w20 ⟨rfl,hb⟩;refine ⟨_,rfl,?_⟩;replace BK3:=bkB BK3 hb;replace BK9:=bkB BK9 hb;replace HB:=hbS HB hb;(try clear hb);(try clear hb2);(try clear hk);(try clear hi);refine hK.out _ _ ⟨bcell BK9 0,bcell BK9 1,bcell BK3 0⟩ (fun hHeld=>?_);clear hK K;refine nm_ ?_;refine pu_ 10 (some 23) (bm 11 2047) ?_;refine done_ (done_of HT_.out (by kernel_rfl)) ?_
         try go_wp2
         go_ret
         exact ⟨fi_,m4_⟩
        ·replace c12:=Bool.eq_false_iff.mpr c12;subst c12;rw [if_neg nft_] at H;have H':=am H;clear H;have p7 : 0 ≤ (x8_1 : Int):=of_decide_eq_true da_;have q7 : x8_1 < (l0_0.length : Int):=of_decide_eq_true da_;obtain ⟨ad7,e7,hx7_0,hx7_1⟩:=at_T54 HR0_0.out x8_1 p7 q7;cases e7;replace hx7_0:=bcl HB hx7_0;replace hx7_1:=bcl HB hx7_1;replace p7:=eq_true p7;replace q7:=eq_true q7
         try go_wp2_with (first | ((with_reducible refine gD 4 rfl ?_);refine box_event rfl (N:=4) rfl (cs:=#[.int .i64 0,.int .i64 0]) (t:=54) hr_ ?_;intro gb9 hg w21 hbox hb;have BK9:=am hbox;have GW9:=gwE HB hg;have GE9:=gwE HB hg;replace HB:=hbS HB hb;have NB3_9:=neL BK3 hg;have NB9_3:=neG BK3 hg;replace BK3:=bkB BK3 hb;clear hb hbox hg;have:=NB9_3.out;have:=NB3_9.out;have ⟨_,_,_,_⟩:=cf2 BK9))
         have n0_ : Aside0 (((w21.setCell ⟨gb9,0,none⟩ (.int .i64 ((rd_T54 l0_0 x8_1).f0))).setCell ⟨gb9,1,none⟩ (.int .i64 ((rd_T54 l0_0 x8_1).f1))).heap[gb3]? = some (.cells #[.slice (some ad7) l0_0.length c0_0] 27 (0,0))):=bf_ BK3;have n1_ : Aside0 (((w21.setCell ⟨gb9,0,none⟩ (.int .i64 ((rd_T54 l0_0 x8_1).f0))).setCell ⟨gb9,1,none⟩ (.int .i64 ((rd_T54 l0_0 x8_1).f1))).heap[gb9]? = some (.cells #[.int .i64 ((rd_T54 l0_0 x8_1).f0),.int .i64 ((rd_T54 l0_0 x8_1).f1)] 54 (0,0))):=⟨by (with_reducible repeat refine bu ?_);refine blk_put (cs:=#[.int .i64 ((rd_T54 l0_0 x8_1).f0),.int .i64 0]) ?_ 1 _ rfl;(with_reducible repeat refine bu ?_);refine blk_put (cs:=#[.int .i64 0,.int .i64 0]) ?_ 0 _ rfl;(with_reducible repeat refine bu ?_);exact BK9.out⟩;have n2_ : Aside0 (Below w.heap.size w ((w21.setCell ⟨gb9,0,none⟩ (.int .i64 ((rd_T54 l0_0 x8_1).f0))).setCell ⟨gb9,1,none⟩ (.int .i64 ((rd_T54 l0_0 x8_1).f1)))):=⟨m4_⟩;(try clear BK3);(try clear BK9);(try clear HB);generalize ((w21.setCell ⟨gb9,0,none⟩ (.int .i64 ((rd_T54 l0_0 x8_1).f0))).setCell ⟨gb9,1,none⟩ (.int .i64 ((rd_T54 l0_0 x8_1).f1))) = w24 at n0_ n1_ n2_ ⊢;have BK3:=n0_;have BK9:=n1_;have HB:=n2_;clear n0_ n1_ n2_;replace BK3:=am (blk_drew BK3.out);replace BK9:=am (blk_drew BK9.out);replace HB:=am (below_drew1 HB.out);refine start_ (n:=11) (S:=fun w'=>w'.cell? ⟨gb9,0,none⟩ = some (.int .i64 ((rd_T54 l0_0 x8_1).f0)) ∧ w'.cell? ⟨gb9,1,none⟩ = some (.int .i64 ((rd_T54 l0_0 x8_1).f1)) ∧ w'.cell? ⟨gb3,0,none⟩ = some (.slice (some ad7) l0_0.length c0_0)) (ds:=[]) #[false,false,false,false,false,false,false,false,false,false,false] (by kernel_rfl) rfl rfl ⟨bcell BK9 0,bcell BK9 1,bcell BK3 0⟩ (fun hHeld=>?_);refine with_tabW impl_MapOk.tab4 impl_MapOk.bits4 (fun HT_ HW_=>?_);generalize w24.drew = w25 at BK3 BK9 HB hHeld ⊢;refine tk_ 0 (some 13) (bm 11 1) rfl (.inl ⟨rfl,m6_⟩) ?_;refine on_ 1 (some 14) (bm 11 3) (fun K hK=>?_);refine gR Tryz.func75 #[.agg #[.int .i64 ((rd_T54 l0_0 x8_1).f0),.int .i64 ((rd_T54 l0_0 x8_1).f1)]] ?_
         with_reducible refine (impl_EndInside.calls ((rd_T54 l0_0 x8_1).f0) ((rd_T54 l0_0 x8_1).f1) true _ A7.out).mono ?_
         rintro e w26 ⟨rfl,hb⟩;refine ⟨_,rfl,?_⟩;replace BK3:=bkB BK3 hb;replace BK9:=bkB BK9 hb;replace HB:=hbS HB hb;(try clear hb);(try clear hb2);(try clear hk);(try clear hi);have q27 : (x8_1 : Int) ≤ ((l0_0.length : Int) : Int):=of_decide_eq_true da_;obtain ⟨i027,hi027,_,hsz27,_⟩:=info_parts info54;have hroom27 : l0_0.length ≤ c0_0:=HC0_0.out;have hC27 : Kd.C k54 _ (some ad7) l0_0.length l0_0:=HR0_0.out;have hcut27:=cut_to (P:=Tryz.prog) 25 54 .i64 Tryz.underlying25 hi027 (some ad7) l0_0.length c0_0 x8_1 (of_decide_eq_true da_) q27 hroom27;have hr27:=Kd.C_take (m:=(x8_1 : Int).toNat) hC27 (by omega);have hy27 : y5.length = (x8_1 : Int).toNat:=(by rw [Ny5.out,List.length_take];omega);rw [← Ny5.out] at hr27;rw [← hy27] at hcut27;have HR256:=am hr27;have HC256:=am (show y5.length ≤ c0_0 from by omega);clear hr27 hC27 hroom27 hi027 hsz27;have KY27:=am hy27;clear hy27;replace q27:=eq_true q27;refine hK.out _ _ ⟨bcell BK9 0,bcell BK9 1,bcell BK3 0⟩ (fun hHeld=>?_);clear hK K;refine nm_ ?_;refine pu_ 2 (some 15) (bm 11 7) ?_;refine pu_ 3 (some 16) (bm 11 15) ?_;refine pu_ 4 (some 17) (bm 11 31) ?_;refine pu_ 6 (some 19) (bm 11 95) ?_;refine tk_ 5 (some 18) (bm 11 127) rfl (.inl ⟨rfl,m6_⟩) ?_;refine pu_ 7 (some 20) (bm 11 255) ?_;refine tk_ 8 (some 21) (bm 11 511) rfl (.inl ⟨rfl,m6_⟩) ?_;refine on_ 9 (some 22) (bm 11 1023) (fun K hK=>?_);refine gR Tryz.func102 #[.slice (some ad7) y5.length c0_0,.agg #[.int .i64 ((rd_T54 l0_0 x8_1).f0),.int .i64 ((rd_T54 l0_0 x8_1).f1)]] ?_
         with_reducible refine (impl_EndPoint_102.calls k1 _ _ y5 ((rd_T54 l0_0 x8_1).f0) ((rd_T54 l0_0 x8_1).f1) false _ ?side1 ?side2 A11.out).mono ?_
         (case side1=>exact m50_)
         (case side2=>exact HC256.out)
         rintro e w28 ⟨rfl,hb⟩;refine ⟨_,rfl,?_⟩;replace BK3:=bkB BK3 hb;replace BK9:=bkB BK9 hb;replace HB:=hbS HB hb;(try clear hb);(try clear hb2);(try clear hk);(try clear hi);refine hK.out _ _ ⟨bcell BK9 0,bcell BK9 1,bcell BK3 0⟩ (fun hHeld=>?_);clear hK K;refine nm_ ?_;refine pu_ 10 (some 23) (bm 11 2047) ?_;refine done_ (done_of HT_.out (by kernel_rfl)) ?_
         try go_wp2
         go_roundg k1
         case measure=>have:=HK1.out;omega
         case rel=>exact ⟨(wrap64 (x8_1 + 1)),rs_,H',⟨by have:=HK1.out;omega⟩,⟨bk BK3⟩,⟨m4_⟩⟩
       ·rw [if_neg c10] at H;exact absurd H (by simp)
      ·replace c8:=Bool.eq_false_iff.mpr c8;subst c8;rw [if_neg nft_] at H;obtain rfl:=Option.some.inj H;have p7 : 0 ≤ (x8_1 : Int):=of_decide_eq_true da_;have q7 : x8_1 < (l0_0.length : Int):=of_decide_eq_true da_;obtain ⟨ad7,e7,hx7_0,hx7_1⟩:=at_T54 HR0_0.out x8_1 p7 q7;cases e7;replace hx7_0:=bcl HB hx7_0;replace hx7_1:=bcl HB hx7_1;replace p7:=eq_true p7;replace q7:=eq_true q7
       try go_wp2_with (first | ((with_reducible refine gD 4 rfl ?_);refine box_event rfl (N:=4) rfl (cs:=#[.int .i64 0,.int .i64 0]) (t:=54) hr_ ?_;intro gb9 hg w29 hbox hb;have BK9:=am hbox;have GW9:=gwE HB hg;have GE9:=gwE HB hg;replace HB:=hbS HB hb;have NB3_9:=neL BK3 hg;have NB9_3:=neG BK3 hg;replace BK3:=bkB BK3 hb;clear hb hbox hg;have:=NB9_3.out;have:=NB3_9.out;have ⟨_,_,_,_⟩:=cf2 BK9))
       have n0_ : Aside0 (((w29.setCell ⟨gb9,0,none⟩ (.int .i64 ((rd_T54 l0_0 x8_1).f0))).setCell ⟨gb9,1,none⟩ (.int .i64 ((rd_T54 l0_0 x8_1).f1))).heap[gb3]? = some (.cells #[.slice (some ad7) l0_0.length c0_0] 27 (0,0))):=bf_ BK3;have n1_ : Aside0 (((w29.setCell ⟨gb9,0,none⟩ (.int .i64 ((rd_T54 l0_0 x8_1).f0))).setCell ⟨gb9,1,none⟩ (.int .i64 ((rd_T54 l0_0 x8_1).f1))).heap[gb9]? = some (.cells #[.int .i64 ((rd_T54 l0_0 x8_1).f0),.int .i64 ((rd_T54 l0_0 x8_1).f1)] 54 (0,0))):=⟨by (with_reducible repeat refine bu ?_);refine blk_put (cs:=#[.int .i64 ((rd_T54 l0_0 x8_1).f0),.int .i64 0]) ?_ 1 _ rfl;(with_reducible repeat refine bu ?_);refine blk_put (cs:=#[.int .i64 0,.int .i64 0]) ?_ 0 _ rfl;(with_reducible repeat refine bu ?_);exact BK9.out⟩;have n2_ : Aside0 (Below w.heap.size w ((w29.setCell ⟨gb9,0,none⟩ (.int .i64 ((rd_T54 l0_0 x8_1).f0))).setCell ⟨gb9,1,none⟩ (.int .i64 ((rd_T54 l0_0 x8_1).f1)))):=⟨m4_⟩;(try clear BK3);(try clear BK9);(try clear HB);generalize ((w29.setCell ⟨gb9,0,none⟩ (.int .i64 ((rd_T54 l0_0 x8_1).f0))).setCell ⟨gb9,1,none⟩ (.int .i64 ((rd_T54 l0_0 x8_1).f1))) = w32 at n0_ n1_ n2_ ⊢;have BK3:=n0_;have BK9:=n1_;have HB:=n2_;clear n0_ n1_ n2_;replace BK3:=am (blk_drew BK3.out);replace BK9:=am (blk_drew BK9.out);replace HB:=am (below_drew1 HB.out);refine start_ (n:=11) (S:=fun w'=>w'.cell? ⟨gb9,0,none⟩ = some (.int .i64 ((rd_T54 l0_0 x8_1).f0)) ∧ w'.cell? ⟨gb9,1,none⟩ = some (.int .i64 ((rd_T54 l0_0 x8_1).f1))) (ds:=[]) #[false,false,false,false,false,false,false,false,false,false,false] (by kernel_rfl) rfl rfl ⟨bcell BK9 0,bcell BK9 1⟩ (fun hHeld=>?_);refine with_tabW impl_MapOk.tab4 impl_MapOk.bits4 (fun HT_ HW_=>?_);generalize w32.drew = w33 at BK3 BK9 HB hHeld ⊢;refine tk_ 0 (some 13) (bm 11 1) rfl (.inl ⟨rfl,m7_⟩) ?_;refine on_ 1 (some 14) (bm 11 3) (fun K hK=>?_);refine gR Tryz.func75 #[.agg #[.int .i64 ((rd_T54 l0_0 x8_1).f0),.int .i64 ((rd_T54 l0_0 x8_1).f1)]] ?_
       with_reducible refine (impl_EndInside.calls ((rd_T54 l0_0 x8_1).f0) ((rd_T54 l0_0 x8_1).f1) false _ A7.out).mono ?_
       rintro e w34 ⟨rfl,hb⟩;refine ⟨_,rfl,?_⟩;replace BK3:=bkB BK3 hb;replace BK9:=bkB BK9 hb;replace HB:=hbS HB hb;(try clear hb);(try clear hb2);(try clear hk);(try clear hi);refine hK.out _ _ ⟨bcell BK9 0,bcell BK9 1⟩ (fun hHeld=>?_);clear hK K;refine nm_ ?_;refine pu_ 2 (some 15) (bm 11 7) ?_;refine pu_ 3 (some 16) (bm 11 15) ?_;refine pv_ 4 (some 17) (bm 11 31) ?_;refine pv_ 5 (some 18) (bm 11 63) ?_;refine pv_ 6 (some 19) (bm 11 127) ?_;refine pv_ 7 (some 20) (bm 11 255) ?_;refine pv_ 8 (some 21) (bm 11 511) ?_;refine pv_ 9 (some 22) (bm 11 1023) ?_;refine pu_ 10 (some 23) (bm 11 2047) ?_;refine done_ (done_of HT_.out (by kernel_rfl)) ?_
       try go_wp2
       go_ret
       exact ⟨fi_,m4_⟩
     ·rw [if_neg c6] at H;exact absurd H (by simp)
    ·rw [if_neg c5] at H;exact absurd H (by simp)
   ·rw [if_neg c4] at H;have c4b0 : decide (x8_1 < (l0_0.length : Int)) = false:=decide_eq_false c4;clear c4;obtain rfl:=Option.some.inj H;have ⟨_,_⟩:=cf1 BK3
    go_wp2
    go_ret
    exact ⟨fi_,m4_⟩
end
end Go.Proofs.YtgpolhlmedmloaaGreatDoor.P
namespace Go.Proofs.YtgpolhlmedmloaaGreatDoor.P
open Go Go.RowKit
set_option linter.unusedVariables false
set_option linter.unusedSimpArgs false
theorem bax {a b : ByteArray} (h : a.data.toList = b.data.toList) : a = b:=by
  cases a;cases b;simp at h;rw [h]
theorem len_data (s : ByteArray) : s.data.toList.length = s.size:=by rw [Array.length_toList];rfl
def lineL : ByteArray → List UInt8 → List ByteArray
  | _,[]=>[]
  | w,c :: r=>if c = 59 then w :: lineL ⟨#[]⟩ r else lineL (w ++ ⟨#[c]⟩) r
def restL : ByteArray → List UInt8 → ByteArray
  | w,[]=>w
  | w,c :: r=>if c = 59 then restL ⟨#[]⟩ r else restL (w ++ ⟨#[c]⟩) r
def linesB (s : ByteArray) : List ByteArray:=lineL ⟨#[]⟩ s.data.toList
def restB (s : ByteArray) : ByteArray:=restL ⟨#[]⟩ s.data.toList
def cutS (s : ByteArray) : ByteArray × ByteArray × Bool:=(⟨(Lib.cut s.data.toList [59]).1.toArray⟩,⟨(Lib.cut s.data.toList [59]).2.1.toArray⟩,(Lib.cut s.data.toList [59]).2.2)
theorem line_index : ∀ (l : List UInt8) (w : ByteArray),(Lib.index l [59] = -1 → lineL w l = [] ∧ restL w l = w ++ ⟨l.toArray⟩) ∧
    (∀ i : Nat,Lib.index l [59] = i → lineL w l = (w ++ ⟨(l.take i).toArray⟩) :: lineL ⟨#[]⟩ (l.drop (i + 1)) ∧ restL w l = restL ⟨#[]⟩ (l.drop (i + 1)) ∧ i < l.length)
  | [],w=>⟨fun _=>⟨rfl,bax (by simp [restL])⟩,fun i h=>by simp [Lib.index] at h⟩
  | b :: l,w=>by
    by_cases hb : b = 59
    · subst hb
      have hix : Lib.index (59 :: l) [59] = 0:=by rw [Lib.index];simp [List.isPrefixOf]
      refine ⟨fun h=>by omega,fun i h=>?_⟩
      have hi : i = 0:=by omega
      subst hi
      refine ⟨?_,?_,by simp⟩
      · simp only [lineL,if_true,List.take_zero,Nat.zero_add,List.drop_succ_cons,List.drop_zero]
        congr 1;exact bax (by simp)
      · simp [restL]
    · have hp : ([59] : List UInt8).isPrefixOf (b :: l) = false:=by simp [List.isPrefixOf,Ne.symm hb]
      have hix : Lib.index (b :: l) [59] = if Lib.index l [59] == -1 then -1 else Lib.index l [59] + 1:=by rw [Lib.index,hp];simp
      obtain ⟨i1,i2⟩:=line_index l (w ++ ⟨#[b]⟩)
      have hge:=Lib.index_ge l [59]
      refine ⟨fun h=>?_,fun i h=>?_⟩
      · have hm : Lib.index l [59] = -1:=by
          rw [hix] at h
          by_cases hm : Lib.index l [59] = -1
          · exact hm
          · rw [if_neg (fun e=>hm (beq_iff_eq.1 e))] at h;omega
        obtain ⟨a1,a2⟩:=i1 hm
        simp only [lineL,restL,if_neg hb]
        exact ⟨a1,by rw [a2];exact bax (by simp)⟩
      · have hm : Lib.index l [59] ≠ -1:=fun hm=>by rw [hix,if_pos (beq_iff_eq.2 hm)] at h;omega
        rw [hix,if_neg (fun e=>hm (beq_iff_eq.1 e))] at h
        obtain ⟨j,hj⟩ : ∃ j : Nat,Lib.index l [59] = j:=⟨(Lib.index l [59]).toNat,by omega⟩
        have hi : i = j + 1:=by omega
        subst hi
        obtain ⟨a1,a2,a3⟩:=i2 j hj
        simp only [lineL,restL,if_neg hb,List.take_succ_cons,List.drop_succ_cons]
        refine ⟨?_,a2,by simp;omega⟩
        rw [a1];congr 1;exact bax (by simp)
theorem lines_hit {s : ByteArray} (h : (cutS s).2.2 = true) : linesB s = (cutS s).1 :: linesB (cutS s).2.1 ∧ restB s = restB (cutS s).2.1 ∧ (cutS s).2.1.size < s.size:=by
  have hge:=Lib.index_ge s.data.toList [59]
  have hc : 0 ≤ Lib.index s.data.toList [59]:=by
    unfold cutS Lib.cut at h
    by_cases hc : 0 ≤ Lib.index s.data.toList [59]
    · exact hc
    · rw [if_neg hc] at h;cases h
  obtain ⟨i,hi⟩ : ∃ i : Nat,Lib.index s.data.toList [59] = i:=⟨(Lib.index s.data.toList [59]).toNat,by omega⟩
  obtain ⟨a1,a2,a3⟩:=(line_index s.data.toList ⟨#[]⟩).2 i hi
  have e : Lib.cut s.data.toList [59] = (s.data.toList.take i,s.data.toList.drop (i + 1),true):=by
    unfold Lib.cut;rw [hi,if_pos (by omega)];simp
  unfold cutS linesB restB
  rw [e]
  refine ⟨?_,a2,?_⟩
  · rw [a1]
    have e1 : (⟨#[]⟩ : ByteArray) ++ ⟨(s.data.toList.take i).toArray⟩ = ⟨(s.data.toList.take i).toArray⟩:=bax (by simp)
    rw [e1]
  · have:=len_data s
    show (s.data.toList.drop (i + 1)).toArray.size < s.size
    rw [List.size_toArray,List.length_drop]
    omega
theorem lines_miss {s : ByteArray} (h : (cutS s).2.2 = false) : linesB s = [] ∧ restB s = s:=by
  have hge:=Lib.index_ge s.data.toList [59]
  have hc : Lib.index s.data.toList [59] = -1:=by
    unfold cutS Lib.cut at h
    by_cases hc : 0 ≤ Lib.index s.data.toList [59]
    · rw [if_pos hc] at h;cases h
    · omega
  obtain ⟨a1,a2⟩:=(line_index s.data.toList ⟨#[]⟩).1 hc
  exact ⟨a1,by unfold restB;rw [a2];exact bax (by simp)⟩
theorem lineL_count : ∀ (l : List UInt8) (w : ByteArray),(lineL w l).length = l.count 59
  | [],_=>rfl
  | c :: l,w=>by
    unfold lineL
    by_cases h : c = 59
    · subst h;simp [lineL_count l]
    · rw [if_neg h,lineL_count l,List.count_cons_of_ne (by simpa using h)]
theorem linesB_count (s : ByteArray) : (linesB s).length = Lib.countByte s.data.toList 59:=lineL_count _ _
theorem restL_no : ∀ (l : List UInt8) (w : ByteArray),(∀ c ∈ l,c ≠ 59) → restL w l = w ++ ⟨l.toArray⟩
  | [],w,_=>bax (by simp [restL])
  | c :: l,w,h=>by
    unfold restL
    rw [if_neg (h c (by simp)),restL_no l _ (fun x hx=>h x (by simp [hx]))]
    exact bax (by simp)
theorem restL_at : ∀ (x y : List UInt8) (w : ByteArray),restL w (x ++ 59 :: y) = restL ⟨#[]⟩ y
  | [],y,w=>by simp [restL]
  | c :: x,y,w=>by
    rw [List.cons_append,restL]
    by_cases h : c = 59
    · rw [if_pos h];exact restL_at x y _
    · rw [if_neg h];exact restL_at x y _
theorem byte_get (s : ByteArray) (j : Nat) (h : j < s.size) : s.data[j]! = s.data.toList[j]'(by rw [len_data];exact h):=by
  have : j < s.data.size:=h
  rw [getElem!_pos s.data j this]
  simp
theorem restB_last (s : ByteArray) : -1 ≤ Lib.lastIndexByte s 59 ∧ Lib.lastIndexByte s 59 < s.size ∧ restB s = s.extract (Lib.lastIndexByte s 59 + 1).toNat s.size:=by
  have hl:=len_data s
  rcases Lib.lastIdx_spec s 59 s.size with ⟨e,hno⟩ | ⟨i,hi,e,hc,hno⟩
  · have e' : Lib.lastIndexByte s 59 = -1:=e
    rw [e']
    refine ⟨by omega,by omega,?_⟩
    unfold restB
    rw [restL_no _ _ (fun c hc=>by
      obtain ⟨j,hj,rfl⟩:=List.getElem_of_mem hc
      intro e2
      have:=hno j (by omega)
      rw [byte_get s j (by omega),e2] at this
      exact this rfl)]
    apply bax
    rw [Lib.extract_data]
    simp
    rw [List.take_of_length_le (by simp)]
  · have e' : Lib.lastIndexByte s 59 = i:=e
    rw [e']
    refine ⟨by omega,by omega,?_⟩
    have hli : i < s.data.toList.length:=by omega
    have hsp : s.data.toList = s.data.toList.take i ++ 59 :: s.data.toList.drop (i + 1):=by
      have h59 : s.data.toList[i] = 59:=by
        rw [byte_get s i hi] at hc
        exact UInt8.toNat_inj.mp (by have : ((59 : UInt8).toNat : Int) = 59:=rfl;omega)
      have hd : s.data.toList.drop i = s.data.toList[i] :: s.data.toList.drop (i + 1):=List.drop_eq_getElem_cons hli
      rw [h59] at hd
      rw [← hd,List.take_append_drop]
    unfold restB
    rw [hsp,restL_at,restL_no _ _ (fun c hc=>by
      obtain ⟨j,hj,rfl⟩:=List.getElem_of_mem hc
      intro e2
      simp only [List.length_drop] at hj
      have h1:=hno (i + 1 + j) (by omega) (by omega)
      rw [byte_get s (i + 1 + j) (by omega)] at h1
      rw [List.getElem_drop] at e2
      rw [e2] at h1
      exact h1 rfl)]
    apply bax
    rw [Lib.extract_data]
    have e3 : ((i : Int) + 1).toNat = i + 1:=by omega
    rw [e3]
    simp
    rw [List.take_of_length_le (by simp)]
end Go.Proofs.YtgpolhlmedmloaaGreatDoor.P
namespace Go.Proofs.YtgpolhlmedmloaaGreatDoor.P
open Go Go.RowKit
set_option linter.unusedVariables false
variable {F : Fence} {n : Nat} {P : Program}
def SeqRuns {α : Type} (F : Fence) (n : Nat) (P : Program) (g : Nat) (lb : Array Value) (encs : α → Array Value) (Kp T : World → World → Prop) (S : List α → Prop) (Nx : List α → α → Prop) (w : World) : Prop:=
  ∀ (l : Nat) (J : List α → World → Prop) (W : World),Below w.heap.size w W → AbidesFrom W.heap.size J → (∀ s A B,J s A → T A B → J s B) →
    (∀ pre x W1,J pre W1 → Nx pre x → YieldAt F (n - 1) P l (encs x) W1 fun e W'=>e = .returned (.bool true) ∧ J (pre ++ [x]) W' ∧ Kp W1 W') →
    J [] W → CallsIn F n P g (#[.func (.yield l) #[] #[]] ++ lb) W fun e W'=>(∃ v,e = .returned v) ∧ ∃ xs,S xs ∧ J xs W'
theorem wpIn_rangeFunc_runs {α : Type} {g : Operand} {ps : Array Tmp} {assign body : Code} {Q : Exit → Act → World → Prop} {a : Act} {w : World}
    (hro : F.round = none) (h1 : 1 ≤ n) {gf : Nat} {lb : Array Value} (hg : a.eval g = .func (.func gf) #[] lb) (hFg : F.fn gf) (eg : ∀ args w,(callFunc gf args).run P w = .ok (.enter gf args) w)
    {encs : α → Array Value} {Kp T : World → World → Prop} {S : List α → Prop} {Nx : List α → α → Prop} {w0 : World} (hseq : SeqRuns F (n - 1) P gf lb encs Kp T S Nx w0)
    (hKt : ∀ {A B C : World},Kp A B → Kp B C → Kp A C) (hKb : ∀ (W : World) (l : Nat) (o o' : Obj),w.heap.size ≤ l → W.heap[l]? = some o → o.isCells = false → o.isWalk = false → Kp W (W.putObj l o'))
    (hTk : ∀ A B,T A B → ∀ k,w.heap.size ≤ k → B.heap[k]? = A.heap[k]?)
    (hb0 : Below w0.heap.size w0 w) (hps : ∀ x,(encs x).size = ps.size)
    (I : List α → World → Prop) (hI : OwnFrom w.heap.size I) (hIT : ∀ s A B,I s A → T A B → I s B) (h0 : I [] w) (a₁ : α → Act)
    (hassign : ∀ (l : Nat) (x : α) (W : World) (K : Act → World → Prop),K (a₁ x) W →
      assign.wpIn (F.inRound l) (n - 1 - 1) P (Exit.then K (fun _ _ _=>False)) { tmps:=(ps.zip (encs x)).foldl (fun t (p,v)=>t.setIfInBounds p v) a.tmps,defers:=[] } W)
    (hbody : ∀ (l : Nat) (pre : List α) (x : α) (W : World),I pre W → Nx pre x → body.wpIn (F.inRound l) (n - 1 - 1) P (ownPostK Kp I (fun _ _ _=>False) (pre ++ [x]) W) (a₁ x) W)
    (hdone : ∀ (D : Nat) (xs : List α) (W : World),w.heap.size ≤ D → S xs → I xs W → W.heap[D]? = some (.deferred (some [])) → Q .normal { a with defers:={ target:=.collected D,args:=#[] } :: a.defers } W) :
    (Code.rangeFunc g ps assign body).wpIn F n P Q a w:=by
  refine wpIn_rangeFunc fun fn hfn=>?_
  rw [hro]
  -- the loop's record L st, at block w.heap.size + 1; the block for the rounds' deferred calls ahead of it
  obtain ⟨L,hL⟩ : ∃ L : LoopState → Option Code → Loop,L = fun st pe=>{ state:=st,pending:=pe,fn,tmps:=a.tmps,params:=ps,assign,body,defers:=w.heap.size }:=⟨_,rfl⟩
  obtain ⟨V,hV⟩ : ∃ V,(w.alloc (.deferred (some []))).alloc (.loop (L .ready none)) = V:=⟨_,rfl⟩
  have vsz : V.heap.size = w.heap.size + 2:=by rw [← hV];simp
  have vl : V.heap[w.heap.size + 1]? = some (.loop (L .ready none)):=by
    have:=World.alloc_heap_new (w.alloc (.deferred (some []))) (.loop (L .ready none))
    rw [World.size_alloc,hV] at this
    exact this
  have vd : V.heap[w.heap.size]? = some (.deferred (some [])):=by
    rw [← hV];exact (Below.heap_alloc _ _ _ (by simp)).trans (World.alloc_heap_new w _)
  have vi : I [] V:=by rw [← hV];exact hI.alloc _ (hI.alloc _ h0)
  have vb : Below w0.heap.size w0 V:=by
    rw [← hV];exact hb0.trans ((((Below.refl _ w).alloc (Nat.le_refl _) _).alloc (by simp) _).mono hb0.size)
  refine ⟨w.heap.size + 1,[{ target:=.collected w.heap.size,args:=#[] }],V,{ target:=.fn (.func gf) lb,args:=#[.func (.yield (w.heap.size + 1)) #[] #[]] },V,gf,
    #[.func (.yield (w.heap.size + 1)) #[] #[]] ++ lb,V,?_,?_,?_,?_,fun _=>h1,?_⟩
  · rw [← hV,hL];exact run_enterLoop_outer _ _ _ _ _
  · simp only [resolve,hg];simp [go_sem]
  · intro f' hf';simp [Target.leads] at hf';subst hf';exact hFg
  · simp [invoke,go_sem,eg]
  have keep : ∀ {A B : World} {row : Option Nat} {k : Nat} {o : Obj},A.grownBy B row → (∀ r,row = some r → V.heap.size ≤ r ∧ ∃ o : Obj,A.heap[r]? = some o ∧ o.isWalk = true) → A.heap[k]? = some o → o.isWalk = false → B.heap[k]? = some o:=
    fun hg' hr hk ho=>(grownBy_keeps hg' (fun r e=>(hr r e).2) hk ho).trans hk
  refine (hseq (w.heap.size + 1) (fun pre W=>I pre W ∧ W.heap[w.heap.size + 1]? = some (.loop (L .ready none)) ∧ W.heap[w.heap.size]? = some (.deferred (some []))) V vb ?abide ?turn ?round ⟨vi,vl,vd⟩).mono ?after
  case abide=>
    rintro s A B row ⟨i1,i2,i3⟩ hg' hr
    exact ⟨hI s A B row i1 hg' (fun r e=>by obtain ⟨q1,o,q2,q3⟩:=hr r e;exact ⟨by omega,o,q2,Obj.not_cells_of_walk q3⟩),keep hg' hr i2 rfl,keep hg' hr i3 rfl⟩
  case turn=>
    rintro s A B ⟨i1,i2,i3⟩ ht
    exact ⟨hIT s A B i1 ht,(hTk A B ht _ (by omega)).trans i2,(hTk A B ht _ (Nat.le_refl _)).trans i3⟩
  case round=>
    rintro pre x W ⟨i1,i2,i3⟩ hlen
    have lt:=(Array.getElem?_eq_some_iff.1 i2).1
    have hy:=run_yield (P:=P) (args:=encs x) i2 (by rw [hL];exact hps x)
    rw [hL] at hy
    refine ⟨fn,_,assign,body,hy,roundIn_of_wpIn hfn (hassign _ x W _ ⟨_,run_beginRound i2 (by rw [hL]),?_⟩)⟩
    obtain ⟨R,hR⟩ : ∃ R,W.putObj (w.heap.size + 1) (.loop { L .ready none with state:=.busy }) = R:=⟨_,rfl⟩
    have r2 : R.heap[w.heap.size + 1]? = some (.loop { L .ready none with state:=.busy }):=by rw [← hR];exact World.putObj_heap_same lt
    have r3 : R.heap[w.heap.size]? = some (.deferred (some [])):=by rw [← hR];exact (World.putObj_heap_other (by omega)).trans i3
    have rk : Kp W R:=by rw [← hR];exact hKb _ _ _ _ (by omega) i2 rfl rfl
    have ri : I pre R:=by rw [← hR];exact hI.putObj _ i1 (by omega) i2 rfl
    rw [hR]
    refine wpIn_mono (hbody _ pre x R ri hlen) ?_
    rintro e a3 X hp
    cases e with
    | normal=>
      obtain ⟨k1,k2,k3⟩:=hp
      have x2:=k1.same _ _ r2 rfl
      have x3:=k1.same _ _ r3 rfl
      have hend:=run_endRound (P:=P) none x2
      rw [hL] at hend
      refine ⟨_,_,hend,rfl,⟨hI.putObj _ k3 (by omega) x2 rfl,?_,(World.putObj_heap_other (by omega)).trans x3⟩,hKt (hKt rk k2) (hKb _ _ _ _ (by omega) x2 rfl rfl)⟩
      have:=World.putObj_heap_same (w:=X) (o:=.loop (L .ready none)) (Array.getElem?_eq_some_iff.1 x2).1
      rw [hL] at this ⊢
      exact this
    | ret=>exact hp.2.elim
    | exit id=>exact hp.2.elim
    | goto t=>exact hp.2.elim
    | panic ch=>exact hp.elim
    | outgrown=>exact hp.elim
  case after=>
    rintro e X ⟨⟨v,rfl⟩,xs,hS,i1,i2,i3⟩
    refine ⟨none,_,by have:=run_endLoop (P:=P) i2 (by rw [hL];simp);rw [hL] at this;exact this,hdone _ xs _ (Nat.le_refl _) hS (hI.putObj _ i1 (by omega) i2 rfl) ((World.putObj_heap_other (by omega)).trans i3)⟩
end Go.Proofs.YtgpolhlmedmloaaGreatDoor.P
namespace Go.Proofs.YtgpolhlmedmloaaGreatDoor.P
open Go.Proofs.YtgpolhlmedmloaaGreatDoorUBoxN.PrintLast Go.Proofs.YtgpolhlmedmloaaGreatDoorUBoxN.PrintMore Go.Proofs.YtgpolhlmedmloaaGreatDoorUBoxN.PrintWords Go.RowKit Go.Shelf
set_option linter.unusedVariables false
set_option linter.unusedSimpArgs false
section
attribute [local go_sem] Oper.semAt_some
theorem linesOf0 (s : ByteArray) (w : World) :
    Calls Tryz.prog 86 #[.string s] w fun e w'=>e = .returned (.func (.func 144) #[] #[.pointer (some ⟨w.heap.size,0,none⟩)]) ∧ w' = w.alloc (.cells #[.string s] 9):=by
  go_enter Tryz.func86,Tryz.ntmps86
  go_wp2
  go_ret
  exact ⟨rfl,rfl⟩
theorem cutS_calls (s : ByteArray) (hs : s.size < 4294967281) (w : World) (hE : Env w) :
    Calls Tryz.prog 145 #[.string s,.string (⟨#[59]⟩ : ByteArray)] w fun e w'=>e = .returned (.tuple #[.string (cutS s).1,.string (cutS s).2.1,.bool (cutS s).2.2]) ∧ ∃ n,w' = w.drewN n:=by
  obtain ⟨m,hm⟩:=hE.max
  refine (Tryz.strings_Cut s _ m w hs hm).mono ?_
  rintro e w' ⟨rfl,n,rfl⟩
  exact ⟨rfl,n,rfl⟩
def KpL (n₀ b : Nat) (W W' : World) : Prop:=Below n₀ W W' ∧ W'.heap[b]? = W.heap[b]?
theorem KpL.trans {n₀ b : Nat} {A B C : World} (h : KpL n₀ b A B) (k : KpL n₀ b B C) : KpL n₀ b A C:=⟨h.1.trans k.1,k.2.trans h.2⟩
def TuL (b : Nat) (A B : World) : Prop:=∃ v,B = A.setCell ⟨b,0,none⟩ v
def leftL (b : Nat) (w : World) : Nat:=match w.cell? ⟨b,0,none⟩ with | some (.string s)=>s.size | _=>0
theorem leftL_of {b : Nat} {w : World} {s : ByteArray} (h : w.cell? ⟨b,0,none⟩ = some (.string s)) : leftL b w = s.size:=by unfold leftL;rw [h]
theorem abide_below {B : Nat} {β : Type} {J : β → World → Prop} (hA : AbidesFrom B J) {s : β} {A A' : World} (h : Below A.heap.size A A') (hj : J s A) : J s A':=
  hA s A A' none hj (grown_of_below h none) (fun r e=>by cases e)
set_option maxHeartbeats 4000000 in
set_option maxRecDepth 100000 in
theorem lines_runs (Bs n₀ : Nat) (s0 : ByteArray) (w0 w : World) (hn : w0.heap.size = n₀) (hw : Below n₀ w0 w) (hB : n₀ ≤ Bs) (hc : w.heap[Bs]? = some (.cells #[.string s0] 9 (0,0))) (hs : s0.size < 4294967281) (hE : Env w0) :
    SeqRuns Fence.wide 8 Tryz.prog 144 #[.pointer (some ⟨Bs,0,none⟩)] (fun x : ByteArray=>#[.string x]) (KpL n₀ Bs) (TuL Bs) (fun xs=>xs = linesB s0) (fun pre x=>∃ r,pre ++ x :: r = linesB s0) w:=by
  intro l J W hW hA hT hY h0
  have HW0:=Lib.hid (show Below w0.heap.size w0 W from by rw [hn];exact hw.trans (hW.mono (by rw [← hn];exact hw.size)))
  have HE:=Lib.hid hE
  have HN:=Lib.hid hn
  have HA:=Lib.hid hA
  have HT:=Lib.hid hT
  have HY:=Lib.hid hY
  have HBs:=Lib.hid hB
  have hlt : Bs < w.heap.size:=(Array.getElem?_eq_some_iff.1 hc).1
  have hbs : W.heap[Bs]? = some (.cells #[.string s0] 9 (0,0)):=(hW.block _ hlt).trans hc
  have HS:=Lib.hid hs
  have H0:=Lib.hid h0
  clear hn hE hA hT hw hc hY hs h0 hW hB
  refine callsIn_of_wp Tryz.func144 rfl trivial ?_ rfl
  simp only [Tryz.ntmps144,List.size_toArray,List.length_cons,List.length_nil,Nat.reduceAdd,Nat.reduceSub,Array.replicate_succ,Array.replicate_zero,List.push_toArray,List.append_toArray,List.nil_append,List.cons_append]
  have HB:=Lib.hid hbs
  clear hbs hlt
  gi_wp2
  gi_loopw [] (fun wr=>∃ (pre : List ByteArray) (s : ByteArray),Hid (wr.heap[Bs]? = some (.cells #[.string s] 9 (0,0))) ∧ Hid (pre ++ linesB s = linesB s0) ∧ Hid (s.size ≤ s0.size) ∧ Hid (J pre wr) ∧ Hid (Below n₀ W wr)) (fun wr=>leftL Bs wr)
  case atStart=>exact ⟨[],s0,HB,Lib.hid (by simp),Lib.hid (Nat.le_refl _),H0,Lib.hid (Below.refl _ _)⟩
  case round=>
    obtain ⟨pre,s,hb,hp,hz,hj,hw⟩:=hrel
    have hcell:=(blk_cell hb.out 0).trans rfl
    have hEw : Env wr:=HE.out.below (HW0.out.trans (by rw [HN.out];exact hw.out))
    have HEW:=Lib.hid hEw
    clear hEw
    have HAx : Hid (AbidesFrom wr.heap.size J):=Lib.hid (fun s A B row h hg hr=>HA.out s A B row h hg (fun r e=>⟨Nat.le_trans hw.out.size (hr r e).1,(hr r e).2⟩))
    cases hc : (cutS s).2.2 with
    | false=>
      gi_wp2_with (refine ⟨trivial,?_⟩;gi_at_call 145;refine (callsIn_wide.2 (cutS_calls s (by have:=hz.out;have:=HS.out;omega) _ HEW.out)).mono ?_;rintro e w' ⟨rfl,nq,rfl⟩)
      refine ⟨fun _ h=>(by cases h),?_⟩
      gi_wp2
      refine bodyPost_ret (results_none rfl _ _ _) rfl ?_
      exact ⟨⟨_,rfl⟩,pre,by rw [← hp.out,(lines_miss hc).1,List.append_nil],abide_below HAx.out (pw_below_drewN (Below.refl _ _) nq) hj.out⟩
    | true=>
      obtain ⟨l1,l2,l3⟩:=lines_hit hc
      have hlen : ∃ r,pre ++ (cutS s).1 :: r = linesB s0:=⟨_,by rw [← l1];exact hp.out⟩
      have HL:=Lib.hid hlen
      have L1:=Lib.hid l1
      have L3:=Lib.hid l3
      clear hlen l1 l2 l3
      gi_wp2_with (first | (refine ⟨trivial,?_⟩;gi_at_call 145;refine (callsIn_wide.2 (cutS_calls s (by have:=hz.out;have:=HS.out;omega) _ HEW.out)).mono ?_;rintro e w' ⟨rfl,nq,rfl⟩;obtain ⟨fn,tmps,assign,body,hy,hR⟩:=HY.out pre (cutS s).1 (wr.drewN nq) (abide_below HAx.out (pw_below_drewN (Below.refl _ _) nq) hj.out) HL.out))
      clear hcell
      refine hR.mono ?_
      rintro e W3 ⟨rfl,hJ3,hk3⟩
      have hb3 : W3.heap[Bs]? = some (.cells #[.string s] 9 (0,0)):=hk3.2.trans hb.out
      have c3 : W3.cell? ⟨Bs,0,none⟩ = some (.string s):=(blk_cell hb3 0).trans rfl
      have f3:=blk_frozen hb3 0
      have HB3:=Lib.hid hb3
      have HJ3:=Lib.hid hJ3
      have HK3:=Lib.hid hk3
      clear hb3 hJ3 hk3 hR hy
      gi_wp2
      have hb4 : (W3.setCell ⟨Bs,0,none⟩ (.string (cutS s).2.1)).heap[Bs]? = some (.cells #[.string (cutS s).2.1] 9 (0,0)):=blk_set HB3.out 0 _
      go_roundw
      case rel=>exact ⟨pre ++ [(cutS s).1],(cutS s).2.1,Lib.hid hb4,Lib.hid (by rw [List.append_assoc,← hp.out,L1.out];rfl),Lib.hid (by have:=L3.out;have:=hz.out;omega),Lib.hid (HT.out _ _ _ HJ3.out ⟨_,rfl⟩),Lib.hid (((hw.out.trans (pw_below_drewN (Below.refl _ _) nq)).trans HK3.out.1).setCell (p:=⟨Bs,0,none⟩) HBs.out _)⟩
      case measure=>
        rw [leftL_of ((blk_cell hb4 0).trans rfl),leftL_of ((blk_cell hb.out 0).trans rfl)]
        exact L3.out
end
end Go.Proofs.YtgpolhlmedmloaaGreatDoor.P
namespace Go.Proofs
open Go.RowKit Go.Shelf in
def Tryz.lays138_ren : Go.Shelf.Ren:=⟨fun | 138=>85 | 195=>141 | 218=>142 | 143=>143 | 219=>172 | 217=>188 | 225=>189 | 224=>190 | 267=>191 | 266=>207 | 314=>208 | n=>n,fun | 9=>9 | 3=>3 | 4=>4 | 5=>5 | 0=>0 | 46=>197 | 146=>189 | 51=>188 | n=>n,fun | 1=>0 | n=>n⟩
theorem Tryz.lays138 : Go.Proofs.Lays.n138 Tryz.prog Tryz.lays138_ren:={
  mixed:=by kernel_rfl
  f138:=Tryz.func85.trans (congrArg some (by kernel_rfl))
  f143:=Tryz.func143.trans (congrArg some (by kernel_rfl))
  f195:=Tryz.func141.trans (congrArg some (by kernel_rfl))
  f217:=Tryz.func188.trans (congrArg some (by kernel_rfl))
  f218:=Tryz.func142.trans (congrArg some (by kernel_rfl))
  f219:=Tryz.func172.trans (congrArg some (by kernel_rfl))
  f224:=Tryz.func190.trans (congrArg some (by kernel_rfl))
  f225:=Tryz.func189.trans (congrArg some (by kernel_rfl))
  f266:=Tryz.func207.trans (congrArg some (by kernel_rfl))
  f267:=Tryz.func191.trans (congrArg some (by kernel_rfl))
  f314:=Tryz.func208.trans (congrArg some (by kernel_rfl))
  t0:=Tryz.underlying0
  a0:=Tryz.isAgg0
  z0:=Tryz.sizeOf0
  v0:=Tryz.zeroValue0
  t3:=Tryz.underlying3
  a3:=Tryz.isAgg3
  z3:=Tryz.sizeOf3
  v3:=Tryz.zeroValue3
  t4:=Tryz.underlying4
  a4:=Tryz.isAgg4
  z4:=Tryz.sizeOf4
  v4:=Tryz.zeroValue4
  t5:=Tryz.underlying5
  a5:=Tryz.isAgg5
  z5:=Tryz.sizeOf5
  v5:=Tryz.zeroValue5
  t9:=Tryz.underlying9
  a9:=Tryz.isAgg9
  z9:=Tryz.sizeOf9
  v9:=Tryz.zeroValue9
  t46:=Tryz.underlying197
  a46:=Tryz.isAgg197
  z46:=Tryz.sizeOf197
  v46:=Tryz.zeroValue197
  t51:=Tryz.underlying188
  a51:=Tryz.isAgg188
  z51:=Tryz.sizeOf188
  v51:=Tryz.zeroValue188
  t146:=Tryz.underlying189
  a146:=Tryz.isAgg189
  z146:=Tryz.sizeOf189
  v146:=Tryz.zeroValue189
  g1:=by kernel_rfl }
open Go.RowKit Go.Lib in
theorem Tryz.strings_Count_one (s : ByteArray) (c : UInt8) (w : World) :
    Calls Tryz.prog 85 #[.string s,.string ⟨#[c]⟩] w fun e w'=>e = .returned (.int .i64 (Lib.countByte s.data.toList c)) ∧ w' = w:=Any.strings_Count_one Tryz.lays138 s c w
def Tryz.lays148_ren : Go.Shelf.Ren:=⟨fun | 148=>87 | 222=>146 | 223=>147 | 269=>174 | n=>n,fun | 9=>9 | 3=>3 | 4=>4 | 5=>5 | 146=>189 | 51=>188 | 46=>197 | n=>n,fun | n=>n⟩
theorem Tryz.lays148 : Go.Proofs.Lays.n148 Tryz.prog Tryz.lays148_ren:={
  mixed:=by kernel_rfl
  f148:=Tryz.func87.trans (congrArg some (by kernel_rfl))
  f222:=Tryz.func146.trans (congrArg some (by kernel_rfl))
  f223:=Tryz.func147.trans (congrArg some (by kernel_rfl))
  f269:=Tryz.func174.trans (congrArg some (by kernel_rfl))
  t3:=Tryz.underlying3
  a3:=Tryz.isAgg3
  z3:=Tryz.sizeOf3
  v3:=Tryz.zeroValue3
  t4:=Tryz.underlying4
  a4:=Tryz.isAgg4
  z4:=Tryz.sizeOf4
  v4:=Tryz.zeroValue4
  t5:=Tryz.underlying5
  a5:=Tryz.isAgg5
  z5:=Tryz.sizeOf5
  v5:=Tryz.zeroValue5
  t9:=Tryz.underlying9
  a9:=Tryz.isAgg9
  z9:=Tryz.sizeOf9
  v9:=Tryz.zeroValue9
  t46:=Tryz.underlying197
  a46:=Tryz.isAgg197
  z46:=Tryz.sizeOf197
  v46:=Tryz.zeroValue197
  t51:=Tryz.underlying188
  a51:=Tryz.isAgg188
  z51:=Tryz.sizeOf188
  v51:=Tryz.zeroValue188
  t146:=Tryz.underlying189
  a146:=Tryz.isAgg189
  z146:=Tryz.sizeOf189
  v146:=Tryz.zeroValue189 }
open Go.RowKit Go.Lib in
theorem Tryz.strings_LastIndex_one (s sub : ByteArray) (h1 : sub.size = 1) (hs : s.size < 4611686018427387904) (w : World) :
    Calls Tryz.prog 87 #[.string s,.string sub] w fun e w'=>e = .returned (.int .i64 (Lib.lastIndexByte s ((sub[0]'(by omega)).toNat : Int))) ∧ w' = w:=Any.strings_LastIndex_one Tryz.lays148 s sub h1 hs w
end Go.Proofs
namespace Go.Proofs.YtgpolhlmedmloaaGreatDoor.P
open Go.Proofs.YtgpolhlmedmloaaGreatDoorUBoxN.PrintLast Go.Proofs.YtgpolhlmedmloaaGreatDoorUBoxN.PrintMore Go.Proofs.YtgpolhlmedmloaaGreatDoorUBoxN.PrintWords Go.RowKit Go.Shelf
set_option linter.unusedVariables false
set_option linter.unusedSimpArgs false
section
attribute [local go_sem] Oper.semAt_some
def impl_StrLines.f (s : ByteArray) : Option (List ByteArray × ByteArray):=if s.size ≤ 4000000000 then some (linesB s,restB s) else none
theorem ownsRow_from {β : Type} (B base : Nat) (e : TypeId) (sz : Nat) (v : β → Value) (n : β → Nat) (xs : β → List Value) : OwnFrom B (fun (s : β) W=>W.ownsRow base e sz (v s) (n s) (xs s)):=fun s X Y row hs hg hr=>by
  refine hs.kept hg ?_
  rcases hv : (v s).ownBlock with _ | k
  · exact .inl rfl
  · refine .inr fun e=>?_
    obtain ⟨_,o,ho,hc⟩:=hr k e.symm
    obtain ⟨cells,h⟩:=own_typed (.of_owns hs) k hv
    rw [h] at ho
    cases ho
    cases hc
theorem kpl_b {n₀ b : Nat} {w : World} (hn : n₀ ≤ w.heap.size) (hb : b < w.heap.size) (W : World) (l : Nat) (o o' : Obj) (hl : w.heap.size ≤ l) (ho : W.heap[l]? = some o) (hc : o.isCells = false) (hk : o.isWalk = false) : KpL n₀ b W (W.putObj l o'):=
  ⟨belowK_b (w:=w) hn W l o o' hl ho hc hk,World.putObj_heap_other (by omega)⟩
theorem ownsRow_moved {w w1 : World} {base : Nat} {e : TypeId} {size n : Nat} {v : Value} {xs : List Value} (h : w.ownsRow base e size v n xs) (hm : ∀ k,v.ownBlock = some k → w1.heap[k]? = w.heap[k]?) : w1.ownsRow base e size v n xs:=by
  obtain ⟨h1,h2⟩:=h
  refine ⟨h1,?_⟩
  rcases h2 with h2 | ⟨g,cap,cur,rfl,hg,hh,r⟩
  · exact .inl h2
  · exact .inr ⟨g,cap,cur,rfl,hg,(hm g (by simp [Value.ownBlock])).trans hh,r⟩
theorem cells_own' {β : Type} (b : Nat) (t : TypeId) (v : β → Value) : Own (fun (s : β) W=>Boxed W b t (v s)):=fun s X Y row hs hg hr=>by
  refine (hg.block b (Array.getElem?_eq_some_iff.1 hs).1 (fun e=>?_)).trans hs
  obtain ⟨o,ho,hc⟩:=hr b e.symm
  rw [show X.heap[b]? = _ from hs] at ho;cases ho;cases hc
theorem count_calls (s : ByteArray) (w : World) : Calls Tryz.prog 85 #[.string s,.string (⟨#[59]⟩ : ByteArray)] w fun e w'=>e = .returned (.int .i64 ((linesB s).length : Int)) ∧ w = w':=by
  rw [linesB_count]
  exact (Tryz.strings_Count_one s 59 w).mono fun _ _ h=>⟨h.1,h.2.symm⟩
theorem last_calls (s : ByteArray) (hs : s.size ≤ 4000000000) (w : World) : Calls Tryz.prog 87 #[.string s,.string (⟨#[59]⟩ : ByteArray)] w fun e w'=>e = .returned (.int .i64 (Lib.lastIndexByte s 59)) ∧ w = w':=
  (Tryz.strings_LastIndex_one s ⟨#[59]⟩ rfl (by omega) w).mono fun _ _ h=>⟨h.1,h.2.symm⟩
set_option maxRecDepth 100000 in
set_option maxHeartbeats 4000000 in
theorem impl_StrLines.calls (a0 : ByteArray) (r1 : List ByteArray) (r2 : ByteArray) (w : World) (h : impl_StrLines.f a0 = some (r1,r2)) (hE : Env w) :
    Calls Tryz.prog 33 #[.string a0] w fun e w'=>∃ v0_ : Value,e = .returned (.tuple #[v0_,.string r2]) ∧ Kd.R Kd.string 9 w' w.heap.size (fun _=>True) v0_ r1 ∧ Below w.heap.size w w':=by
  unfold impl_StrLines.f at h
  by_cases hs : a0.size ≤ 4000000000
  · rw [if_pos hs] at h
    simp only [Option.some.injEq,Prod.mk.injEq] at h
    obtain ⟨rfl,rfl⟩:=h
    have hlen : (linesB a0).length ≤ a0.size:=by
      rw [linesB_count];unfold Lib.countByte
      exact Nat.le_trans List.count_le_length (by rw [len_data];exact Nat.le_refl _)
    obtain ⟨N,hN⟩ : ∃ N,(linesB a0).length = N:=⟨_,rfl⟩
    have HS:=Lib.hid hs
    have HL:=Lib.hid hlen
    have HE:=Lib.hid hE
    clear hs hlen hE
    obtain ⟨i0,hi,hz0,hz1,hz2⟩:=info_parts info9
    refine (callsIn_wide (n:=9)).1 ?_
    refine callsIn_of_wp_marks Tryz.func33 rfl trivial (wpIn_wide.2 ?_) rfl
    simp only [Tryz.ntmps33,List.size_toArray,List.length_cons,List.length_nil,Nat.reduceAdd,Nat.reduceSub,Array.replicate_succ,Array.replicate_zero,List.push_toArray,List.append_toArray,List.nil_append,List.cons_append]
    go_wp2_with (first
      | (go_at_call 85;refine (count_calls a0 _).mono ?_;rintro e w' ⟨rfl,rfl⟩;rw [hN])
      | (at_make;refine wpList_make_own w rfl _ _ 71 rfl w.heap.size 9 i0 (.string ⟨#[]⟩) 1 Tryz.underlying71 hi hz0 hz1 .i64 .i64 (N : Int) N rfl rfl rfl (by rw [hz2];have:=HS.out;have:=HL.out;omega) (by unfold maxLen;have:=HS.out;have:=HL.out;omega) (Nat.le_refl _) ?_;intro w1 hown hgr)
      | (go_at_call 86;refine (linesOf0 a0 _).mono ?_;rintro e w2 ⟨rfl,rfl⟩))
    have hB1 : Below w.heap.size w w1:=(Below.refl _ w).grown hgr (Nat.le_refl _) (fun k e=>by cases e)
    have hs1:=hB1.size
    obtain ⟨W0,hW0⟩ : ∃ W0,(w1.alloc (.cells #[.slice (some ⟨w.heap.size,0,none⟩) 0 N] 71)).alloc (.cells #[.string a0] 9) = W0:=⟨_,rfl⟩
    have hb0 : Boxed W0 w1.heap.size 71 (.slice (some ⟨w.heap.size,0,none⟩) 0 N):=by rw [← hW0];exact (Boxed.new _ _ _).alloc _
    have hst : W0.heap[w1.heap.size + 1]? = some (.cells #[.string a0] 9 (0,0)):=by
      rw [← hW0]
      have:=heap_alloc_new (w1.alloc (.cells #[.slice (some ⟨w.heap.size,0,none⟩) 0 N] 71)) (.cells #[.string a0] 9)
      simp only [World.size_alloc] at this
      exact this
    have hB0 : Below w.heap.size w W0:=by rw [← hW0];exact (hB1.alloc hs1 _).alloc (by simp only [World.size_alloc];omega) _
    have hr0 : W0.ownsRow w.heap.size 9 1 (.slice (some ⟨w.heap.size,0,none⟩) 0 N) 0 []:=by rw [← hW0];exact (hown.alloc _).alloc _
    have hsz : W0.heap.size = w1.heap.size + 2:=by rw [← hW0];simp
    have hlt1:=(hown.lt w.heap.size rfl).2
    rw [hW0]
    clear hW0 hown hgr hB1
    have HHS:=Lib.hid hs1
    refine (wpIn_wide (n:=9)).1 ?_
    refine wpIn_rangeFunc_runs rfl (by omega) (gf:=144) (lb:=#[.pointer (some ⟨w1.heap.size + 1,0,none⟩)]) rfl trivial (enters_of Tryz.func144 (by kernel_rfl) rfl)
      (lines_runs (w1.heap.size + 1) w.heap.size a0 w W0 rfl hB0 (by omega) hst (by have:=HS.out;omega) HE.out) KpL.trans (kpl_b (by omega) (by omega))
      (fun A B ⟨v,h⟩ k hk=>by rw [h];exact Below.heap_setCell A _ _ _ (by simp only;omega)) (Below.refl _ _) (fun _=>rfl)
      (fun pre W=>Boxed W w1.heap.size 71 (.slice (some ⟨w.heap.size,0,none⟩) pre.length N) ∧ (W.ownsRow w.heap.size 9 1 (.slice (some ⟨w.heap.size,0,none⟩) pre.length N) pre.length (pre.map Value.string) ∧ Below w.heap.size W0 W))
      (OwnFrom.and (Own.from (cells_own' _ _ _) _) (OwnFrom.and (ownsRow_from _ _ _ _ _ _ _) (ownFrom_below (by omega) (by omega))))
      (fun s A B ⟨h1,h2,h3⟩ ⟨v,h⟩=>by
        subst h
        exact ⟨(Below.heap_setCell A _ _ _ (by simp only;omega)).trans h1,ownsRow_moved h2 (fun k hk=>Below.heap_setCell A _ _ _ (by have e : w.heap.size = k:=(by simpa [Value.ownBlock] using hk);simp only;omega)),h3.setCell (p:=⟨w1.heap.size + 1,0,none⟩) (by simp only;omega) _⟩)
      ⟨hb0,hr0,Below.refl _ _⟩
      (fun x=>{ tmps:=#[.string a0,undef,.slice none 0 0,.string ⟨#[]⟩,.pointer (some ⟨w1.heap.size,0,none⟩),.string x,.string a0,.int .i64 N,.slice (some ⟨w.heap.size,0,none⟩) 0 N,.string a0,.func (.func 144) #[] #[.pointer (some ⟨w1.heap.size + 1,0,none⟩)],.string x,undef,undef,undef,undef,undef,undef,undef,undef,undef,undef],defers:=[] })
      ?assign ?body ?done
    case assign=>
      intro l x W K hK
      gi_wp2
      exact hK
    case body=>
      rintro l pre x W ⟨hbx,hrow,hB⟩ hlt
      have hlN : pre.length + 1 ≤ N:=by
        obtain ⟨r,hr⟩:=hlt
        rw [← hN,← hr,List.length_append,List.length_cons];omega
      have hc:=hbx.cell
      have hf:=hbx.frozen
      have HB:=Lib.hid hB
      have HR:=Lib.hid hrow
      have HX:=Lib.hid hbx
      have HSZ:=Lib.hid hsz
      have HLT:=Lib.hid hlt1
      clear hB hrow hbx hlt hsz hs1 hr0 hst hb0 hB0 hlt1
      gi_wp2_with (gi_at_builtin;refine wpListIn_append_fits _ rfl _ _ 71 rfl w.heap.size 9 i0 1 Tryz.underlying71 hi hz1 w.heap.size pre.length N (pre.map Value.string) rfl (HR.out.alloc _) ⟨W.heap.size,0,none⟩ 1 1 [.string x] rfl rfl (cell_one_new _ _ _) (by simp [Value.oneCell']) hlN ?_;intro w2 hown2 hgr2;obtain ⟨hv1,hv2,hr2,hk2,hb2⟩:=HX.out.appended (by decide) HR.out (by have:=HB.out.size;have:=HSZ.out;have:=HHS.out;omega) HHS.out hown2 hgr2;have HG2:=Lib.hid hgr2;have HV2:=Lib.hid hv2;have HR2:=Lib.hid hr2;have HK2:=Lib.hid hk2;have HB2:=Lib.hid hb2;have hc1:=hv1.cell;have hf1:=hv1.frozen;clear hv1 hv2 hr2 hk2 hb2 hown2 hgr2)
      have hWs:=HB.out.size
      have hsz:=HSZ.out
      have hlt:=HLT.out
      refine ⟨HK2.out,⟨HB2.out,?_⟩,?_,?_,HB.out.trans HB2.out⟩
      · refine (Below.heap_setCell _ _ _ _ (by simp only;omega)).trans ((HG2.out.block _ (by simp;omega) (by simp [Value.ownBlock];omega)).trans (Below.heap_alloc W _ _ (by omega)))
      · rw [List.length_append];exact HV2.out
      · rw [List.length_append,List.map_append];exact HR2.out
    case done=>
      rintro D xs W hD rfl ⟨hbx,hrow,hB⟩ hK
      rw [hN] at hbx hrow
      have hc:=hbx.cell
      have HR:=Lib.hid hrow
      have HB:=Lib.hid hB
      have HK:=Lib.hid hK
      have HD:=Lib.hid hD
      have HB0:=Lib.hid hB0
      have HSZ:=Lib.hid hsz
      obtain ⟨q1,q2,q3⟩:=restB_last a0
      have HLC:=Lib.hid (last_calls a0 HS.out)
      obtain ⟨x,hx⟩ : ∃ x,Lib.lastIndexByte a0 59 = x:=⟨_,rfl⟩
      rw [hx] at q1 q2 q3 HLC
      have Q3:=Lib.hid q3
      clear hbx hrow hB hK hD hB0 hsz hs1 hr0 hst hb0 hlt1 q3 hx
      have z1 : IntKind.i64.wrap (x + 1) = x + 1:=IntWalk.i64_in _ (by have:=HS.out;omega)
      go_wp2_with fail
      go_quiet ((go_at_call 87;exact Calls.quiet_of_same ((HLC.out _).mono fun _ _ h=>⟨h.1,h.2.symm⟩)))
      go_wp2
      have hDl:=(Array.getElem?_eq_some_iff.1 HK.out).1
      have hbW : Below w.heap.size w ((W.drewN nq).putObj D (.deferred none)):=
        (HB0.out.trans (pw_below_drewN HB.out nq)).trans (belowK_b (w:=w) (Nat.le_refl _) (W.drewN nq) D _ _ (by have:=HD.out;have:=HSZ.out;have:=HHS.out;omega) HK.out rfl rfl)
      refine ⟨by simp,.inl ⟨_,_,rfl,run_takeDeferred (w:=W.drewN nq) HK.out,?_⟩⟩
      refine ⟨_,results_tmp2 rfl _ _ _,⟨_,by rw [Q3.out];rfl,?_,hbW⟩⟩
      have hrow : ((W.drewN nq).putObj D (.deferred none)).ownsRow w.heap.size 9 1 (.slice (some ⟨w.heap.size,0,none⟩) N N) N ((linesB a0).map Value.string):=
        ownsRow_moved HR.out (fun k hk=>by
          have e : w.heap.size = k:=(by simpa [Value.ownBlock] using hk)
          exact World.putObj_heap_other (by have:=HD.out;have:=HSZ.out;have:=HHS.out;omega))
      rw [← hN] at hrow ⊢
      exact Kd.R_of_own (.of_owns hrow) (fun _ _=>trivial)
  · rw [if_neg hs] at h;cases h
end
end Go.Proofs.YtgpolhlmedmloaaGreatDoor.P
