import Derived.Test.YtffmbccgcaghjaaGreatDoorGLawFnRwrStaysx0
namespace Go.Proofs.YtffmbccgcaghjaaGreatDoor.P
open Go.Proofs.YtffmbccgcaghjaaGreatDoorUFnRwrStays.PrintLast Go.Proofs.YtffmbccgcaghjaaGreatDoorUFnRwrStays.PrintMore Go.Proofs.YtffmbccgcaghjaaGreatDoorUFnRwrStays.PrintWords Go.RowKit
set_option linter.unusedVariables false
set_option linter.unusedSimpArgs false
section
attribute [local go_sem] max2_int min2_int max_two min_two max_three min_three max_four min_four
def IsS84 (w0 W : World) (g : Nat) (f0 : List Int) (f1 : Int) : Prop:=∃ A0 c0,W.heap[g]? = some (.cells #[.slice A0 f0.length c0,.int .i64 f1] 84 (0,0)) ∧ w0.heap.size ≤ g ∧ Kd.C (Kd.int .u8) w0 A0 f0.length f0
theorem IsS84.grown {w0 W : World} {g : Nat} {f0 : List Int} {f1 : Int} {W1 : World} {row : Option Nat} (h : IsS84 w0 W g f0 f1) (hw : W.grownBy W1 row) (hne : some g ≠ row) : IsS84 w0 W1 g f0 f1:=by
 obtain ⟨A0,c0,hb,hg,hr0⟩:=h
 exact ⟨A0,c0,blk_grown hb hw hne,hg,hr0⟩
theorem IsS84.own_neN {w0 W : World} {g : Nat} {f0 : List Int} {f1 : Int} {α : Type} {d : Kd α} {e : Nat} {base : Nat} {ok : Nat → Prop} {v : Value} {xs : List α} (h : IsS84 w0 W g f0 f1) (ho : Kd.N d e W base ok v xs) (ht : e ≠ 84) : some g ≠ v.ownBlock:=by
 obtain ⟨A0,c0,hb,hg,hr0⟩:=h
 exact Kd.N_ne ho hb ht
theorem IsS84.fresh {w0 W : World} {g : Nat} {f0 : List Int} {f1 : Int} (h : IsS84 w0 W g f0 f1) : ∀ k,W.heap.size ≤ k → k ≠ g:=by
 obtain ⟨A0,c0,hb,hg,hr0⟩:=h
 exact Kd.freshB hb
theorem IsS84.kept {w0 W : World} {g : Nat} {f0 : List Int} {f1 : Int} {W1 : World} {S : Nat → Prop} (h : IsS84 w0 W g f0 f1) (hk : Kept W W1 S) (hne : ¬ S g) : IsS84 w0 W1 g f0 f1:=by
 obtain ⟨A0,c0,hb,hg,hr0⟩:=h
 exact ⟨A0,c0,blk_kept hb hk hne,hg,hr0⟩
theorem IsS84.below {w0 W : World} {g : Nat} {f0 : List Int} {f1 : Int} {W1 : World} (h : IsS84 w0 W g f0 f1) (hw : Below W.heap.size W W1) : IsS84 w0 W1 g f0 f1:=h.grown (grown_of_below hw none) (by simp)
theorem IsS84.alloc {w0 W : World} {g : Nat} {f0 : List Int} {f1 : Int} (h : IsS84 w0 W g f0 f1) (o : Obj) : IsS84 w0 (W.alloc o) g f0 f1:=h.below (below_alloc (Below.refl _ _) o)
theorem IsS84.drewN {w0 W : World} {g : Nat} {f0 : List Int} {f1 : Int} (h : IsS84 w0 W g f0 f1) (m : Nat) : IsS84 w0 (W.drewN m) g f0 f1:=h
theorem IsS84.drew {w0 W : World} {g : Nat} {f0 : List Int} {f1 : Int} (h : IsS84 w0 W g f0 f1) : IsS84 w0 W.drew g f0 f1:=h
theorem IsS84.at_ {w0 W : World} {g : Nat} {f0 : List Int} {f1 : Int} {w' : World} {m : Nat} (hq : W.drewN m = w') (h : IsS84 w0 W g f0 f1) : IsS84 w0 w' g f0 f1:=by subst hq;exact IsS84.drewN h m
theorem IsS84.apart {w0 W : World} {g : Nat} {f0 : List Int} {f1 : Int} {α : Type} {d : Kd α} {e : Nat} {base : Nat} {ok : Nat → Prop} {v : Value} {xs : List α} (h : IsS84 w0 W g f0 f1) (ho : d.R e W base ok v xs) (ht : ∀ q,q ∈ e :: d.E → q ≠ 84) : d.R e W base (fun k=>ok k ∧ k ≠ g) v xs:=by
 obtain ⟨A0,c0,hb,hg,hr0⟩:=h
 exact Kd.R_types ho hb ht
theorem IsS84.own_ne {w0 W : World} {g : Nat} {f0 : List Int} {f1 : Int} {α : Type} {d : Kd α} {e : Nat} {base : Nat} {ok : Nat → Prop} {v : Value} {xs : List α} (h : IsS84 w0 W g f0 f1) (ho : d.R e W base ok v xs) (ht : e ≠ 84) : some g ≠ v.ownBlock:=by
 obtain ⟨A0,c0,hb,hg,hr0⟩:=h
 exact Kd.R_ne ho hb ht
theorem IsS84.apartQ {w0 W : World} {g : Nat} {f0 : List Int} {f1 : Int} {α : Type} {d : Kd α} {e : Nat} {base : Nat} {ok : Nat → Prop} {v : Value} {xs : List α} (h : IsS84 w0 W g f0 f1) (ho : d.Q e W base ok v xs) (ht : ∀ q,q ∈ e :: d.E → q ≠ 84) : d.Q e W base (fun k=>ok k ∧ k ≠ g) v xs:=by
 obtain ⟨A0,c0,hb,hg,hr0⟩:=h
 exact Kd.Q_types ho hb ht
theorem IsS84.own_neQ {w0 W : World} {g : Nat} {f0 : List Int} {f1 : Int} {α : Type} {d : Kd α} {e : Nat} {base : Nat} {ok : Nat → Prop} {v : Value} {xs : List α} (h : IsS84 w0 W g f0 f1) (ho : d.Q e W base ok v xs) (ht : e ≠ 84) : some g ≠ v.ownBlock:=by
 obtain ⟨A0,c0,hb,hg,hr0⟩:=h
 exact Kd.Q_ne ho hb ht
theorem IsS84.apartS {w0 W : World} {g : Nat} {f0 : List Int} {f1 : Int} {α : Type} {d : Kd α} {e : Nat} {base : Nat} {ok : Nat → Prop} {v : Value} {xs : List α} (h : IsS84 w0 W g f0 f1) (ho : d.S e W base ok v xs) (ht : ∀ q,q ∈ e :: d.E → q ≠ 84) : d.S e W base (fun k=>ok k ∧ k ≠ g) v xs:=by
 obtain ⟨A0,c0,hb,hg,hr0⟩:=h
 exact Kd.S_types ho hb ht
theorem IsS84.own_neS {w0 W : World} {g : Nat} {f0 : List Int} {f1 : Int} {α : Type} {d : Kd α} {e : Nat} {base : Nat} {ok : Nat → Prop} {v : Value} {xs : List α} (h : IsS84 w0 W g f0 f1) (ho : d.S e W base ok v xs) (ht : e ≠ 84) : some g ≠ v.ownBlock:=by
 obtain ⟨A0,c0,hb,hg,hr0⟩:=h
 exact Kd.S_ne ho hb ht
theorem IsS84.lt {w0 W : World} {g : Nat} {f0 : List Int} {f1 : Int} (h : IsS84 w0 W g f0 f1) : g < W.heap.size:=by
 obtain ⟨A0,c0,hb,hg,hr0⟩:=h
 exact blk_lt hb
theorem IsS84.ge {w0 W : World} {g : Nat} {f0 : List Int} {f1 : Int} (h : IsS84 w0 W g f0 f1) : w0.heap.size ≤ g:=by
 obtain ⟨A0,c0,hb,hg,hr0⟩:=h
 exact hg
theorem IsS84.ne_blk {w0 W : World} {g : Nat} {f0 : List Int} {f1 : Int} {a : Nat} {cs : Array Value} {t : TypeId} {fr : Nat × Nat} (h : IsS84 w0 W g f0 f1) (hb2 : W.heap[a]? = some (.cells cs t fr)) (ht : t ≠ 84) : g ≠ a:=by
 obtain ⟨A0,c0,hb,hg,hr0⟩:=h
 rintro rfl
 rw [hb] at hb2
 injection hb2 with hb2
 injection hb2 with _ ht2
 exact ht ht2.symm
theorem IsS84.far {w0 W : World} {g : Nat} {f0 : List Int} {f1 : Int} {p : Addr} (h : IsS84 w0 W g f0 f1) (hne : g ≠ p.block) (u : Value) : IsS84 w0 (W.setCell p u) g f0 f1:=by
 obtain ⟨A0,c0,hb,hg,hr0⟩:=h
 exact ⟨A0,c0,blk_far hb hne u,hg,hr0⟩
theorem cellS84_0 {W : World} {g : Nat} {A0 : Option Addr} {c0 : Nat} {f0 : List Int} {f1 : Int} (h : W.heap[g]? = some (.cells #[.slice A0 f0.length c0,.int .i64 f1] 84 (0,0))) : W.cell? ⟨g,0,none⟩ = some (.slice A0 f0.length c0):=(blk_cell h 0).trans rfl
theorem cellS84_1 {W : World} {g : Nat} {A0 : Option Addr} {c0 : Nat} {f0 : List Int} {f1 : Int} (h : W.heap[g]? = some (.cells #[.slice A0 f0.length c0,.int .i64 f1] 84 (0,0))) : W.cell? ⟨g,1,none⟩ = some (.int .i64 f1):=(blk_cell h 1).trans rfl
theorem IsS84.set_1 {w0 W : World} {g : Nat} {f0 : List Int} {f1 : Int} (h : IsS84 w0 W g f0 f1) (x : Int) : IsS84 w0 (W.setCell ⟨g,1,none⟩ (.int .i64 x)) g f0 x:=by
 obtain ⟨A0,c0,hb,hg,hr0⟩:=h
 exact ⟨A0,c0,by simpa using blk_set hb 1 (.int .i64 x),hg,hr0⟩
theorem IsS84.new (w0 W : World) (A0 : Option Addr) (c0 : Nat) (f0 : List Int) (f1 : Int) (hB : Below w0.heap.size w0 W) (hr0 : Kd.C (Kd.int .u8) w0 A0 f0.length f0) : IsS84 w0 (W.alloc (.cells #[.slice A0 f0.length c0,.int .i64 f1] 84)) W.heap.size f0 f1:=⟨A0,c0,by simpa using heap_alloc_new W _,hB.size,hr0⟩
def spec_l20Open.f (l0 : List Int) : Option (List Int × Int):=if (l0.length : Int) > 2000 then (if 2000 ≤ (l0.length : Int) then (some (l0.take 2000,0)) else (none)) else (some (l0,0))
set_option maxHeartbeats 8000000 in
set_option maxRecDepth 100000 in
theorem spec_l20Open.calls (A0 : Option Addr) (c0 : Nat) (l0 : List Int) (r1 : List Int) (r2 : Int) (w0 w : World) (hB : Below w0.heap.size w0 w) (hr0 : Kd.C (Kd.int .u8) w0 A0 l0.length l0) (hc0 : l0.length ≤ c0) (h : spec_l20Open.f l0 = some (r1,r2)) :
  Calls Tryz.prog 40 #[.slice A0 l0.length c0] w fun e w'=>∃ g_ : Nat,e = .returned (.pointer (some ⟨g_,0,none⟩)) ∧ IsS84 w0 w' g_ r1 r2 ∧ Below w0.heap.size w0 w' ∧ Below w.heap.size w w':=by
 have hu84:=Tryz.underlying84
 have HR0:=am hr0
 have HC0:=am hc0
 clear hr0 hc0
 have HBW:=am (Below.refl w.heap.size w)
 have HW0:=am hB.size
 have HB:=am hB
 clear hB
 have H : (if (l0.length : Int) > 2000 then (if 2000 ≤ (l0.length : Int) then (some (l0.take 2000,0)) else (none)) else (some (l0,0))) = some (r1,r2):=h
 clear h
 by_cases c2 : (l0.length : Int) > 2000
 ·rw [if_pos c2] at H
  have c2b0 : decide (2000 < (l0.length : Int)) = true:=decide_eq_true c2
  have c2b1 : decide (2000 < l0.length) = true:=decide_eq_true (by omega)
  clear c2
  by_cases c3 : 2000 ≤ (l0.length : Int)
  ·rw [if_pos c3] at H
   have c3b0:=eq_true c3
   have c3b1 : decide (2000 ≤ (l0.length : Int)) = true:=decide_eq_true c3
   clear c3
   simp only [Option.some.injEq,Prod.mk.injEq] at H
   obtain ⟨rfl,rfl⟩:=H
   obtain ⟨i04,hi04,_,hsz4,_⟩:=info_parts info5
   obtain ⟨hcut4,hA4,hC4⟩:=print_take_of (P:=Tryz.prog) (Value.int .u8) 0 22 5 .i64 Tryz.underlying22 hi04 hsz4 A0 c0 l0 2000 (by omega) (of_decide_eq_true da_) HC0.out
   have HR101:=am (Kd.C_of_reads (h1:=fun _=>rfl) (hA4 _ (Kd.reads_of_C HR0.out)))
   have HC101:=am hC4
   clear hA4 hC4 hi04 hsz4
   go_enter Tryz.func40,Tryz.ntmps40
   go_wp2_with (first | ((with_reducible refine gD 10 rfl ?_);refine box_event rfl (N:=10) rfl (cs:=#[.slice A0 (l0.take 2000).length c0,.int .i64 0]) (t:=84) hr_ ?_;intro gb102 hg w5 hbox hb;replace HB:=hbS HB hb;have BK102:=am hbox;have GW102:=am ((by rw [hg];exact (below_size m21_) : w.heap.size ≤ gb102));have GE102:=am ((Nat.le_trans HW0.out (by rw [hg];exact (below_size m21_) : w.heap.size ≤ gb102) : w0.heap.size ≤ gb102));replace HBW:=am (below_step HBW.out hb);clear hb hbox hg))
   go_ret
   exact ⟨_,rfl,(show IsS84 w0 _ gb102 (l0.take 2000) 0 from ⟨_,_,by (with_reducible repeat refine bu ?_);exact BK102.out,GE102.out,HR101.out⟩),m2_,m22_⟩
  ·rw [if_neg c3] at H
   exact absurd H (by simp)
 ·rw [if_neg c2] at H
  have c2b0 : decide (2000 < (l0.length : Int)) = false:=decide_eq_false c2
  have c2b1 : decide (2000 < l0.length) = false:=decide_eq_false (by omega)
  clear c2
  simp only [Option.some.injEq,Prod.mk.injEq] at H
  obtain ⟨rfl,rfl⟩:=H
  go_enter Tryz.func40,Tryz.ntmps40
  go_wp2_with (first | ((with_reducible refine gD 10 rfl ?_);refine box_event rfl (N:=10) rfl (cs:=#[.slice A0 l0.length c0,.int .i64 0]) (t:=84) hr_ ?_;intro gb103 hg w6 hbox hb;replace HB:=hbS HB hb;have BK103:=am hbox;have GW103:=am ((by rw [hg];exact (below_size m21_) : w.heap.size ≤ gb103));have GE103:=am ((Nat.le_trans HW0.out (by rw [hg];exact (below_size m21_) : w.heap.size ≤ gb103) : w0.heap.size ≤ gb103));replace HBW:=am (below_step HBW.out hb);clear hb hbox hg))
  go_ret
  exact ⟨_,rfl,(show IsS84 w0 _ gb103 l0 0 from ⟨_,_,by (with_reducible repeat refine bu ?_);exact BK103.out,GE103.out,HR0.out⟩),m2_,m22_⟩
def spec_l20Rd_pick.j0 : Nat → Int → Bool → List Int → Int → Option (Int × Int)
 | 0,_,_,_,_=>none
 | k + 1,x1,x24,x1000,x1001=>if x24 = true then (some (0,x1001)) else (if (wrap64 (x1001 - 1)) < (x1000.length : Int) then (if 0 ≤ (wrap64 (x1001 - 1)) then (if x1 = 0 then (none) else (some (Int.tmod (wrap64 (rd x1000 (wrap64 (x1001 - 1)))) x1,x1001))) else (none)) else (if (x1000.length : Int) = 0 then (none) else (if 0 ≤ (Int.tmod (wrap64 (x1001 - 1)) (x1000.length : Int)) then (if (Int.tmod (wrap64 (x1001 - 1)) (x1000.length : Int)) < (x1000.length : Int) then (if 0 ≤ (Int.tmod (wrap64 ((wrap64 ((wrap64 (x1001 - 1)) * 7)) + 3)) (x1000.length : Int)) then (if (Int.tmod (wrap64 ((wrap64 ((wrap64 (x1001 - 1)) * 7)) + 3)) (x1000.length : Int)) < (x1000.length : Int) then (if x1 = 0 then (none) else (some (Int.tmod (Go.bits .xor .i64 (wrap64 ((wrap64 ((wrap64 ((wrap64 ((wrap64 (rd x1000 (Int.tmod (wrap64 (x1001 - 1)) (x1000.length : Int)))) * 131)) + (wrap64 ((wrap64 (rd x1000 (Int.tmod (wrap64 ((wrap64 ((wrap64 (x1001 - 1)) * 7)) + 3)) (x1000.length : Int)))) * 1117)))) + (wrap64 ((wrap64 (x1001 - 1)) * 29)))) + (wrap64 ((wrap64 (Int.tdiv (wrap64 (x1001 - 1)) (x1000.length : Int))) * 53)))) (wrap64 (Int.tdiv (wrap64 ((wrap64 ((wrap64 ((wrap64 ((wrap64 (rd x1000 (Int.tmod (wrap64 (x1001 - 1)) (x1000.length : Int)))) * 131)) + (wrap64 ((wrap64 (rd x1000 (Int.tmod (wrap64 ((wrap64 ((wrap64 (x1001 - 1)) * 7)) + 3)) (x1000.length : Int)))) * 1117)))) + (wrap64 ((wrap64 (x1001 - 1)) * 29)))) + (wrap64 ((wrap64 (Int.tdiv (wrap64 (x1001 - 1)) (x1000.length : Int))) * 53)))) 64))) x1,x1001))) else (none)) else (none)) else (none)) else (none))))
def spec_l20Rd_pick.f (k : Nat) (s0_0 : List Int) (s0_1 : Int) (a1 : Int) : Option (Int × Int):=if a1 < 1 then (spec_l20Rd_pick.j0 k a1 true s0_0 (wrap64 (s0_1 + 1))) else (spec_l20Rd_pick.j0 k a1 ((s0_0.length : Int) == 0) s0_0 (wrap64 (s0_1 + 1)))
theorem spec_l20Rd_pick.mono_l : ∀ k,(∀ y0 y1 y2 y3,LeO (spec_l20Rd_pick.j0 k y0 y1 y2 y3) (spec_l20Rd_pick.j0 (k + 1) y0 y1 y2 y3))
 | 0=>fun _ _ _ _ r h=>by simp [spec_l20Rd_pick.j0] at h
 | k + 1=>by
  have ih0:=spec_l20Rd_pick.mono_l k
  ·intro y0 y1 y2 y3
   unfold spec_l20Rd_pick.j0
   repeat' first | (with_reducible first | exact ih0 _ _ _ _ | exact LeO.refl _ | exact LeO.none _ | refine LeO.ite ?_ ?_ | refine LeO.bind ?_ (fun _=>?_)) | exact ih0 _ _ _ _ | exact LeO.none _ | refine LeO.ite ?_ ?_ | refine LeO.bind ?_ (fun _=>?_)
theorem spec_l20Rd_pick.mono : ∀ a0 a1 a2 k,LeO (spec_l20Rd_pick.f k a0 a1 a2) (spec_l20Rd_pick.f (k + 1) a0 a1 a2):=by
 intro a0 a1 a2 k
 have ih0:=spec_l20Rd_pick.mono_l k
 unfold spec_l20Rd_pick.f
 repeat' first | (with_reducible first | exact ih0 _ _ _ _ | exact LeO.refl _ | exact LeO.none _ | refine LeO.ite ?_ ?_ | refine LeO.bind ?_ (fun _=>?_)) | exact ih0 _ _ _ _ | exact LeO.none _ | refine LeO.ite ?_ ?_ | refine LeO.bind ?_ (fun _=>?_)
set_option maxHeartbeats 8000000 in
set_option maxRecDepth 100000 in
theorem spec_l20Rd_pick.calls (k : Nat) (g : Nat) (s0_0 : List Int) (s0_1 : Int) (a1 : Int) (r1 : Int) (r2 : Int) (w0 w : World) (hI : IsS84 w0 w g s0_0 s0_1) (hB : Below w0.heap.size w0 w) (h : spec_l20Rd_pick.f k s0_0 s0_1 a1 = some (r1,r2)) :
  Calls Tryz.prog 63 #[.pointer (some ⟨g,0,none⟩),.int .i64 a1] w fun e w'=>e = .returned (.int .i64 r1) ∧ IsS84 w0 w' g s0_0 r2 ∧ Below w0.heap.size w0 w' ∧ KeepBut w w' g none:=by
 have HI0:=am hI
 have HK:=am (KeepBut.refl w g none)
 have HL:=am hB.size
 clear hI
 have HW0:=am hB.size
 have HB:=am hB
 clear hB
 have H : (if a1 < 1 then (spec_l20Rd_pick.j0 k a1 true s0_0 (wrap64 (s0_1 + 1))) else (spec_l20Rd_pick.j0 k a1 ((s0_0.length : Int) == 0) s0_0 (wrap64 (s0_1 + 1)))) = some (r1,r2):=h
 clear h
 have HC3:=am H
 clear H
 obtain ⟨ASz4_0,cSz4_0,HGz4,hgz4,HSz4_0⟩:=HI0.out
 have hcz4_0:=cellS84_0 HGz4
 have hcz4_1:=cellS84_1 HGz4
 have hfz4_1:=blk_frozen HGz4 1
 clear HGz4 hgz4
 go_enter Tryz.func63,Tryz.ntmps63
 go_upto_region 2 with (fail)
 repeat (go_quiet (fail);go_upto_region 2 with (fail))
 go_cut [24] (fun v24 wc=>∃ (kq : Nat) (x24_2 : Bool),v24 = .bool x24_2 ∧ Aside0 (spec_l20Rd_pick.j0 kq a1 x24_2 s0_0 (wrap64 (s0_1 + 1)) = some (r1,r2)) ∧ Aside0 (kq ≤ k) ∧ Aside0 (IsS84 w0 wc g s0_0 (wrap64 (s0_1 + 1))) ∧ Aside0 (KeepBut w wc g none) ∧ Aside0 (Below w0.heap.size w0 wc))
 case first=>
  have H:=HC3.out
  clear HC3
  by_cases c5 : a1 < 1
  ·rw [if_pos c5] at H
   have c5b0 : decide (a1 < 1) = true:=decide_eq_true c5
   clear c5
   (first | rw [c5b0] | (simp only [i64_w,i32_w];rw [c5b0]) | skip)
   have H':=am H
   clear H
   go_wp2
   repeat (go_quiet (fail);try go_wp2)
   go_meet
   case rel=>exact ⟨_,(true),rs_,H',⟨by first | omega | exact Nat.le_refl _⟩,⟨m25_⟩,⟨m24_⟩,⟨m23_⟩⟩
  ·rw [if_neg c5] at H
   have c5b0 : decide (a1 < 1) = false:=decide_eq_false c5
   clear c5
   (first | rw [c5b0] | (simp only [i64_w,i32_w];rw [c5b0]) | skip)
   have H':=am H
   clear H
   obtain ⟨ASz6_0,cSz6_0,HGz6,hgz6,HSz6_0⟩:=HI0.out
   have hcz6_0:=cellS84_0 HGz6
   have hcz6_1:=cellS84_1 HGz6
   have hfz6_1:=blk_frozen HGz6 1
   clear HGz6 hgz6
   go_wp2
   repeat (go_quiet (fail);try go_wp2)
   go_meet
   case rel=>exact ⟨_,(((s0_0.length : Int) == 0)),rs_,H',⟨by first | omega | exact Nat.le_refl _⟩,⟨m25_⟩,⟨m24_⟩,⟨m23_⟩⟩
 case rest=>
  clear HC3
  try clear p2
  try clear c5
  try clear c5b0
  try clear c6
  try clear p6
  try clear hcz4_0
  try clear hcz4_1
  try clear hcz6_0
  try clear hcz6_1
  try clear hfz4_1
  try clear hfz6_1
  obtain ⟨kq,x24_2,rfl,HA,HJ2,HI0,HK,HB⟩:=hcut
  cases kq with
  | zero=>exact absurd HA.out (by simp [spec_l20Rd_pick.j0])
  | succ kj2=>
   have H:=HA.out
   clear HA
   simp only [spec_l20Rd_pick.j0] at H
   by_cases c7 : x24_2 = true
   ·subst c7
    have H1 : (some (0,(wrap64 (s0_1 + 1)))) = some (r1,r2):=by rw [if_pos rfl] at H;exact H
    clear H
    have H:=H1
    clear H1
    simp only [Option.some.injEq,Prod.mk.injEq] at H
    obtain ⟨rfl,rfl⟩:=H
    go_wp2
    repeat (go_quiet (fail);try go_wp2)
    go_ret
    exact ⟨fi_,m25_,m23_,m24_⟩
   ·replace c7:=Bool.eq_false_iff.mpr c7
    subst c7
    have H1 : (if (wrap64 ((wrap64 (s0_1 + 1)) - 1)) < (s0_0.length : Int) then (if 0 ≤ (wrap64 ((wrap64 (s0_1 + 1)) - 1)) then (if a1 = 0 then (none) else (some (Int.tmod (wrap64 (rd s0_0 (wrap64 ((wrap64 (s0_1 + 1)) - 1)))) a1,(wrap64 (s0_1 + 1))))) else (none)) else (if (s0_0.length : Int) = 0 then (none) else (if 0 ≤ (Int.tmod (wrap64 ((wrap64 (s0_1 + 1)) - 1)) (s0_0.length : Int)) then (if (Int.tmod (wrap64 ((wrap64 (s0_1 + 1)) - 1)) (s0_0.length : Int)) < (s0_0.length : Int) then (if 0 ≤ (Int.tmod (wrap64 ((wrap64 ((wrap64 ((wrap64 (s0_1 + 1)) - 1)) * 7)) + 3)) (s0_0.length : Int)) then (if (Int.tmod (wrap64 ((wrap64 ((wrap64 ((wrap64 (s0_1 + 1)) - 1)) * 7)) + 3)) (s0_0.length : Int)) < (s0_0.length : Int) then (if a1 = 0 then (none) else (some (Int.tmod (Go.bits .xor .i64 (wrap64 ((wrap64 ((wrap64 ((wrap64 ((wrap64 (rd s0_0 (Int.tmod (wrap64 ((wrap64 (s0_1 + 1)) - 1)) (s0_0.length : Int)))) * 131)) + (wrap64 ((wrap64 (rd s0_0 (Int.tmod (wrap64 ((wrap64 ((wrap64 ((wrap64 (s0_1 + 1)) - 1)) * 7)) + 3)) (s0_0.length : Int)))) * 1117)))) + (wrap64 ((wrap64 ((wrap64 (s0_1 + 1)) - 1)) * 29)))) + (wrap64 ((wrap64 (Int.tdiv (wrap64 ((wrap64 (s0_1 + 1)) - 1)) (s0_0.length : Int))) * 53)))) (wrap64 (Int.tdiv (wrap64 ((wrap64 ((wrap64 ((wrap64 ((wrap64 (rd s0_0 (Int.tmod (wrap64 ((wrap64 (s0_1 + 1)) - 1)) (s0_0.length : Int)))) * 131)) + (wrap64 ((wrap64 (rd s0_0 (Int.tmod (wrap64 ((wrap64 ((wrap64 ((wrap64 (s0_1 + 1)) - 1)) * 7)) + 3)) (s0_0.length : Int)))) * 1117)))) + (wrap64 ((wrap64 ((wrap64 (s0_1 + 1)) - 1)) * 29)))) + (wrap64 ((wrap64 (Int.tdiv (wrap64 ((wrap64 (s0_1 + 1)) - 1)) (s0_0.length : Int))) * 53)))) 64))) a1,(wrap64 (s0_1 + 1))))) else (none)) else (none)) else (none)) else (none)))) = some (r1,r2):=by rw [if_neg (show ¬ (false = true) by decide)] at H;exact H
    clear H
    have H:=H1
    clear H1
    by_cases c8 : (wrap64 ((wrap64 (s0_1 + 1)) - 1)) < (s0_0.length : Int)
    ·rw [if_pos c8] at H
     have c8b0 : decide ((wrap64 ((wrap64 (s0_1 + 1)) - 1)) < (s0_0.length : Int)) = true:=decide_eq_true c8
     clear c8
     obtain ⟨ji9,hji9⟩ : ∃ j_ : Int,(wrap64 ((wrap64 (s0_1 + 1)) - 1)) = j_:=⟨_,rfl⟩
     replace H : (if 0 ≤ (ji9) then (if a1 = 0 then (none) else (some (Int.tmod (wrap64 (rd s0_0 (ji9))) a1,(wrap64 (s0_1 + 1))))) else (none)) = some (r1,r2):=by first | (rw [hji9] at H;exact H) | (simp only [hji9] at H ⊢;exact H)
     (try rw [hji9] at c8b0)
     have hji9w : (IntKind.i64.wrap ((wrap64 (s0_1 + 1)) - 1)) = ji9:=(i64_w _).trans hji9
     by_cases c10 : 0 ≤ (ji9)
     ·rw [if_pos c10] at H
      have c10b0 : decide (0 ≤ (ji9)) = true:=decide_eq_true c10
      clear c10
      by_cases c11 : a1 = 0
      ·rw [if_pos c11] at H
       exact absurd H (by simp)
      ·rw [if_neg c11] at H
       have c11b0 : (a1 == 0) = false:=beq_eq_false_iff_ne.mpr c11
       have c11b1 : (a1 != 0) = true:=bne_iff_ne.mpr c11
       simp only [Option.some.injEq,Prod.mk.injEq] at H
       obtain ⟨rfl,rfl⟩:=H
       obtain ⟨ASz12_0,cSz12_0,HGz12,hgz12,HSz12_0⟩:=HI0.out
       have:=cellS84_0 HGz12
       have:=cellS84_1 HGz12
       have:=blk_frozen HGz12 1
       clear HGz12 hgz12
       have p104 : 0 ≤ ((ji9) : Int):=of_decide_eq_true da_
       have q104 : (ji9) < (s0_0.length : Int):=of_decide_eq_true da_
       obtain ⟨ad104,e104,hx104_0⟩:=Kd.at_int HSz12_0 (ji9) p104 q104
       cases e104
       replace hx104_0:=pw_cell_below HB.out hx104_0
       replace p104:=eq_true p104
       replace q104:=eq_true q104
       go_wp2
       repeat (go_quiet (fail);try go_wp2)
       go_ret
       exact ⟨by first | rfl | (simp [errW_none,errW_some] <;> rfl) | (simp only [← hji9];first | rfl | (simp [errW_none,errW_some] <;> rfl)) | (simp [*,errW_none,errW_some] <;> rfl),m25_,m23_,m24_⟩
     ·rw [if_neg c10] at H
      exact absurd H (by simp)
    ·rw [if_neg c8] at H
     have c8b0 : decide ((wrap64 ((wrap64 (s0_1 + 1)) - 1)) < (s0_0.length : Int)) = false:=decide_eq_false c8
     clear c8
     by_cases c13 : (s0_0.length : Int) = 0
     ·rw [if_pos c13] at H
      exact absurd H (by simp)
     ·rw [if_neg c13] at H
      have c13b0 : ((s0_0.length : Int) == 0) = false:=beq_eq_false_iff_ne.mpr c13
      have c13b1 : ((s0_0.length : Int) != 0) = true:=bne_iff_ne.mpr c13
      have c13b2 : ¬ (s0_0 = []):=fun h_=>c13 (by rw [h_];rfl)
      obtain ⟨ji14,hji14⟩ : ∃ j_ : Int,(Int.tmod (wrap64 ((wrap64 (s0_1 + 1)) - 1)) (s0_0.length : Int)) = j_:=⟨_,rfl⟩
      replace H : (if 0 ≤ (ji14) then (if (ji14) < (s0_0.length : Int) then (if 0 ≤ (Int.tmod (wrap64 ((wrap64 ((wrap64 ((wrap64 (s0_1 + 1)) - 1)) * 7)) + 3)) (s0_0.length : Int)) then (if (Int.tmod (wrap64 ((wrap64 ((wrap64 ((wrap64 (s0_1 + 1)) - 1)) * 7)) + 3)) (s0_0.length : Int)) < (s0_0.length : Int) then (if a1 = 0 then (none) else (some (Int.tmod (Go.bits .xor .i64 (wrap64 ((wrap64 ((wrap64 ((wrap64 ((wrap64 (rd s0_0 (ji14))) * 131)) + (wrap64 ((wrap64 (rd s0_0 (Int.tmod (wrap64 ((wrap64 ((wrap64 ((wrap64 (s0_1 + 1)) - 1)) * 7)) + 3)) (s0_0.length : Int)))) * 1117)))) + (wrap64 ((wrap64 ((wrap64 (s0_1 + 1)) - 1)) * 29)))) + (wrap64 ((wrap64 (Int.tdiv (wrap64 ((wrap64 (s0_1 + 1)) - 1)) (s0_0.length : Int))) * 53)))) (wrap64 (Int.tdiv (wrap64 ((wrap64 ((wrap64 ((wrap64 ((wrap64 (rd s0_0 (ji14))) * 131)) + (wrap64 ((wrap64 (rd s0_0 (Int.tmod (wrap64 ((wrap64 ((wrap64 ((wrap64 (s0_1 + 1)) - 1)) * 7)) + 3)) (s0_0.length : Int)))) * 1117)))) + (wrap64 ((wrap64 ((wrap64 (s0_1 + 1)) - 1)) * 29)))) + (wrap64 ((wrap64 (Int.tdiv (wrap64 ((wrap64 (s0_1 + 1)) - 1)) (s0_0.length : Int))) * 53)))) 64))) a1,(wrap64 (s0_1 + 1))))) else (none)) else (none)) else (none)) else (none)) = some (r1,r2):=by first | (rw [hji14] at H;exact H) | (simp only [hji14] at H ⊢;exact H)
      by_cases c15 : 0 ≤ (ji14)
      ·rw [if_pos c15] at H
       have c15b0 : decide (0 ≤ (ji14)) = true:=decide_eq_true c15
       clear c15
       by_cases c16 : (ji14) < (s0_0.length : Int)
       ·rw [if_pos c16] at H
        have c16b0 : decide ((ji14) < (s0_0.length : Int)) = true:=decide_eq_true c16
        clear c16
        obtain ⟨ji17,hji17⟩ : ∃ j_ : Int,(Int.tmod (wrap64 ((wrap64 ((wrap64 ((wrap64 (s0_1 + 1)) - 1)) * 7)) + 3)) (s0_0.length : Int)) = j_:=⟨_,rfl⟩
        replace H : (if 0 ≤ (ji17) then (if (ji17) < (s0_0.length : Int) then (if a1 = 0 then (none) else (some (Int.tmod (Go.bits .xor .i64 (wrap64 ((wrap64 ((wrap64 ((wrap64 ((wrap64 (rd s0_0 (ji14))) * 131)) + (wrap64 ((wrap64 (rd s0_0 (ji17))) * 1117)))) + (wrap64 ((wrap64 ((wrap64 (s0_1 + 1)) - 1)) * 29)))) + (wrap64 ((wrap64 (Int.tdiv (wrap64 ((wrap64 (s0_1 + 1)) - 1)) (s0_0.length : Int))) * 53)))) (wrap64 (Int.tdiv (wrap64 ((wrap64 ((wrap64 ((wrap64 ((wrap64 (rd s0_0 (ji14))) * 131)) + (wrap64 ((wrap64 (rd s0_0 (ji17))) * 1117)))) + (wrap64 ((wrap64 ((wrap64 (s0_1 + 1)) - 1)) * 29)))) + (wrap64 ((wrap64 (Int.tdiv (wrap64 ((wrap64 (s0_1 + 1)) - 1)) (s0_0.length : Int))) * 53)))) 64))) a1,(wrap64 (s0_1 + 1))))) else (none)) else (none)) = some (r1,r2):=by first | (rw [hji17] at H;exact H) | (simp only [hji17] at H ⊢;exact H)
        by_cases c18 : 0 ≤ (ji17)
        ·rw [if_pos c18] at H
         have c18b0 : decide (0 ≤ (ji17)) = true:=decide_eq_true c18
         clear c18
         by_cases c19 : (ji17) < (s0_0.length : Int)
         ·rw [if_pos c19] at H
          have c19b0 : decide ((ji17) < (s0_0.length : Int)) = true:=decide_eq_true c19
          clear c19
          by_cases c20 : a1 = 0
          ·rw [if_pos c20] at H
           exact absurd H (by simp)
          ·rw [if_neg c20] at H
           have c20b0 : (a1 == 0) = false:=beq_eq_false_iff_ne.mpr c20
           have c20b1 : (a1 != 0) = true:=bne_iff_ne.mpr c20
           simp only [Option.some.injEq,Prod.mk.injEq] at H
           obtain ⟨rfl,rfl⟩:=H
           obtain ⟨ASz21_0,cSz21_0,HGz21,hgz21,HSz21_0⟩:=HI0.out
           have:=cellS84_0 HGz21
           have:=cellS84_1 HGz21
           have:=blk_frozen HGz21 1
           clear HGz21 hgz21
           have p105 : 0 ≤ ((ji14) : Int):=of_decide_eq_true da_
           have q105 : (ji14) < (s0_0.length : Int):=of_decide_eq_true da_
           obtain ⟨ad105,e105,hx105_0⟩:=Kd.at_int HSz21_0 (ji14) p105 q105
           cases e105
           replace hx105_0:=pw_cell_below HB.out hx105_0
           replace p105:=eq_true p105
           replace q105:=eq_true q105
           have p106 : 0 ≤ ((ji17) : Int):=of_decide_eq_true da_
           have q106 : (ji17) < (s0_0.length : Int):=of_decide_eq_true da_
           obtain ⟨ad106,e106,hx106_0⟩:=Kd.at_int HSz21_0 (ji17) p106 q106
           obtain rfl : ad105 = ad106:=(by injection e106)
           replace hx106_0:=pw_cell_below HB.out hx106_0
           replace p106:=eq_true p106
           replace q106:=eq_true q106
           go_wp2
           repeat (go_quiet (fail);try go_wp2)
           go_ret
           exact ⟨by first | rfl | (simp [errW_none,errW_some] <;> rfl) | (simp only [← hji14,← hji17];first | rfl | (simp [errW_none,errW_some] <;> rfl)) | (simp [*,errW_none,errW_some] <;> rfl),m25_,m23_,m24_⟩
         ·rw [if_neg c19] at H
          exact absurd H (by simp)
        ·rw [if_neg c18] at H
         exact absurd H (by simp)
       ·rw [if_neg c16] at H
        exact absurd H (by simp)
      ·rw [if_neg c15] at H
       exact absurd H (by simp)
def spec_l20Rd_odd.f (k : Nat) (s0_0 : List Int) (s0_1 : Int) (a1 : Int) : Option (Bool × Int):=if a1 < 9000 then ((spec_l20Rd_pick.f k s0_0 s0_1 a1).bind fun bt107=>(some ((bt107.1 == (wrap64 (a1 - 1))),bt107.2))) else (some (false,s0_1))
theorem spec_l20Rd_odd.mono : ∀ a0 a1 a2 k,LeO (spec_l20Rd_odd.f k a0 a1 a2) (spec_l20Rd_odd.f (k + 1) a0 a1 a2):=by
 intro a0 a1 a2 k
 unfold spec_l20Rd_odd.f
 repeat' first | (with_reducible first | exact spec_l20Rd_pick.mono _ _ _ _ | exact LeO.refl _ | exact LeO.none _ | refine LeO.ite ?_ ?_ | refine LeO.bind ?_ (fun _=>?_)) | exact spec_l20Rd_pick.mono _ _ _ _ | exact LeO.none _ | refine LeO.ite ?_ ?_ | refine LeO.bind ?_ (fun _=>?_)
set_option maxHeartbeats 8000000 in
set_option maxRecDepth 100000 in
theorem spec_l20Rd_odd.calls (k : Nat) (g : Nat) (s0_0 : List Int) (s0_1 : Int) (a1 : Int) (r1 : Bool) (r2 : Int) (w0 w : World) (hI : IsS84 w0 w g s0_0 s0_1) (hB : Below w0.heap.size w0 w) (h : spec_l20Rd_odd.f k s0_0 s0_1 a1 = some (r1,r2)) :
  Calls Tryz.prog 43 #[.pointer (some ⟨g,0,none⟩),.int .i64 a1] w fun e w'=>e = .returned (.bool r1) ∧ IsS84 w0 w' g s0_0 r2 ∧ Below w0.heap.size w0 w' ∧ KeepBut w w' g none:=by
 have HI0:=am hI
 have HK:=am (KeepBut.refl w g none)
 have HL:=am hB.size
 clear hI
 have HW0:=am hB.size
 have HB:=am hB
 clear hB
 have H : (if a1 < 9000 then ((spec_l20Rd_pick.f k s0_0 s0_1 a1).bind fun bt107=>(some ((bt107.1 == (wrap64 (a1 - 1))),bt107.2))) else (some (false,s0_1))) = some (r1,r2):=h
 clear h
 by_cases c3 : a1 < 9000
 ·rw [if_pos c3] at H
  have c3b0 : decide (a1 < 9000) = true:=decide_eq_true c3
  clear c3
  obtain ⟨⟨t107,t108⟩,A4,H⟩:=bse H
  try dsimp only at H
  simp only [Option.some.injEq,Prod.mk.injEq] at H
  obtain ⟨rfl,rfl⟩:=H
  go_enter Tryz.func43,Tryz.ntmps43
  go_wp2_with (first | (go_at_call 63;(with_reducible refine (spec_l20Rd_pick.calls k g s0_0 s0_1 a1 t107 t108 w0 _ ?side1 ?side2 A4.out).mono ?_);(case side1=>exact m25_);(case side2=>exact m23_);rintro e w5 ⟨rfl,hi,hb,hk⟩;replace HK:=am (KeepBut.trans m24_ hk (.inl rfl));replace HB:=am hb;replace HI0:=am hi;(try clear hb);(try clear hk);(try clear hi)))
  go_ret
  exact ⟨fi_,m25_,m23_,m24_⟩
 ·rw [if_neg c3] at H
  have c3b0 : decide (a1 < 9000) = false:=decide_eq_false c3
  clear c3
  simp only [Option.some.injEq,Prod.mk.injEq] at H
  obtain ⟨rfl,rfl⟩:=H
  go_enter Tryz.func43,Tryz.ntmps43
  go_wp2
  go_ret
  exact ⟨fi_,m25_,m23_,m24_⟩
def spec_l3Copy.f (l0_0 : List (S34)) : Option ((List (S34))):=(some (([] : List (S34)) : List (S34))).bind fun y126=>(if y126.length + l0_0.length < 8796093022208 then (some (y126 ++ l0_0)) else (none))
set_option maxHeartbeats 8000000 in
set_option maxRecDepth 100000 in
theorem spec_l3Copy.calls (A0_0 : Option Addr) (c0_0 : Nat) (l0_0 : List (S34)) (r : List (S34)) (w : World) (hr0_0 : Kd.C k34 w A0_0 l0_0.length l0_0) (hc0_0 : l0_0.length ≤ c0_0) (h : spec_l3Copy.f l0_0 = some r) :
  Calls Tryz.prog 47 #[.agg #[.slice A0_0 l0_0.length c0_0]] w fun e w'=>∃ v0_ : Value,e = .returned (.agg #[v0_]) ∧ Kd.R k34 34 w' w.heap.size (fun _=>True) v0_ r ∧ Below w.heap.size w w':=by
 have hu25:=Tryz.underlying25
 have HR0_0:=am hr0_0
 have HC0_0:=am hc0_0
 clear hr0_0 hc0_0
 have HB:=am (Below.refl w.heap.size w)
 have H : ((some (([] : List (S34)) : List (S34))).bind fun y126=>(if y126.length + l0_0.length < 8796093022208 then (some (y126 ++ l0_0)) else (none))) = some r:=h
 clear h
 obtain ⟨y126,hy126⟩ : ∃ y_ : List (S34),y_ = (([] : List (S34))):=⟨_,rfl⟩
 replace H : (if y126.length + l0_0.length < 8796093022208 then (some (y126 ++ l0_0)) else (none)) = some r:=by first | (rw [hy126];with_reducible exact H) | (have H2_:=(Option.bind_some _ _).symm.trans H;rw [hy126];with_reducible exact H2_) | (have H2_:=(Option.bind_some _ _).symm.trans H;with_reducible exact H2_) | with_reducible exact H | (rw [hy126];exact H) | exact H
 have Ny126:=am hy126
 clear hy126
 by_cases c2 : y126.length + l0_0.length < 8796093022208
 ·rw [if_pos c2] at H
  have LMc2:=am c2
  clear c2
  obtain ⟨y129,hy129⟩ : ∃ y_ : List (S34),y_ = (y126 ++ l0_0):=⟨_,rfl⟩
  replace H : (some y129) = some r:=by first | (rw [hy129];with_reducible exact H) | (have H2_:=(Option.bind_some _ _).symm.trans H;rw [hy129];with_reducible exact H2_) | (have H2_:=(Option.bind_some _ _).symm.trans H;with_reducible exact H2_) | with_reducible exact H | (rw [hy129];exact H) | exact H
  have Ny129:=am hy129
  clear hy129
  obtain rfl:=Option.some.inj H
  go_enter Tryz.func47,Tryz.ntmps47
  go_wp2_with (first | ((with_reducible refine gD 1 rfl ?_);refine box_event rfl (N:=1) rfl (cs:=#[.slice A0_0 l0_0.length c0_0]) (t:=25) hr_ ?_;intro gb124 hg w3 hbox hb;have BK124:=am hbox;have GW124:=gwE HB hg;have GE124:=gwE HB hg;replace HB:=hbS HB hb;clear hb hbox hg) | ((with_reducible refine gD 2 rfl ?_);refine box_event rfl (N:=2) rfl (cs:=#[.slice none 0 0]) (t:=25) hr_ ?_;intro gb125 hg w4 hbox hb;have BK125:=am hbox;have GW125:=gwE HB hg;have GE125:=gwE HB hg;replace HB:=hbS HB hb;have NB124_125:=neL BK124 hg;have NB125_124:=neG BK124 hg;replace BK124:=bkB BK124 hb;clear hb hbox hg) | ((with_reducible refine gD 3 rfl ?_);refine Kd.R_lit k34 _ 34 rfl (N:=3) rfl (xs:=([] : List (S34))) (inner:=[]) (ok:=fun _=>True) (okp:=fun _=>True) hr_ ?hp (fun _ hk=>hk) trivial (Below.refl _ _) (Nat.le_refl _) (by simp) ?_;(case hp=>exact (Reps.none _ _));intro v127 w5 ho6 hb hg_ hnew_;clear hg_ hnew_;(first | rw [← Ny126.out] at ho6 | (simp only [Int.reduceToNat] at ho6;rw [← Ny126.out] at ho6));have HO128:=am (Kd.R_lower ho6 (below_size (bl HB)));replace BK124:=bkB BK124 hb;replace BK125:=bkB BK125 hb;replace HB:=hbS HB hb;clear hb ho6;have:=NB124_125.out;have:=NB125_124.out;have:=bcell BK124 0;have:=bfz BK124 0) | ((with_reducible refine gate_builtin (b:=.append) (xs:=#[.tmp 3,.tmp 5]) rfl ?_);at_builtin;refine Kd.R_append_rows k34 (w0:=w) w.heap.size rfl (.tmp 3) (.tmp 5) 23 34 (.agg #[(.int .i64 0),(.int .i64 0)]) 16 rfl Tryz.underlying23 info34 rfl (by decide) (by omega) v127 y126 l0_0 _ _ _ (fun _=>True) (fun _=>False) rfl rfl ?aO ?aR (fun _ _ h=>h) (fun _ h=>h.elim) ?aF ?aB ?aS ?aL ?_;(case aR=>exact m4_);(case aB=>exact (bl HB));(case aF=>exact (fun _ _=>trivial));(case aO=>exact (rs HO128));(case aS=>exact (below_size (bl HB)));(case aL=>have:=LMc2.out;omega);intro v130 w9 ho hb hg hat;rw [← Ny129.out] at ho;replace BK124:=am (blk_grown (g:=gb124) (o:=.cells #[.slice A0_0 l0_0.length c0_0] 25 (0,0)) (bk BK124) hg (Kd.R_ne HO128.out BK124.out (by decide)));replace BK125:=am (blk_grown (g:=gb125) (o:=.cells #[.slice none 0 0] 25 (0,0)) (bk BK125) hg (Kd.R_ne HO128.out BK125.out (by decide)));replace HB:=am hb;have HO131:=am (ho);clear HO128;clear ho hb hg hat;obtain ⟨Ao10,co10,eo10⟩:=Kd.R_slice HO131.out;subst eo10;have:=bcell BK125 0;have:=bfz BK125 0))
  refine bodyPost_ret (results_cell_row rfl _ _ gb125 25 #[.slice Ao10 y129.length co10] (0,0) _ rfl (by (with_reducible repeat refine bu ?_);refine blk_put (cs:=#[.slice none 0 0]) ?_ 0 _ rfl;(with_reducible repeat refine bu ?_);exact BK125.out) Tryz.underlying25 rfl (by kernel_rfl)) rfl ?_
  exact ⟨_,fi_,by (with_reducible repeat apply ru);exact Kd.R_mono (Kd.R_far (p:=⟨gb125,0,none⟩) (Kd.R_types HO131.out BK125.out (by decide)) (fun _ hk=>hk.2) (.slice Ao10 y129.length co10)) (fun _ hk=>trivial),m2_⟩
 ·rw [if_neg c2] at H
  exact absurd H (by simp)
def spec_MapPort.f (k : Nat) (l0_0 : List (S34)) (a1_0 : Int) (a1_1 : Int) : Option (Int):=(spec_l3Find.f k l0_0 a1_0 a1_1).bind fun t134=>(if t134 < 0 then (some 0) else (some (wrap64 (500 + t134))))
theorem spec_MapPort.mono : ∀ a0 a1 a2 k,LeO (spec_MapPort.f k a0 a1 a2) (spec_MapPort.f (k + 1) a0 a1 a2):=by
 intro a0 a1 a2 k
 unfold spec_MapPort.f
 repeat' first | (with_reducible first | exact spec_l3Find.mono _ _ _ _ | exact LeO.refl _ | exact LeO.none _ | refine LeO.ite ?_ ?_ | refine LeO.bind ?_ (fun _=>?_)) | exact spec_l3Find.mono _ _ _ _ | exact LeO.none _ | refine LeO.ite ?_ ?_ | refine LeO.bind ?_ (fun _=>?_)
set_option maxHeartbeats 8000000 in
set_option maxRecDepth 100000 in
theorem spec_MapPort.calls (k : Nat) (A0_0 : Option Addr) (c0_0 : Nat) (l0_0 : List (S34)) (a1_0 : Int) (a1_1 : Int) (r : Int) (w : World) (hr0_0 : Kd.C k34 w A0_0 l0_0.length l0_0) (hc0_0 : l0_0.length ≤ c0_0) (h : spec_MapPort.f k l0_0 a1_0 a1_1 = some r) :
  Calls Tryz.prog 108 #[.agg #[.slice A0_0 l0_0.length c0_0],.agg #[.int .i64 a1_0,.int .i64 a1_1]] w fun e w'=>e = .returned (.int .i64 r) ∧ Below w.heap.size w w':=by
 have hu25:=Tryz.underlying25
 have hu34:=Tryz.underlying34
 have HR0_0:=am hr0_0
 have HC0_0:=am hc0_0
 clear hr0_0 hc0_0
 have HB:=am (Below.refl w.heap.size w)
 have H : ((spec_l3Find.f k l0_0 a1_0 a1_1).bind fun t134=>(if t134 < 0 then (some 0) else (some (wrap64 (500 + t134))))) = some r:=h
 clear h
 obtain ⟨t134,A3,H⟩:=bse H
 try dsimp only at H
 by_cases c4 : t134 < 0
 ·rw [if_pos c4] at H
  have c4b0 : decide (t134 < 0) = true:=decide_eq_true c4
  clear c4
  obtain rfl:=Option.some.inj H
  go_enter Tryz.func108,Tryz.ntmps108
  go_wp2_with (first | ((with_reducible refine gD 2 rfl ?_);refine box_event rfl (N:=2) rfl (cs:=#[.slice A0_0 l0_0.length c0_0]) (t:=25) hr_ ?_;intro gb132 hg w5 hbox hb;have BK132:=am hbox;have GW132:=gwE HB hg;have GE132:=gwE HB hg;replace HB:=hbS HB hb;clear hb hbox hg) | ((with_reducible refine gD 3 rfl ?_);refine box_event rfl (N:=3) rfl (cs:=#[.int .i64 a1_0,.int .i64 a1_1]) (t:=34) hr_ ?_;intro gb133 hg w6 hbox hb;have BK133:=am hbox;have GW133:=gwE HB hg;have GE133:=gwE HB hg;replace HB:=hbS HB hb;have NB132_133:=neL BK132 hg;have NB133_132:=neG BK132 hg;replace BK132:=bkB BK132 hb;clear hb hbox hg;have:=NB132_133.out;have:=NB133_132.out;have:=bcell BK132 0;have:=bfz BK132 0;have:=bcell BK133 0;have:=bcell BK133 1;have:=bfz BK133 0;have:=bfz BK133 1) | ((with_reducible refine gC 49 rfl ?_);refine gL (some 8) Tryz.func49 #[.agg #[.slice A0_0 l0_0.length c0_0],.agg #[.int .i64 a1_0,.int .i64 a1_1]] ?_;(with_reducible refine (spec_l3Find.calls k _ _ l0_0 a1_0 a1_1 t134 _ ?side1 ?side2 A3.out).mono ?_);(case side1=>exact m4_);(case side2=>exact HC0_0.out);rintro e w10 ⟨rfl,hb⟩;refine ⟨_,rfl,?_⟩;replace BK132:=bkB BK132 hb;replace BK133:=bkB BK133 hb;replace HB:=hbS HB hb;(try clear hb)))
  go_ret
  exact ⟨fi_,m2_⟩
 ·rw [if_neg c4] at H
  have c4b0 : decide (t134 < 0) = false:=decide_eq_false c4
  clear c4
  obtain rfl:=Option.some.inj H
  go_enter Tryz.func108,Tryz.ntmps108
  go_wp2_with (first | ((with_reducible refine gD 2 rfl ?_);refine box_event rfl (N:=2) rfl (cs:=#[.slice A0_0 l0_0.length c0_0]) (t:=25) hr_ ?_;intro gb132 hg w11 hbox hb;have BK132:=am hbox;have GW132:=gwE HB hg;have GE132:=gwE HB hg;replace HB:=hbS HB hb;clear hb hbox hg) | ((with_reducible refine gD 3 rfl ?_);refine box_event rfl (N:=3) rfl (cs:=#[.int .i64 a1_0,.int .i64 a1_1]) (t:=34) hr_ ?_;intro gb133 hg w12 hbox hb;have BK133:=am hbox;have GW133:=gwE HB hg;have GE133:=gwE HB hg;replace HB:=hbS HB hb;have NB132_133:=neL BK132 hg;have NB133_132:=neG BK132 hg;replace BK132:=bkB BK132 hb;clear hb hbox hg;have:=NB132_133.out;have:=NB133_132.out;have:=bcell BK132 0;have:=bfz BK132 0;have:=bcell BK133 0;have:=bcell BK133 1;have:=bfz BK133 0;have:=bfz BK133 1) | ((with_reducible refine gC 49 rfl ?_);refine gL (some 8) Tryz.func49 #[.agg #[.slice A0_0 l0_0.length c0_0],.agg #[.int .i64 a1_0,.int .i64 a1_1]] ?_;(with_reducible refine (spec_l3Find.calls k _ _ l0_0 a1_0 a1_1 t134 _ ?side1 ?side2 A3.out).mono ?_);(case side1=>exact m4_);(case side2=>exact HC0_0.out);rintro e w16 ⟨rfl,hb⟩;refine ⟨_,rfl,?_⟩;replace BK132:=bkB BK132 hb;replace BK133:=bkB BK133 hb;replace HB:=hbS HB hb;(try clear hb)))
  go_ret
  exact ⟨fi_,m2_⟩
def spec_l3Put.f (k : Nat) (l0_0 : List (S34)) (a1_0 : Int) (a1_1 : Int) : Option ((List (S34)) × Int):=(spec_MapPort.f k l0_0 a1_0 a1_1).bind fun t138=>(if t138 > 0 then (some (l0_0,t138)) else (if (l0_0.length : Int) = 6 then (some (l0_0,0)) else ((some (([] : List (S34)) : List (S34))).bind fun y139=>(if y139.length + l0_0.length < 8796093022208 then ((some (y139 ++ l0_0 : List (S34))).bind fun y142=>((some (([(⟨a1_0,a1_1⟩ : S34)] : List (S34)) : List (S34))).bind fun y145=>(if y142.length + y145.length < 8796093022208 then ((some (y142 ++ y145 : List (S34))).bind fun y148=>(some (y148,wrap64 ((wrap64 (500 + (y148.length : Int))) - 1)))) else (none)))) else (none)))))
theorem spec_l3Put.mono : ∀ a0 a1 a2 k,LeO (spec_l3Put.f k a0 a1 a2) (spec_l3Put.f (k + 1) a0 a1 a2):=by
 intro a0 a1 a2 k
 unfold spec_l3Put.f
 repeat' first | (with_reducible first | exact spec_MapPort.mono _ _ _ _ | exact LeO.refl _ | exact LeO.none _ | refine LeO.ite ?_ ?_ | refine LeO.bind ?_ (fun _=>?_)) | exact spec_MapPort.mono _ _ _ _ | exact LeO.none _ | refine LeO.ite ?_ ?_ | refine LeO.bind ?_ (fun _=>?_)
def spec_l3Put.T6 : Bool × List (List Nat × List Nat):=(true,[([],[]),([],[]),([1],[1]),([0,2],[0,2]),([],[]),([4],[4]),([3,5,3],[3,5]),([0,1,2,3,4,5,6],[]),([7,6,6,0,1,2,3,4,5,6],[6,7])])
def spec_l3Put.B6 : List Nat:=[0,0,2,7,0,16,63,127,255]
theorem spec_l3Put.tab6 : rtab .any (opsOf Tryz.f80 6) = spec_l3Put.T6:=by kernel_rfl
theorem spec_l3Put.bits6 : waitsOk spec_l3Put.T6.2 spec_l3Put.B6 = true:=by kernel_rfl
def spec_l3Put.T7 : Bool × List (List Nat × List Nat):=(true,[([],[]),([],[]),([1],[1]),([2],[2]),([3],[3]),([4],[4]),([0,0],[0]),([5,6,0,1,2,3,4,5,6],[5])])
def spec_l3Put.B7 : List Nat:=[0,0,2,6,14,30,1,127]
theorem spec_l3Put.tab7 : rtab .any (opsOf Tryz.f80 7) = spec_l3Put.T7:=by kernel_rfl
theorem spec_l3Put.bits7 : waitsOk spec_l3Put.T7.2 spec_l3Put.B7 = true:=by kernel_rfl
set_option maxHeartbeats 8000000 in
set_option maxRecDepth 100000 in
theorem spec_l3Put.calls (k : Nat) (P0_0_ : Nat → Prop) (u9000_ : Value) (l0_0 : List (S34)) (a1_0 : Int) (a1_1 : Int) (r1 : List (S34)) (r2 : Int) (w0 w : World) (hB : Below w0.heap.size w0 w) (ho0_0 : Kd.R k34 34 w w0.heap.size P0_0_ u9000_ l0_0) (h : spec_l3Put.f k l0_0 a1_0 a1_1 = some (r1,r2)) :
  Calls Tryz.prog 80 #[.agg #[u9000_],.agg #[.int .i64 a1_0,.int .i64 a1_1]] w fun e w'=>∃ v0_ : Value,e = .returned (.tuple #[.agg #[v0_],.int .i64 r2]) ∧ Kd.R k34 34 w' w0.heap.size (fun k_=>(P0_0_ k_ ∨ w.heap.size ≤ k_)) v0_ r1 ∧ Below w0.heap.size w0 w' ∧ Kept w w' (fun k_=>P0_0_ k_):=by
 have hu25:=Tryz.underlying25
 have hu34:=Tryz.underlying34
 have HO0_0:=am (show Kd.R k34 34 w w0.heap.size (fun k_=>(P0_0_ k_ ∨ w.heap.size ≤ k_)) u9000_ l0_0 from Kd.R_mono ho0_0 (fun k_ hk=>(.inl hk)))
 have HK:=am (Kept.refl w (fun k_=>P0_0_ k_))
 have HW0:=am hB.size
 have HB:=am hB
 clear hB
 have H : ((spec_MapPort.f k l0_0 a1_0 a1_1).bind fun t138=>(if t138 > 0 then (some (l0_0,t138)) else (if (l0_0.length : Int) = 6 then (some (l0_0,0)) else ((some (([] : List (S34)) : List (S34))).bind fun y139=>(if y139.length + l0_0.length < 8796093022208 then ((some (y139 ++ l0_0 : List (S34))).bind fun y142=>((some (([(⟨a1_0,a1_1⟩ : S34)] : List (S34)) : List (S34))).bind fun y145=>(if y142.length + y145.length < 8796093022208 then ((some (y142 ++ y145 : List (S34))).bind fun y148=>(some (y148,wrap64 ((wrap64 (500 + (y148.length : Int))) - 1)))) else (none)))) else (none)))))) = some (r1,r2):=h
 clear h
 obtain ⟨t138,A3,H⟩:=bse H
 try dsimp only at H
 by_cases c4 : t138 > 0
 ·rw [if_pos c4] at H
  have c4b0 : decide (0 < t138) = true:=decide_eq_true c4
  clear c4
  simp only [Option.some.injEq,Prod.mk.injEq] at H
  obtain ⟨rfl,rfl⟩:=H
  obtain ⟨Ao5,co5,eo5⟩:=Kd.R_slice HO0_0.out
  subst eo5
  go_enter Tryz.func80,Tryz.ntmps80
  go_wp2_with (first | ((with_reducible refine gD 2 rfl ?_);refine box_event rfl (N:=2) rfl (cs:=#[.slice Ao5 l0_0.length co5]) (t:=25) hr_ ?_;intro gb135 hg w6 hbox hb;replace HO0_0:=am (Kd.R_below (rs HO0_0) hb);have BK135:=am hbox;have GW135:=am ((by rw [hg];exact (by first | exact HK.out.1 | exact (show Kept w _ (fun k_=>P0_0_ k_) from m15_).1) : w.heap.size ≤ gb135));replace HK:=am (Kept.below (S:=(fun k_=>P0_0_ k_)) m15_ hb);have GE135:=gwE HB hg;replace HB:=hbS HB hb;clear hb hbox hg) | ((with_reducible refine gD 3 rfl ?_);refine box_event rfl (N:=3) rfl (cs:=#[.int .i64 a1_0,.int .i64 a1_1]) (t:=34) hr_ ?_;intro gb136 hg w7 hbox hb;replace HO0_0:=am (Kd.R_below (Kd.R_elderB (rs HO0_0) gb136 (Nat.le_of_eq hg.symm)) hb);have BK136:=am hbox;have GW136:=am ((by rw [hg];exact (by first | exact HK.out.1 | exact (show Kept w _ (fun k_=>P0_0_ k_) from m16_).1) : w.heap.size ≤ gb136));replace HK:=am (Kept.below (S:=(fun k_=>P0_0_ k_)) m16_ hb);have GE136:=gwE HB hg;replace HB:=hbS HB hb;have NB135_136:=neL BK135 hg;have NB136_135:=neG BK135 hg;replace BK135:=bkB BK135 hb;clear hb hbox hg) | ((with_reducible refine gD 4 rfl ?_);refine box_event rfl (N:=4) rfl (cs:=#[.slice none 0 0]) (t:=25) hr_ ?_;intro gb137 hg w8 hbox hb;replace HO0_0:=am (Kd.R_below (rs HO0_0) hb);have BK137:=am hbox;have GW137:=am ((by rw [hg];exact (by first | exact HK.out.1 | exact (show Kept w _ (fun k_=>P0_0_ k_) from m16_).1) : w.heap.size ≤ gb137));replace HK:=am (Kept.below (S:=(fun k_=>P0_0_ k_)) m16_ hb);have GE137:=gwE HB hg;replace HB:=hbS HB hb;have NB135_137:=neL BK135 hg;have NB137_135:=neG BK135 hg;replace BK135:=bkB BK135 hb;have NB136_137:=neL BK136 hg;have NB137_136:=neG BK136 hg;replace BK136:=bkB BK136 hb;clear hb hbox hg;have:=NB135_136.out;have:=NB136_135.out;have:=NB135_137.out;have:=NB137_135.out;have:=bcell BK135 0;have:=bfz BK135 0;have:=NB136_137.out;have:=NB137_136.out;have:=bcell BK136 0;have:=bcell BK136 1;have:=bfz BK136 0;have:=bfz BK136 1) | ((with_reducible refine gC 108 rfl ?_);refine gL (some 9) Tryz.func108 #[.agg #[.slice Ao5 l0_0.length co5],.agg #[.int .i64 a1_0,.int .i64 a1_1]] ?_;(with_reducible refine (spec_MapPort.calls k _ _ l0_0 a1_0 a1_1 t138 _ ?side1 ?side2 A3.out).mono ?_);(case side1=>exact rcx HO0_0);(case side2=>exact (Kd.R_reads' HO0_0.out).2.1);rintro e w14 ⟨rfl,hb⟩;refine ⟨_,rfl,?_⟩;replace HO0_0:=am (Kd.R_below (rs HO0_0) hb);replace BK135:=bkB BK135 hb;replace BK136:=bkB BK136 hb;replace BK137:=bkB BK137 hb;replace HK:=am (Kept.below (S:=(fun k_=>P0_0_ k_)) m16_ hb);replace HB:=hbS HB hb;(try clear hb);have:=bcell BK135 0;have:=bfz BK135 0;have:=bcell BK137 0;have:=bfz BK137 0))
  refine bodyPost_ret (results_ct rfl _ _ gb137 25 #[.slice Ao5 l0_0.length co5] (0,0) _ rfl (by (with_reducible repeat refine bu ?_);refine blk_put (cs:=#[.slice none 0 0]) ?_ 0 _ rfl;(with_reducible repeat refine bu ?_);exact BK137.out) Tryz.underlying25 rfl (by kernel_rfl)) rfl ?_
  exact ⟨_,fi_,by (with_reducible repeat apply ru);exact Kd.R_mono (Kd.R_far (p:=⟨gb137,0,none⟩) (Kd.R_types HO0_0.out BK137.out (by decide)) (fun _ hk=>hk.2) (.slice Ao5 l0_0.length co5)) (fun _ hk=>hk.1.1),m2_,m16_⟩
 ·rw [if_neg c4] at H
  have c4b0 : decide (0 < t138) = false:=decide_eq_false c4
  clear c4
  by_cases c17 : (l0_0.length : Int) = 6
  ·rw [if_pos c17] at H
   have c17b0 : ((l0_0.length : Int) == 6) = true:=beq_iff_eq.mpr c17
   have c17b1 : ((l0_0.length : Int) != 6) = false:=bne_eq_false_iff_eq.mpr c17
   clear c17
   simp only [Option.some.injEq,Prod.mk.injEq] at H
   obtain ⟨rfl,rfl⟩:=H
   obtain ⟨Ao18,co18,eo18⟩:=Kd.R_slice HO0_0.out
   subst eo18
   go_enter Tryz.func80,Tryz.ntmps80
   go_wp2_with (first | ((with_reducible refine gD 2 rfl ?_);refine box_event rfl (N:=2) rfl (cs:=#[.slice Ao18 l0_0.length co18]) (t:=25) hr_ ?_;intro gb135 hg w19 hbox hb;replace HO0_0:=am (Kd.R_below (rs HO0_0) hb);have BK135:=am hbox;have GW135:=am ((by rw [hg];exact (by first | exact HK.out.1 | exact (show Kept w _ (fun k_=>P0_0_ k_) from m15_).1) : w.heap.size ≤ gb135));replace HK:=am (Kept.below (S:=(fun k_=>P0_0_ k_)) m15_ hb);have GE135:=gwE HB hg;replace HB:=hbS HB hb;clear hb hbox hg) | ((with_reducible refine gD 3 rfl ?_);refine box_event rfl (N:=3) rfl (cs:=#[.int .i64 a1_0,.int .i64 a1_1]) (t:=34) hr_ ?_;intro gb136 hg w20 hbox hb;replace HO0_0:=am (Kd.R_below (Kd.R_elderB (rs HO0_0) gb136 (Nat.le_of_eq hg.symm)) hb);have BK136:=am hbox;have GW136:=am ((by rw [hg];exact (by first | exact HK.out.1 | exact (show Kept w _ (fun k_=>P0_0_ k_) from m16_).1) : w.heap.size ≤ gb136));replace HK:=am (Kept.below (S:=(fun k_=>P0_0_ k_)) m16_ hb);have GE136:=gwE HB hg;replace HB:=hbS HB hb;have NB135_136:=neL BK135 hg;have NB136_135:=neG BK135 hg;replace BK135:=bkB BK135 hb;clear hb hbox hg) | ((with_reducible refine gD 4 rfl ?_);refine box_event rfl (N:=4) rfl (cs:=#[.slice none 0 0]) (t:=25) hr_ ?_;intro gb137 hg w21 hbox hb;replace HO0_0:=am (Kd.R_below (rs HO0_0) hb);have BK137:=am hbox;have GW137:=am ((by rw [hg];exact (by first | exact HK.out.1 | exact (show Kept w _ (fun k_=>P0_0_ k_) from m16_).1) : w.heap.size ≤ gb137));replace HK:=am (Kept.below (S:=(fun k_=>P0_0_ k_)) m16_ hb);have GE137:=gwE HB hg;replace HB:=hbS HB hb;have NB135_137:=neL BK135 hg;have NB137_135:=neG BK135 hg;replace BK135:=bkB BK135 hb;have NB136_137:=neL BK136 hg;have NB137_136:=neG BK136 hg;replace BK136:=bkB BK136 hb;clear hb hbox hg;have:=NB135_136.out;have:=NB136_135.out;have:=NB135_137.out;have:=NB137_135.out;have:=bcell BK135 0;have:=bfz BK135 0;have:=NB136_137.out;have:=NB137_136.out;have:=bcell BK136 0;have:=bcell BK136 1;have:=bfz BK136 0;have:=bfz BK136 1) | ((with_reducible refine gC 108 rfl ?_);refine gL (some 9) Tryz.func108 #[.agg #[.slice Ao18 l0_0.length co18],.agg #[.int .i64 a1_0,.int .i64 a1_1]] ?_;(with_reducible refine (spec_MapPort.calls k _ _ l0_0 a1_0 a1_1 t138 _ ?side1 ?side2 A3.out).mono ?_);(case side1=>exact rcx HO0_0);(case side2=>exact (Kd.R_reads' HO0_0.out).2.1);rintro e w27 ⟨rfl,hb⟩;refine ⟨_,rfl,?_⟩;replace HO0_0:=am (Kd.R_below (rs HO0_0) hb);replace BK135:=bkB BK135 hb;replace BK136:=bkB BK136 hb;replace BK137:=bkB BK137 hb;replace HK:=am (Kept.below (S:=(fun k_=>P0_0_ k_)) m16_ hb);replace HB:=hbS HB hb;(try clear hb);have:=bcell BK135 0;have:=bfz BK135 0;have:=bcell BK137 0;have:=bfz BK137 0))
   refine bodyPost_ret (results_ct rfl _ _ gb137 25 #[.slice Ao18 l0_0.length co18] (0,0) _ rfl (by (with_reducible repeat refine bu ?_);refine blk_put (cs:=#[.slice none 0 0]) ?_ 0 _ rfl;(with_reducible repeat refine bu ?_);exact BK137.out) Tryz.underlying25 rfl (by kernel_rfl)) rfl ?_
   exact ⟨_,fi_,by (with_reducible repeat apply ru);exact Kd.R_mono (Kd.R_far (p:=⟨gb137,0,none⟩) (Kd.R_types HO0_0.out BK137.out (by decide)) (fun _ hk=>hk.2) (.slice Ao18 l0_0.length co18)) (fun _ hk=>hk.1.1),m2_,m16_⟩
  ·rw [if_neg c17] at H
   have c17b0 : ((l0_0.length : Int) == 6) = false:=beq_eq_false_iff_ne.mpr c17
   have c17b1 : ((l0_0.length : Int) != 6) = true:=bne_iff_ne.mpr c17
   obtain ⟨y139,hy139⟩ : ∃ y_ : List (S34),y_ = (([] : List (S34))):=⟨_,rfl⟩
   replace H : (if y139.length + l0_0.length < 8796093022208 then ((some (y139 ++ l0_0 : List (S34))).bind fun y142=>((some (([(⟨a1_0,a1_1⟩ : S34)] : List (S34)) : List (S34))).bind fun y145=>(if y142.length + y145.length < 8796093022208 then ((some (y142 ++ y145 : List (S34))).bind fun y148=>(some (y148,wrap64 ((wrap64 (500 + (y148.length : Int))) - 1)))) else (none)))) else (none)) = some (r1,r2):=by first | (rw [hy139];with_reducible exact H) | (have H2_:=(Option.bind_some _ _).symm.trans H;rw [hy139];with_reducible exact H2_) | (have H2_:=(Option.bind_some _ _).symm.trans H;with_reducible exact H2_) | with_reducible exact H | (rw [hy139];exact H) | exact H
   have Ny139:=am hy139
   clear hy139
   by_cases c30 : y139.length + l0_0.length < 8796093022208
   ·rw [if_pos c30] at H
    have LMc30:=am c30
    clear c30
    obtain ⟨y142,hy142⟩ : ∃ y_ : List (S34),y_ = (y139 ++ l0_0):=⟨_,rfl⟩
    replace H : ((some (([(⟨a1_0,a1_1⟩ : S34)] : List (S34)) : List (S34))).bind fun y145=>(if y142.length + y145.length < 8796093022208 then ((some (y142 ++ y145 : List (S34))).bind fun y148=>(some (y148,wrap64 ((wrap64 (500 + (y148.length : Int))) - 1)))) else (none))) = some (r1,r2):=by first | (rw [hy142];with_reducible exact H) | (have H2_:=(Option.bind_some _ _).symm.trans H;rw [hy142];with_reducible exact H2_) | (have H2_:=(Option.bind_some _ _).symm.trans H;with_reducible exact H2_) | with_reducible exact H | (rw [hy142];exact H) | exact H
    have Ny142:=am hy142
    clear hy142
    obtain ⟨y145,hy145⟩ : ∃ y_ : List (S34),y_ = (([(⟨a1_0,a1_1⟩ : S34)] : List (S34))):=⟨_,rfl⟩
    replace H : (if y142.length + y145.length < 8796093022208 then ((some (y142 ++ y145 : List (S34))).bind fun y148=>(some (y148,wrap64 ((wrap64 (500 + (y148.length : Int))) - 1)))) else (none)) = some (r1,r2):=by first | (rw [hy145];with_reducible exact H) | (have H2_:=(Option.bind_some _ _).symm.trans H;rw [hy145];with_reducible exact H2_) | (have H2_:=(Option.bind_some _ _).symm.trans H;with_reducible exact H2_) | with_reducible exact H | (rw [hy145];exact H) | exact H
    have Ny145:=am hy145
    clear hy145
    by_cases c31 : y142.length + y145.length < 8796093022208
    ·rw [if_pos c31] at H
     have LMc31:=am c31
     clear c31
     obtain ⟨y148,hy148⟩ : ∃ y_ : List (S34),y_ = (y142 ++ y145):=⟨_,rfl⟩
     replace H : (some (y148,wrap64 ((wrap64 (500 + (y148.length : Int))) - 1))) = some (r1,r2):=by first | (rw [hy148];with_reducible exact H) | (have H2_:=(Option.bind_some _ _).symm.trans H;rw [hy148];with_reducible exact H2_) | (have H2_:=(Option.bind_some _ _).symm.trans H;with_reducible exact H2_) | with_reducible exact H | (rw [hy148];exact H) | exact H
     have Ny148:=am hy148
     clear hy148
     simp only [Option.some.injEq,Prod.mk.injEq] at H
     obtain ⟨rfl,rfl⟩:=H
     obtain ⟨Ao32,co32,eo32⟩:=Kd.R_slice HO0_0.out
     subst eo32
     go_enter Tryz.func80,Tryz.ntmps80
     try go_wp2_with (first | ((with_reducible refine gD 2 rfl ?_);refine box_event rfl (N:=2) rfl (cs:=#[.slice Ao32 l0_0.length co32]) (t:=25) hr_ ?_;intro gb135 hg w33 hbox hb;replace HO0_0:=am (Kd.R_below (rs HO0_0) hb);have BK135:=am hbox;have GW135:=am ((by rw [hg];exact (by first | exact HK.out.1 | exact (show Kept w _ (fun k_=>P0_0_ k_) from m15_).1) : w.heap.size ≤ gb135));replace HK:=am (Kept.below (S:=(fun k_=>P0_0_ k_)) m15_ hb);have GE135:=gwE HB hg;replace HB:=hbS HB hb;clear hb hbox hg) | ((with_reducible refine gD 3 rfl ?_);refine box_event rfl (N:=3) rfl (cs:=#[.int .i64 a1_0,.int .i64 a1_1]) (t:=34) hr_ ?_;intro gb136 hg w34 hbox hb;replace HO0_0:=am (Kd.R_below (Kd.R_elderB (rs HO0_0) gb136 (Nat.le_of_eq hg.symm)) hb);have BK136:=am hbox;have GW136:=am ((by rw [hg];exact (by first | exact HK.out.1 | exact (show Kept w _ (fun k_=>P0_0_ k_) from m16_).1) : w.heap.size ≤ gb136));replace HK:=am (Kept.below (S:=(fun k_=>P0_0_ k_)) m16_ hb);have GE136:=gwE HB hg;replace HB:=hbS HB hb;have NB135_136:=neL BK135 hg;have NB136_135:=neG BK135 hg;replace BK135:=bkB BK135 hb;clear hb hbox hg) | ((with_reducible refine gD 4 rfl ?_);refine box_event rfl (N:=4) rfl (cs:=#[.slice none 0 0]) (t:=25) hr_ ?_;intro gb137 hg w35 hbox hb;replace HO0_0:=am (Kd.R_below (rs HO0_0) hb);have BK137:=am hbox;have GW137:=am ((by rw [hg];exact (by first | exact HK.out.1 | exact (show Kept w _ (fun k_=>P0_0_ k_) from m16_).1) : w.heap.size ≤ gb137));replace HK:=am (Kept.below (S:=(fun k_=>P0_0_ k_)) m16_ hb);have GE137:=gwE HB hg;replace HB:=hbS HB hb;have NB135_137:=neL BK135 hg;have NB137_135:=neG BK135 hg;replace BK135:=bkB BK135 hb;have NB136_137:=neL BK136 hg;have NB137_136:=neG BK136 hg;replace BK136:=bkB BK136 hb;clear hb hbox hg;have:=NB135_136.out;have:=NB136_135.out;have:=NB135_137.out;have:=NB137_135.out;have:=bcell BK135 0;have:=bfz BK135 0;have:=NB136_137.out;have:=NB137_136.out;have:=bcell BK136 0;have:=bcell BK136 1;have:=bfz BK136 0;have:=bfz BK136 1) | ((with_reducible refine gC 108 rfl ?_);refine gL (some 9) Tryz.func108 #[.agg #[.slice Ao32 l0_0.length co32],.agg #[.int .i64 a1_0,.int .i64 a1_1]] ?_;(with_reducible refine (spec_MapPort.calls k _ _ l0_0 a1_0 a1_1 t138 _ ?side1 ?side2 A3.out).mono ?_);(case side1=>exact rcx HO0_0);(case side2=>exact (Kd.R_reads' HO0_0.out).2.1);rintro e w41 ⟨rfl,hb⟩;refine ⟨_,rfl,?_⟩;replace HO0_0:=am (Kd.R_below (rs HO0_0) hb);replace BK135:=bkB BK135 hb;replace BK136:=bkB BK136 hb;replace BK137:=bkB BK137 hb;replace HK:=am (Kept.below (S:=(fun k_=>P0_0_ k_)) m16_ hb);replace HB:=hbS HB hb;(try clear hb);have:=bcell BK135 0;have:=bfz BK135 0))
     replace HO0_0:=am (Kd.R_drew HO0_0.out)
     replace BK135:=am (blk_drew BK135.out)
     replace BK136:=am (blk_drew BK136.out)
     replace BK137:=am (blk_drew BK137.out)
     replace HK:=am (Kept.drew HK.out)
     replace HB:=am (below_drew1 HB.out)
     refine start_ (n:=9) (S:=fun w'=>w'.cell? ⟨gb135,0,none⟩ = some (.slice Ao32 l0_0.length co32) ∧ w'.cell? ⟨gb136,0,none⟩ = some (.int .i64 a1_0) ∧ w'.cell? ⟨gb136,1,none⟩ = some (.int .i64 a1_1)) (ds:=[8]) #[false,false,false,false,false,false,false,false,false] (by kernel_rfl) rfl rfl ⟨bcell BK135 0,bcell BK136 0,bcell BK136 1⟩ (fun hHeld=>?_);refine with_tabW spec_l3Put.tab6 spec_l3Put.bits6 (fun HT_ HW_=>?_)
     generalize w41.drew = w43 at HO0_0 BK135 BK136 BK137 HK HB hHeld ⊢
     refine pu_ 1 (some 20) (bm 9 2) ?_
     refine tk_ 2 (some 21) (bm 9 6) rfl (.inl ⟨rfl,m10_⟩) ?_
     refine tk_ 4 (some 23) (bm 9 22) rfl (.inl ⟨rfl,m10_⟩) ?_
     refine join_ (σ:=Value × Value × Value) 3 #[true,true,true,true,true,true,false,false,false] (fun s_=>[(19,s_.1),(22,s_.2.1),(24,s_.2.2)]) (fun s_ w'=>(w'.cell? ⟨gb135,0,none⟩ = some (.slice Ao32 l0_0.length co32) ∧ w'.cell? ⟨gb136,0,none⟩ = some (.int .i64 a1_0) ∧ w'.cell? ⟨gb136,1,none⟩ = some (.int .i64 a1_1)) ∧ (Kd.R k34 34 w' w0.heap.size (fun k_=>(P0_0_ k_ ∨ w.heap.size ≤ k_) ∧ some k_ ≠ (s_.2.1 : Value).ownBlock ∧ some k_ ≠ (s_.2.2 : Value).ownBlock ∧ k_ ≠ gb136) (.slice Ao32 l0_0.length co32) l0_0) ∧ (Kd.R k34 34 w' w0.heap.size (fun k_=>(P0_0_ k_ ∨ w.heap.size ≤ k_) ∧ some k_ ≠ (.slice Ao32 l0_0.length co32 : Value).ownBlock ∧ some k_ ≠ (s_.2.2 : Value).ownBlock ∧ k_ ≠ gb136) s_.2.1 y142) ∧ (Kd.R k34 34 w' w0.heap.size (fun k_=>(P0_0_ k_ ∨ w.heap.size ≤ k_) ∧ some k_ ≠ (.slice Ao32 l0_0.length co32 : Value).ownBlock ∧ some k_ ≠ (s_.2.1 : Value).ownBlock ∧ k_ ≠ gb136) s_.2.2 y145) ∧ (w'.heap[gb135]? = some (.cells #[.slice Ao32 l0_0.length co32] 25 (0,0))) ∧ (w'.heap[gb136]? = some (.cells #[.int .i64 a1_0,.int .i64 a1_1] 34 (0,0))) ∧ (w'.heap[gb137]? = some (.cells #[.slice none 0 0] 25 (0,0))) ∧ (Kept w w' (fun k_=>P0_0_ k_)) ∧ (Below w0.heap.size w0 w')) ?_ ?_
     rotate_left
     ·intro hCont
      refine two_ (i:=0) (j:=5) (Ni:=some 19) (Nj:=some 24) #[true,true,true,false,true,false,false,false,false] #[false,true,true,false,true,true,false,false,false] rfl rfl rfl rfl (two_of HT_.out (by kernel_rfl)) (by decide) (by decide) (fun K hK=>?_) (fun K hK=>?_)
      ·skip
       refine Kd.R_lit_step k34 _ 34 rfl (N:=19) rfl (xs:=([] : List (S34))) (inner:=[]) (ok:=fun _=>True) (okp:=fun _=>True) hr_ ?hp (fun _ hk=>hk) trivial (Below.refl _ _) (Nat.le_refl _) (by simp) ?_;(case hp=>exact (Reps.none _ _))
       intro v140 w44 ho45 hb hg_ hnew_
       clear hg_ hnew_
       (first | rw [← Ny139.out] at ho45 | (simp only [Int.reduceToNat] at ho45;rw [← Ny139.out] at ho45))
       have HO141:=am (Kd.R_lower (Kd.R_newB (Kd.R_new' (Kd.R_newM (M:=fun k_=>(P0_0_ k_ ∨ w.heap.size ≤ k_)) ho45 (by first | exact HK.out.1 | exact (show Kept w _ (fun k_=>P0_0_ k_) from m16_).1) (fun k_ h_=>.inr h_)) (Kd.R_lt (rs HO0_0))) (g:=gb136) (o:=.cells #[.int .i64 a1_0,.int .i64 a1_1] 34 (0,0)) (bk BK136)) (below_size (bl HB)))
       replace HO0_0:=am (Kd.R_elder' (rs HO0_0) (Kd.R_base ho45) hb)
       replace BK135:=bkB BK135 hb
       replace BK136:=bkB BK136 hb
       replace BK137:=bkB BK137 hb
       replace HK:=am (Kept.below (S:=(fun k_=>P0_0_ k_)) m16_ hb)
       replace HB:=hbS HB hb
       clear hb ho45
       refine hK.out _ _ ⟨bcell BK135 0,bcell BK136 0,bcell BK136 1⟩ (fun hHeld=>?_)
       clear hK K
       refine nm_ ?_
       refine two_ (i:=3) (j:=5) (Ni:=some 22) (Nj:=some 24) #[true,true,true,true,true,false,false,false,false] #[true,true,true,false,true,true,false,false,false] rfl rfl rfl rfl (two_of HT_.out (by kernel_rfl)) (by decide) (by decide) (fun K hK=>?_) (fun K hK=>?_)
       ·skip
        refine Kd.R_append_rows_step k34 (w0:=w0) w0.heap.size (by rfl) (.tmp 19) (.tmp 21) 23 34 (.agg #[(.int .i64 0),(.int .i64 0)]) 16 rfl Tryz.underlying23 info34 rfl (by decide) (by omega) v140 y139 l0_0 _ _ _ (fun k_=>(P0_0_ k_ ∨ w.heap.size ≤ k_) ∧ some k_ ≠ (.slice Ao32 l0_0.length co32 : Value).ownBlock ∧ k_ ≠ gb136) (fun _=>False) rfl rfl ?aO ?aR (fun _ _ h=>h) (fun _ h=>h.elim) ?aF ?aB ?aS ?aL ?_
        (case aR=>exact rcx HO0_0)
        (case aB=>exact (bl HB))
        (case aF=>exact (fun k_ hk=>⟨(.inr (Nat.le_trans (by first | exact HK.out.1 | exact (show Kept w _ (fun k_=>P0_0_ k_) from m16_).1) hk)),Kd.fresh' (Kd.R_lt (rs HO0_0)) k_ hk,Kd.freshB (g:=gb136) (o:=.cells #[.int .i64 a1_0,.int .i64 a1_1] 34 (0,0)) (bk BK136) k_ hk⟩))
        (case aO=>exact (by (with_reducible repeat apply ru);exact Kd.R_mono HO141.out ok_))
        (case aS=>exact (below_size (bl HB)))
        (case aL=>have:=LMc30.out;omega)
        intro v143 w46 ho hb hg hat
        rw [← Ny142.out] at ho
        replace HO0_0:=am (Kd.R_after (ok:=(fun k_=>(P0_0_ k_ ∨ w.heap.size ≤ k_) ∧ k_ ≠ gb136)) (rs HO0_0) hg hat)
        replace BK135:=am (blk_grown (g:=gb135) (o:=.cells #[.slice Ao32 l0_0.length co32] 25 (0,0)) (bk BK135) hg (Kd.R_ne HO141.out BK135.out (by decide)))
        replace BK136:=am (blk_grown (g:=gb136) (o:=.cells #[.int .i64 a1_0,.int .i64 a1_1] 34 (0,0)) (bk BK136) hg (Kd.R_away HO141.out (fun _ hk=>hk.2)))
        replace BK137:=am (blk_grown (g:=gb137) (o:=.cells #[.slice none 0 0] 25 (0,0)) (bk BK137) hg (Kd.R_ne HO141.out BK137.out (by decide)))
        replace HB:=am hb
        replace HK:=am (Kept.of_grown (S:=(fun k_=>P0_0_ k_)) hg m16_ (fun k_ e_=>(HO141.out.1 k_ e_).1.1.1))
        have HO144:=am (ho)
        clear HO141
        clear ho hb hg hat
        refine hK.out _ _ ⟨bcell BK135 0,bcell BK136 0,bcell BK136 1⟩ (fun hHeld=>?_)
        clear hK K
        refine nm_ ?_
        refine on_ 5 (some 24) (bm 9 63) (fun K hK=>?_)
        refine Kd.R_lit_step k34 _ 34 rfl (N:=24) rfl (xs:=([(⟨a1_0,a1_1⟩ : S34)] : List (S34))) (inner:=[.int .i64 a1_0,.int .i64 a1_1]) (ok:=fun _=>True) (okp:=fun _=>True) hr_ ?hp (fun _ hk=>hk) trivial (Below.refl _ _) (Nat.le_refl _) (by simp) ?_;(case hp=>exact (Reps.c2 (show Kd.M k34 _ _ _ (⟨a1_0,a1_1⟩ : S34) [.int .i64 a1_0,.int .i64 a1_1] from (k34_mkM _ _ _ (⟨a1_0,a1_1⟩ : S34) )) (Reps.none _ _)))
        intro v146 w47 ho48 hb hg_ hnew_
        clear hg_ hnew_
        (first | rw [← Ny145.out] at ho48 | (simp only [Int.reduceToNat] at ho48;rw [← Ny145.out] at ho48))
        have HO147:=am (Kd.R_lower (Kd.R_newB (Kd.R_new' (Kd.R_new' (Kd.R_newM (M:=fun k_=>(P0_0_ k_ ∨ w.heap.size ≤ k_)) ho48 (by first | exact HK.out.1 | exact (show Kept w _ (fun k_=>P0_0_ k_) from m16_).1) (fun k_ h_=>.inr h_)) (Kd.R_lt (rs HO0_0))) (Kd.R_lt (rs HO144))) (g:=gb136) (o:=.cells #[.int .i64 a1_0,.int .i64 a1_1] 34 (0,0)) (bk BK136)) (below_size (bl HB)))
        replace HO0_0:=am (Kd.R_elder' (rs HO0_0) (Kd.R_base ho48) hb)
        replace HO144:=am (Kd.R_elder' (rs HO144) (Kd.R_base ho48) hb)
        replace BK135:=bkB BK135 hb
        replace BK136:=bkB BK136 hb
        replace BK137:=bkB BK137 hb
        replace HK:=am (Kept.below (S:=(fun k_=>P0_0_ k_)) m16_ hb)
        replace HB:=hbS HB hb
        clear hb ho48
        refine hK.out _ _ ⟨bcell BK135 0,bcell BK136 0,bcell BK136 1⟩ (fun hHeld=>?_)
        clear hK K
        refine nm_ ?_
        exact norm_ (by simp only [putAll,Act.put,List.setIfInBounds_toArray,List.set_cons_zero,List.set_cons_succ]) (hCont (v140,v143,v146) _ ⟨hHeld,(by (with_reducible repeat apply ru);exact Kd.R_mono HO0_0.out ok_),(by (with_reducible repeat apply ru);exact Kd.R_mono HO144.out ok_),(by (with_reducible repeat apply ru);exact Kd.R_mono HO147.out ok_),(bk BK135),(bk BK136),(bk BK137),m16_,(bl HB)⟩)
       ·skip
        refine Kd.R_lit_step k34 _ 34 rfl (N:=24) rfl (xs:=([(⟨a1_0,a1_1⟩ : S34)] : List (S34))) (inner:=[.int .i64 a1_0,.int .i64 a1_1]) (ok:=fun _=>True) (okp:=fun _=>True) hr_ ?hp (fun _ hk=>hk) trivial (Below.refl _ _) (Nat.le_refl _) (by simp) ?_;(case hp=>exact (Reps.c2 (show Kd.M k34 _ _ _ (⟨a1_0,a1_1⟩ : S34) [.int .i64 a1_0,.int .i64 a1_1] from (k34_mkM _ _ _ (⟨a1_0,a1_1⟩ : S34) )) (Reps.none _ _)))
        intro v146 w46 ho47 hb hg_ hnew_
        clear hg_ hnew_
        (first | rw [← Ny145.out] at ho47 | (simp only [Int.reduceToNat] at ho47;rw [← Ny145.out] at ho47))
        have HO147:=am (Kd.R_lower (Kd.R_newB (Kd.R_new' (Kd.R_new' (Kd.R_newM (M:=fun k_=>(P0_0_ k_ ∨ w.heap.size ≤ k_)) ho47 (by first | exact HK.out.1 | exact (show Kept w _ (fun k_=>P0_0_ k_) from m16_).1) (fun k_ h_=>.inr h_)) (Kd.R_lt (rs HO0_0))) (Kd.R_lt (rs HO141))) (g:=gb136) (o:=.cells #[.int .i64 a1_0,.int .i64 a1_1] 34 (0,0)) (bk BK136)) (below_size (bl HB)))
        replace HO0_0:=am (Kd.R_elder' (rs HO0_0) (Kd.R_base ho47) hb)
        replace HO141:=am (Kd.R_elder' (rs HO141) (Kd.R_base ho47) hb)
        replace BK135:=bkB BK135 hb
        replace BK136:=bkB BK136 hb
        replace BK137:=bkB BK137 hb
        replace HK:=am (Kept.below (S:=(fun k_=>P0_0_ k_)) m16_ hb)
        replace HB:=hbS HB hb
        clear hb ho47
        refine hK.out _ _ ⟨bcell BK135 0,bcell BK136 0,bcell BK136 1⟩ (fun hHeld=>?_)
        clear hK K
        refine nm_ ?_
        refine on_ 3 (some 22) (bm 9 63) (fun K hK=>?_)
        refine Kd.R_append_rows_step k34 (w0:=w0) w0.heap.size (by rfl) (.tmp 19) (.tmp 21) 23 34 (.agg #[(.int .i64 0),(.int .i64 0)]) 16 rfl Tryz.underlying23 info34 rfl (by decide) (by omega) v140 y139 l0_0 _ _ _ (fun k_=>(P0_0_ k_ ∨ w.heap.size ≤ k_) ∧ some k_ ≠ (.slice Ao32 l0_0.length co32 : Value).ownBlock ∧ some k_ ≠ (v146 : Value).ownBlock ∧ k_ ≠ gb136) (fun _=>False) rfl rfl ?aO ?aR (fun _ _ h=>h) (fun _ h=>h.elim) ?aF ?aB ?aS ?aL ?_
        (case aR=>exact rcx HO0_0)
        (case aB=>exact (bl HB))
        (case aF=>exact (fun k_ hk=>⟨(.inr (Nat.le_trans (by first | exact HK.out.1 | exact (show Kept w _ (fun k_=>P0_0_ k_) from m16_).1) hk)),Kd.fresh' (Kd.R_lt (rs HO0_0)) k_ hk,Kd.fresh' (Kd.R_lt (rs HO147)) k_ hk,Kd.freshB (g:=gb136) (o:=.cells #[.int .i64 a1_0,.int .i64 a1_1] 34 (0,0)) (bk BK136) k_ hk⟩))
        (case aO=>exact (by (with_reducible repeat apply ru);exact Kd.R_mono HO141.out ok_))
        (case aS=>exact (below_size (bl HB)))
        (case aL=>have:=LMc30.out;omega)
        intro v143 w48 ho hb hg hat
        rw [← Ny142.out] at ho
        replace HO0_0:=am (Kd.R_after (ok:=(fun k_=>(P0_0_ k_ ∨ w.heap.size ≤ k_) ∧ some k_ ≠ (v146 : Value).ownBlock ∧ k_ ≠ gb136)) (by (with_reducible repeat apply ru);exact Kd.R_mono HO0_0.out ok_) hg hat)
        replace BK135:=am (blk_grown (g:=gb135) (o:=.cells #[.slice Ao32 l0_0.length co32] 25 (0,0)) (bk BK135) hg (Kd.R_ne HO141.out BK135.out (by decide)))
        replace BK136:=am (blk_grown (g:=gb136) (o:=.cells #[.int .i64 a1_0,.int .i64 a1_1] 34 (0,0)) (bk BK136) hg (Kd.R_away HO141.out (fun _ hk=>hk.1.2)))
        replace BK137:=am (blk_grown (g:=gb137) (o:=.cells #[.slice none 0 0] 25 (0,0)) (bk BK137) hg (Kd.R_ne HO141.out BK137.out (by decide)))
        replace HO147:=am (Kd.R_after (ok:=(fun k_=>(P0_0_ k_ ∨ w.heap.size ≤ k_) ∧ some k_ ≠ (.slice Ao32 l0_0.length co32 : Value).ownBlock ∧ k_ ≠ gb136)) (by (with_reducible repeat apply ru);exact Kd.R_mono HO147.out ok_) hg hat)
        replace HB:=am hb
        replace HK:=am (Kept.of_grown (S:=(fun k_=>P0_0_ k_)) hg m16_ (fun k_ e_=>(HO141.out.1 k_ e_).1.1.1.1))
        have HO144:=am (ho)
        clear HO141
        clear ho hb hg hat
        refine hK.out _ _ ⟨bcell BK135 0,bcell BK136 0,bcell BK136 1⟩ (fun hHeld=>?_)
        clear hK K
        refine nm_ ?_
        exact norm_ (by simp only [putAll,Act.put,List.setIfInBounds_toArray,List.set_cons_zero,List.set_cons_succ]) (hCont (v140,v143,v146) _ ⟨hHeld,(by (with_reducible repeat apply ru);exact Kd.R_mono HO0_0.out ok_),(rs HO144),(by (with_reducible repeat apply ru);exact Kd.R_mono HO147.out ok_),(bk BK135),(bk BK136),(bk BK137),m16_,(bl HB)⟩)
      ·skip
       refine Kd.R_lit_step k34 _ 34 rfl (N:=24) rfl (xs:=([(⟨a1_0,a1_1⟩ : S34)] : List (S34))) (inner:=[.int .i64 a1_0,.int .i64 a1_1]) (ok:=fun _=>True) (okp:=fun _=>True) hr_ ?hp (fun _ hk=>hk) trivial (Below.refl _ _) (Nat.le_refl _) (by simp) ?_;(case hp=>exact (Reps.c2 (show Kd.M k34 _ _ _ (⟨a1_0,a1_1⟩ : S34) [.int .i64 a1_0,.int .i64 a1_1] from (k34_mkM _ _ _ (⟨a1_0,a1_1⟩ : S34) )) (Reps.none _ _)))
       intro v146 w44 ho45 hb hg_ hnew_
       clear hg_ hnew_
       (first | rw [← Ny145.out] at ho45 | (simp only [Int.reduceToNat] at ho45;rw [← Ny145.out] at ho45))
       have HO147:=am (Kd.R_lower (Kd.R_newB (Kd.R_new' (Kd.R_newM (M:=fun k_=>(P0_0_ k_ ∨ w.heap.size ≤ k_)) ho45 (by first | exact HK.out.1 | exact (show Kept w _ (fun k_=>P0_0_ k_) from m16_).1) (fun k_ h_=>.inr h_)) (Kd.R_lt (rs HO0_0))) (g:=gb136) (o:=.cells #[.int .i64 a1_0,.int .i64 a1_1] 34 (0,0)) (bk BK136)) (below_size (bl HB)))
       replace HO0_0:=am (Kd.R_elder' (rs HO0_0) (Kd.R_base ho45) hb)
       replace BK135:=bkB BK135 hb
       replace BK136:=bkB BK136 hb
       replace BK137:=bkB BK137 hb
       replace HK:=am (Kept.below (S:=(fun k_=>P0_0_ k_)) m16_ hb)
       replace HB:=hbS HB hb
       clear hb ho45
       refine hK.out _ _ ⟨bcell BK135 0,bcell BK136 0,bcell BK136 1⟩ (fun hHeld=>?_)
       clear hK K
       refine nm_ ?_
       refine on_ 0 (some 19) (bm 9 55) (fun K hK=>?_)
       refine Kd.R_lit_step k34 _ 34 rfl (N:=19) rfl (xs:=([] : List (S34))) (inner:=[]) (ok:=fun _=>True) (okp:=fun _=>True) hr_ ?hp (fun _ hk=>hk) trivial (Below.refl _ _) (Nat.le_refl _) (by simp) ?_;(case hp=>exact (Reps.none _ _))
       intro v140 w46 ho47 hb hg_ hnew_
       clear hg_ hnew_
       (first | rw [← Ny139.out] at ho47 | (simp only [Int.reduceToNat] at ho47;rw [← Ny139.out] at ho47))
       have HO141:=am (Kd.R_lower (Kd.R_newB (Kd.R_new' (Kd.R_new' (Kd.R_newM (M:=fun k_=>(P0_0_ k_ ∨ w.heap.size ≤ k_)) ho47 (by first | exact HK.out.1 | exact (show Kept w _ (fun k_=>P0_0_ k_) from m16_).1) (fun k_ h_=>.inr h_)) (Kd.R_lt (rs HO0_0))) (Kd.R_lt (rs HO147))) (g:=gb136) (o:=.cells #[.int .i64 a1_0,.int .i64 a1_1] 34 (0,0)) (bk BK136)) (below_size (bl HB)))
       replace HO0_0:=am (Kd.R_elder' (rs HO0_0) (Kd.R_base ho47) hb)
       replace HO147:=am (Kd.R_elder' (rs HO147) (Kd.R_base ho47) hb)
       replace BK135:=bkB BK135 hb
       replace BK136:=bkB BK136 hb
       replace BK137:=bkB BK137 hb
       replace HK:=am (Kept.below (S:=(fun k_=>P0_0_ k_)) m16_ hb)
       replace HB:=hbS HB hb
       clear hb ho47
       refine hK.out _ _ ⟨bcell BK135 0,bcell BK136 0,bcell BK136 1⟩ (fun hHeld=>?_)
       clear hK K
       refine nm_ ?_
       refine on_ 3 (some 22) (bm 9 63) (fun K hK=>?_)
       refine Kd.R_append_rows_step k34 (w0:=w0) w0.heap.size (by rfl) (.tmp 19) (.tmp 21) 23 34 (.agg #[(.int .i64 0),(.int .i64 0)]) 16 rfl Tryz.underlying23 info34 rfl (by decide) (by omega) v140 y139 l0_0 _ _ _ (fun k_=>(P0_0_ k_ ∨ w.heap.size ≤ k_) ∧ some k_ ≠ (.slice Ao32 l0_0.length co32 : Value).ownBlock ∧ some k_ ≠ (v146 : Value).ownBlock ∧ k_ ≠ gb136) (fun _=>False) rfl rfl ?aO ?aR (fun _ _ h=>h) (fun _ h=>h.elim) ?aF ?aB ?aS ?aL ?_
       (case aR=>exact rcx HO0_0)
       (case aB=>exact (bl HB))
       (case aF=>exact (fun k_ hk=>⟨(.inr (Nat.le_trans (by first | exact HK.out.1 | exact (show Kept w _ (fun k_=>P0_0_ k_) from m16_).1) hk)),Kd.fresh' (Kd.R_lt (rs HO0_0)) k_ hk,Kd.fresh' (Kd.R_lt (rs HO147)) k_ hk,Kd.freshB (g:=gb136) (o:=.cells #[.int .i64 a1_0,.int .i64 a1_1] 34 (0,0)) (bk BK136) k_ hk⟩))
       (case aO=>exact (by (with_reducible repeat apply ru);exact Kd.R_mono HO141.out ok_))
       (case aS=>exact (below_size (bl HB)))
       (case aL=>have:=LMc30.out;omega)
       intro v143 w48 ho hb hg hat
       rw [← Ny142.out] at ho
       replace HO0_0:=am (Kd.R_after (ok:=(fun k_=>(P0_0_ k_ ∨ w.heap.size ≤ k_) ∧ some k_ ≠ (v146 : Value).ownBlock ∧ k_ ≠ gb136)) (by (with_reducible repeat apply ru);exact Kd.R_mono HO0_0.out ok_) hg hat)
       replace BK135:=am (blk_grown (g:=gb135) (o:=.cells #[.slice Ao32 l0_0.length co32] 25 (0,0)) (bk BK135) hg (Kd.R_ne HO141.out BK135.out (by decide)))
       replace BK136:=am (blk_grown (g:=gb136) (o:=.cells #[.int .i64 a1_0,.int .i64 a1_1] 34 (0,0)) (bk BK136) hg (Kd.R_away HO141.out (fun _ hk=>hk.2)))
       replace BK137:=am (blk_grown (g:=gb137) (o:=.cells #[.slice none 0 0] 25 (0,0)) (bk BK137) hg (Kd.R_ne HO141.out BK137.out (by decide)))
       replace HO147:=am (Kd.R_after (ok:=(fun k_=>(P0_0_ k_ ∨ w.heap.size ≤ k_) ∧ some k_ ≠ (.slice Ao32 l0_0.length co32 : Value).ownBlock ∧ k_ ≠ gb136)) (by (with_reducible repeat apply ru);exact Kd.R_mono HO147.out ok_) hg hat)
       replace HB:=am hb
       replace HK:=am (Kept.of_grown (S:=(fun k_=>P0_0_ k_)) hg m16_ (fun k_ e_=>(HO141.out.1 k_ e_).1.1.1.1))
       have HO144:=am (ho)
       clear HO141
       clear ho hb hg hat
       refine hK.out _ _ ⟨bcell BK135 0,bcell BK136 0,bcell BK136 1⟩ (fun hHeld=>?_)
       clear hK K
       refine nm_ ?_
       exact norm_ (by simp only [putAll,Act.put,List.setIfInBounds_toArray,List.set_cons_zero,List.set_cons_succ]) (hCont (v140,v143,v146) _ ⟨hHeld,(by (with_reducible repeat apply ru);exact Kd.R_mono HO0_0.out ok_),(rs HO144),(by (with_reducible repeat apply ru);exact Kd.R_mono HO147.out ok_),(bk BK135),(bk BK136),(bk BK137),m16_,(bl HB)⟩)
     rintro ⟨v140,v143,v146⟩ w49 ⟨hS_,h0_,h1_,h2_,h3_,h4_,h5_,h6_,h7_⟩
     have n0_ : Aside0 (Kd.R k34 34 w49 w0.heap.size (fun k_=>(P0_0_ k_ ∨ w.heap.size ≤ k_) ∧ some k_ ≠ (v143 : Value).ownBlock ∧ some k_ ≠ (v146 : Value).ownBlock ∧ k_ ≠ gb136) (.slice Ao32 l0_0.length co32) l0_0):=⟨h0_⟩
     have n1_ : Aside0 (Kd.R k34 34 w49 w0.heap.size (fun k_=>(P0_0_ k_ ∨ w.heap.size ≤ k_) ∧ some k_ ≠ (.slice Ao32 l0_0.length co32 : Value).ownBlock ∧ some k_ ≠ (v146 : Value).ownBlock ∧ k_ ≠ gb136) v143 y142):=⟨h1_⟩
     have n2_ : Aside0 (Kd.R k34 34 w49 w0.heap.size (fun k_=>(P0_0_ k_ ∨ w.heap.size ≤ k_) ∧ some k_ ≠ (.slice Ao32 l0_0.length co32 : Value).ownBlock ∧ some k_ ≠ (v143 : Value).ownBlock ∧ k_ ≠ gb136) v146 y145):=⟨h2_⟩
     have n3_ : Aside0 (w49.heap[gb135]? = some (.cells #[.slice Ao32 l0_0.length co32] 25 (0,0))):=⟨h3_⟩
     have n4_ : Aside0 (w49.heap[gb136]? = some (.cells #[.int .i64 a1_0,.int .i64 a1_1] 34 (0,0))):=⟨h4_⟩
     have n5_ : Aside0 (w49.heap[gb137]? = some (.cells #[.slice none 0 0] 25 (0,0))):=⟨h5_⟩
     have n6_ : Aside0 (Kept w w49 (fun k_=>P0_0_ k_)):=⟨h6_⟩
     have n7_ : Aside0 (Below w0.heap.size w0 w49):=⟨h7_⟩
     clear HO0_0
     clear BK135
     clear BK136
     clear BK137
     clear HK
     clear HB
     clear h0_ h1_ h2_ h3_ h4_ h5_ h6_ h7_
     have HO0_0:=n0_
     have HO144:=n1_
     have HO147:=n2_
     have BK135:=n3_
     have BK136:=n4_
     have BK137:=n5_
     have HK:=n6_
     have HB:=n7_
     clear n0_ n1_ n2_ n3_ n4_ n5_ n6_ n7_
     have hHeld : w49.cell? ⟨gb135,0,none⟩ = some (.slice Ao32 l0_0.length co32) ∧ w49.cell? ⟨gb136,0,none⟩ = some (.int .i64 a1_0) ∧ w49.cell? ⟨gb136,1,none⟩ = some (.int .i64 a1_1):=hS_
     obtain ⟨Ao51,co51,eo51⟩:=Kd.R_slice HO147.out
     (first | subst eo51 | (injection eo51 with f1_ f2_ f3_;have f4_:=f1_.symm;have f5_:=f3_.symm;clear f1_ f2_ f3_;subst f4_;subst f5_))
     refine norm_ (a':=?_) ?_ ?_
     rotate_left
     ·simp only [putAll,Act.put,List.setIfInBounds_toArray,List.set_cons_zero,List.set_cons_succ]
      rfl
     refine on_ 6 (some 25) (bm 9 127) (fun K hK=>?_)
     refine Kd.R_append_rows_step k34 (w0:=w0) w0.heap.size (by rfl) (.tmp 22) (.tmp 24) 23 34 (.agg #[(.int .i64 0),(.int .i64 0)]) 16 rfl Tryz.underlying23 info34 rfl (by decide) (by omega) v143 y142 y145 _ _ _ (fun k_=>(P0_0_ k_ ∨ w.heap.size ≤ k_) ∧ some k_ ≠ (.slice Ao32 l0_0.length co32 : Value).ownBlock ∧ some k_ ≠ (.slice Ao51 y145.length co51 : Value).ownBlock ∧ k_ ≠ gb136) (fun _=>False) rfl rfl ?aO ?aR (fun _ _ h=>h) (fun _ h=>h.elim) ?aF ?aB ?aS ?aL ?_
     (case aR=>exact rcx HO147)
     (case aB=>exact (bl HB))
     (case aF=>exact (fun k_ hk=>⟨(.inr (Nat.le_trans (by first | exact HK.out.1 | exact (show Kept w _ (fun k_=>P0_0_ k_) from m16_).1) hk)),Kd.fresh' (Kd.R_lt (rs HO0_0)) k_ hk,Kd.fresh' (Kd.R_lt (rs HO147)) k_ hk,Kd.freshB (g:=gb136) (o:=.cells #[.int .i64 a1_0,.int .i64 a1_1] 34 (0,0)) (bk BK136) k_ hk⟩))
     (case aO=>exact (rs HO144))
     (case aS=>exact (below_size (bl HB)))
     (case aL=>have:=LMc31.out;omega)
     intro v149 w50 ho hb hg hat
     rw [← Ny148.out] at ho
     replace HO0_0:=am (Kd.R_after (ok:=(fun k_=>(P0_0_ k_ ∨ w.heap.size ≤ k_) ∧ some k_ ≠ (.slice Ao51 y145.length co51 : Value).ownBlock ∧ k_ ≠ gb136)) (by (with_reducible repeat apply ru);exact Kd.R_mono HO0_0.out ok_) hg hat)
     replace BK135:=am (blk_grown (g:=gb135) (o:=.cells #[.slice Ao32 l0_0.length co32] 25 (0,0)) (bk BK135) hg (Kd.R_ne HO144.out BK135.out (by decide)))
     replace BK136:=am (blk_grown (g:=gb136) (o:=.cells #[.int .i64 a1_0,.int .i64 a1_1] 34 (0,0)) (bk BK136) hg (Kd.R_away HO144.out (fun _ hk=>hk.2.2.2)))
     replace BK137:=am (blk_grown (g:=gb137) (o:=.cells #[.slice none 0 0] 25 (0,0)) (bk BK137) hg (Kd.R_ne HO144.out BK137.out (by decide)))
     replace HO147:=am (Kd.R_after (ok:=(fun k_=>(P0_0_ k_ ∨ w.heap.size ≤ k_) ∧ some k_ ≠ (.slice Ao32 l0_0.length co32 : Value).ownBlock ∧ k_ ≠ gb136)) (by (with_reducible repeat apply ru);exact Kd.R_mono HO147.out ok_) hg hat)
     replace HB:=am hb
     replace HK:=am (Kept.of_grown (S:=(fun k_=>P0_0_ k_)) hg m16_ (fun k_ e_=>(HO144.out.1 k_ e_).1))
     have HO150:=am (ho)
     clear HO144
     clear ho hb hg hat
     obtain ⟨Ao52,co52,eo52⟩:=Kd.R_slice HO150.out
     (first | subst eo52 | (injection eo52 with f1_ f2_ f3_;have f4_:=f1_.symm;have f5_:=f3_.symm;clear f1_ f2_ f3_;subst f4_;subst f5_))
     refine hK.out _ _ ⟨bcell BK135 0,bcell BK136 0,bcell BK136 1⟩ (fun hHeld=>?_)
     clear hK K
     refine nm_ ?_
     refine pu_ 7 (some 26) (bm 9 255) ?_
     refine last_ (i:=8) (N:=none) #[true,true,true,true,true,true,true,true,true] rfl rfl (one_of HT_.out (by kernel_rfl)) (by decide) (fun K hK=>?_)
     have : w50.cell? ⟨gb135,0,none⟩ = some (.slice Ao32 l0_0.length co32):=bcell BK135 0
     have:=bfz BK135 0
     have:=NB136_135.out
     have:=NB137_135.out
     have:=NB135_136.out
     have:=NB135_137.out
     refine skip_ (w1:=?_) (by rfl) rfl ?_ ?_
     rotate_left
     ·go_simp
      rfl
     refine hK.out _ _ ?_
     clear hK K
     refine done_ (done_of HT_.out (by kernel_rfl)) ?_
     try go_wp2
     have n0_ : Aside0 (Kd.R k34 34 (w50.setCell ⟨gb135,0,none⟩ (.slice Ao52 y148.length co52)) w0.heap.size (fun k_=>(P0_0_ k_ ∨ w.heap.size ≤ k_) ∧ some k_ ≠ (.slice Ao51 y145.length co51 : Value).ownBlock ∧ some k_ ≠ (.slice Ao52 y148.length co52 : Value).ownBlock ∧ k_ ≠ gb136) (.slice Ao32 l0_0.length co32) l0_0):=⟨by (with_reducible repeat apply ru);exact Kd.R_mono (Kd.R_far (p:=⟨gb135,0,none⟩) (Kd.R_types HO0_0.out BK135.out (by decide)) (fun _ hk=>hk.2) (.slice Ao52 y148.length co52)) ok_⟩
     have n1_ : Aside0 (Kd.R k34 34 (w50.setCell ⟨gb135,0,none⟩ (.slice Ao52 y148.length co52)) w0.heap.size (fun k_=>(P0_0_ k_ ∨ w.heap.size ≤ k_) ∧ some k_ ≠ (.slice Ao32 l0_0.length co32 : Value).ownBlock ∧ some k_ ≠ (.slice Ao52 y148.length co52 : Value).ownBlock ∧ k_ ≠ gb136) (.slice Ao51 y145.length co51) y145):=⟨by (with_reducible repeat apply ru);exact Kd.R_mono (Kd.R_far (p:=⟨gb135,0,none⟩) (Kd.R_types HO147.out BK135.out (by decide)) (fun _ hk=>hk.2) (.slice Ao52 y148.length co52)) ok_⟩
     have n2_ : Aside0 (Kd.R k34 34 (w50.setCell ⟨gb135,0,none⟩ (.slice Ao52 y148.length co52)) w0.heap.size (fun k_=>(P0_0_ k_ ∨ w.heap.size ≤ k_) ∧ some k_ ≠ (.slice Ao32 l0_0.length co32 : Value).ownBlock ∧ some k_ ≠ (.slice Ao51 y145.length co51 : Value).ownBlock ∧ k_ ≠ gb136) (.slice Ao52 y148.length co52) y148):=⟨by (with_reducible repeat apply ru);exact Kd.R_mono (Kd.R_far (p:=⟨gb135,0,none⟩) (Kd.R_types HO150.out BK135.out (by decide)) (fun _ hk=>hk.2) (.slice Ao52 y148.length co52)) ok_⟩
     have n3_ : Aside0 ((w50.setCell ⟨gb135,0,none⟩ (.slice Ao52 y148.length co52)).heap[gb135]? = some (.cells #[.slice Ao52 y148.length co52] 25 (0,0))):=⟨by (with_reducible repeat refine bu ?_);refine blk_put (cs:=#[.slice Ao32 l0_0.length co32]) ?_ 0 _ rfl;(with_reducible repeat refine bu ?_);exact BK135.out⟩
     have n4_ : Aside0 ((w50.setCell ⟨gb135,0,none⟩ (.slice Ao52 y148.length co52)).heap[gb136]? = some (.cells #[.int .i64 a1_0,.int .i64 a1_1] 34 (0,0))):=bf_ BK136
     have n5_ : Aside0 ((w50.setCell ⟨gb135,0,none⟩ (.slice Ao52 y148.length co52)).heap[gb137]? = some (.cells #[.slice none 0 0] 25 (0,0))):=bf_ BK137
     have n6_ : Aside0 (Kept w (w50.setCell ⟨gb135,0,none⟩ (.slice Ao52 y148.length co52)) (fun k_=>P0_0_ k_)):=⟨m16_⟩
     have n7_ : Aside0 (Below w0.heap.size w0 (w50.setCell ⟨gb135,0,none⟩ (.slice Ao52 y148.length co52))):=⟨m2_⟩
     (try clear HO0_0)
     (try clear HO147)
     (try clear HO150)
     (try clear BK135)
     (try clear BK136)
     (try clear BK137)
     (try clear HK)
     (try clear HB)
     generalize (w50.setCell ⟨gb135,0,none⟩ (.slice Ao52 y148.length co52)) = w54 at n0_ n1_ n2_ n3_ n4_ n5_ n6_ n7_ ⊢
     have HO0_0:=n0_
     have HO147:=n1_
     have HO150:=n2_
     have BK135:=n3_
     have BK136:=n4_
     have BK137:=n5_
     have HK:=n6_
     have HB:=n7_
     clear n0_ n1_ n2_ n3_ n4_ n5_ n6_ n7_
     replace HO0_0:=am (Kd.R_drew HO0_0.out)
     replace HO147:=am (Kd.R_drew HO147.out)
     replace HO150:=am (Kd.R_drew HO150.out)
     replace BK135:=am (blk_drew BK135.out)
     replace BK136:=am (blk_drew BK136.out)
     replace BK137:=am (blk_drew BK137.out)
     replace HK:=am (Kept.drew HK.out)
     replace HB:=am (below_drew1 HB.out)
     refine start_ (n:=8) (S:=fun w'=>w'.cell? ⟨gb135,0,none⟩ = some (.slice Ao52 y148.length co52)) (ds:=[]) #[false,false,false,false,false,false,false,false] (by kernel_rfl) rfl rfl (bcell BK135 0) (fun hHeld=>?_);refine with_tabW spec_l3Put.tab7 spec_l3Put.bits7 (fun HT_ HW_=>?_)
     generalize w54.drew = w55 at HO0_0 HO147 HO150 BK135 BK136 BK137 HK HB hHeld ⊢
     refine pu_ 1 (some 28) (bm 8 2) ?_
     refine take_ (i:=0) (N:=some 27) (v:=?_) (a':=?_) #[true,true,false,false,false,false,false,false] rfl rfl (take_ofW HT_.out HW_.out (by kernel_rfl)) (fun _ _ _ h=>h) (Or.inl ⟨by rfl,?_⟩) hHeld ?_ ?_
     rotate_left
     ·intro w' s0
      go_simp
      with_reducible rfl
     rotate_left
     ·simp only [Act.put,List.setIfInBounds_toArray,List.set_cons_zero,List.set_cons_succ,i64_w,i32_w]
      rfl
     refine take_ (i:=2) (N:=some 29) (v:=?_) (a':=?_) #[true,true,true,false,false,false,false,false] rfl rfl (take_ofW HT_.out HW_.out (by kernel_rfl)) (fun _ _ _ h=>h) (Or.inl ⟨by rfl,?_⟩) hHeld ?_ ?_
     rotate_left
     ·intro w' s0
      go_simp
      with_reducible rfl
     rotate_left
     ·simp only [Act.put,List.setIfInBounds_toArray,List.set_cons_zero,List.set_cons_succ,i64_w,i32_w]
      rfl
     refine pu_ 3 (some 30) (bm 8 15) ?_
     refine pu_ 4 (some 31) (bm 8 31) ?_
     refine pu_ 5 (some 32) (bm 8 63) ?_
     refine on_ 6 none (bm 8 127) (fun K hK=>?_)
     have : w55.cell? ⟨gb137,0,none⟩ = some (.slice none 0 0):=bcell BK137 0
     have:=bfz BK137 0
     have:=NB135_137.out
     have:=NB136_137.out
     have:=NB137_135.out
     have:=NB137_136.out
     refine skip_ (w1:=?_) (by rfl) rfl ?_ ?_
     rotate_left
     ·go_simp
      rfl
     refine hK.out _ _ (((cell_far (p:=⟨gb137,_,none⟩) NB135_137.out _).trans (hHeld))) (fun hHeld=>?_)
     clear hK K
     refine pu_ 7 (some 5) (bm 8 255) ?_
     refine done_ (done_of HT_.out (by kernel_rfl)) ?_
     try go_wp2
     refine bodyPost_ret (results_ct rfl _ _ gb137 25 #[.slice Ao52 y148.length co52] (0,0) _ rfl (by (with_reducible repeat refine bu ?_);refine blk_put (cs:=#[.slice none 0 0]) ?_ 0 _ rfl;(with_reducible repeat refine bu ?_);exact BK137.out) Tryz.underlying25 rfl (by kernel_rfl)) rfl ?_
     exact ⟨_,fi_,by (with_reducible repeat apply ru);exact Kd.R_mono (Kd.R_far (p:=⟨gb137,0,none⟩) (Kd.R_types HO150.out BK137.out (by decide)) (fun _ hk=>hk.2) (.slice Ao52 y148.length co52)) (fun _ hk=>hk.1.1),m2_,m16_⟩
    ·rw [if_neg c31] at H
     exact absurd H (by simp)
   ·rw [if_neg c30] at H
    exact absurd H (by simp)
def spec_MapPut.j0 : Nat → Bool → List (S34) → Int → Int → Option ((List (S34)) × Int)
 | 0,_,_,_,_=>none
 | k + 1,x13,x152000,x153000,x153001=>if x13 = true then (some (([] : List (S34)),0)) else ((spec_l3Copy.f x152000).bind fun t156=>((spec_l3Put.f k t156 x153000 x153001).bind fun bt159=>(some (bt159.1,bt159.2))))
def spec_MapPut.f (k : Nat) (l0_0 : List (S34)) (a1_0 : Int) (a1_1 : Int) : Option ((List (S34)) × Int):=(spec_MapOk.f k l0_0).bind fun t154=>(if t154 = true then ((spec_EndInside.f a1_0 a1_1).bind fun t155=>(spec_MapPut.j0 k (!t155) l0_0 a1_0 a1_1)) else (spec_MapPut.j0 k true l0_0 a1_0 a1_1))
theorem spec_MapPut.mono_l : ∀ k,(∀ y0 y1 y2 y3,LeO (spec_MapPut.j0 k y0 y1 y2 y3) (spec_MapPut.j0 (k + 1) y0 y1 y2 y3))
 | 0=>fun _ _ _ _ r h=>by simp [spec_MapPut.j0] at h
 | k + 1=>by
  have ih0:=spec_MapPut.mono_l k
  ·intro y0 y1 y2 y3
   unfold spec_MapPut.j0
   repeat' first | (with_reducible first | exact ih0 _ _ _ _ | exact spec_MapOk.mono _ _ | exact spec_l3Put.mono _ _ _ _ | exact LeO.refl _ | exact LeO.none _ | refine LeO.ite ?_ ?_ | refine LeO.bind ?_ (fun _=>?_)) | exact ih0 _ _ _ _ | exact spec_MapOk.mono _ _ | exact spec_l3Put.mono _ _ _ _ | exact LeO.none _ | refine LeO.ite ?_ ?_ | refine LeO.bind ?_ (fun _=>?_)
theorem spec_MapPut.mono : ∀ a0 a1 a2 k,LeO (spec_MapPut.f k a0 a1 a2) (spec_MapPut.f (k + 1) a0 a1 a2):=by
 intro a0 a1 a2 k
 have ih0:=spec_MapPut.mono_l k
 unfold spec_MapPut.f
 repeat' first | (with_reducible first | exact ih0 _ _ _ _ | exact spec_MapOk.mono _ _ | exact spec_l3Put.mono _ _ _ _ | exact LeO.refl _ | exact LeO.none _ | refine LeO.ite ?_ ?_ | refine LeO.bind ?_ (fun _=>?_)) | exact ih0 _ _ _ _ | exact spec_MapOk.mono _ _ | exact spec_l3Put.mono _ _ _ _ | exact LeO.none _ | refine LeO.ite ?_ ?_ | refine LeO.bind ?_ (fun _=>?_)
def spec_MapPut.T3 : Bool × List (List Nat × List Nat):=(true,[([],[]),([0],[0]),([],[]),([1,2,1],[1,2]),([3],[3]),([3],[3]),([4,3,0,1,2,3,4,5],[4]),([5,6,0,1,2,3,4,5,6],[5])])
def spec_MapPut.B3 : List Nat:=[0,1,0,7,15,15,63,127]
theorem spec_MapPut.tab3 : rtab .any (opsOf Tryz.f74 3) = spec_MapPut.T3:=by kernel_rfl
theorem spec_MapPut.bits3 : waitsOk spec_MapPut.T3.2 spec_MapPut.B3 = true:=by kernel_rfl
set_option maxHeartbeats 8000000 in
set_option maxRecDepth 100000 in
theorem spec_MapPut.calls (k : Nat) (A0_0 : Option Addr) (c0_0 : Nat) (l0_0 : List (S34)) (a1_0 : Int) (a1_1 : Int) (r1 : List (S34)) (r2 : Int) (w : World) (hr0_0 : Kd.C k34 w A0_0 l0_0.length l0_0) (hc0_0 : l0_0.length ≤ c0_0) (h : spec_MapPut.f k l0_0 a1_0 a1_1 = some (r1,r2)) :
  Calls Tryz.prog 74 #[.agg #[.slice A0_0 l0_0.length c0_0],.agg #[.int .i64 a1_0,.int .i64 a1_1]] w fun e w'=>∃ v0_ : Value,e = .returned (.tuple #[.agg #[v0_],.int .i64 r2]) ∧ Kd.R k34 34 w' w.heap.size (fun _=>True) v0_ r1 ∧ Below w.heap.size w w':=by
 have hu25:=Tryz.underlying25
 have hu34:=Tryz.underlying34
 have HR0_0:=am hr0_0
 have HC0_0:=am hc0_0
 clear hr0_0 hc0_0
 have HB:=am (Below.refl w.heap.size w)
 have H : ((spec_MapOk.f k l0_0).bind fun t154=>(if t154 = true then ((spec_EndInside.f a1_0 a1_1).bind fun t155=>(spec_MapPut.j0 k (!t155) l0_0 a1_0 a1_1)) else (spec_MapPut.j0 k true l0_0 a1_0 a1_1))) = some (r1,r2):=h
 clear h
 have HC3:=am H
 clear H
 go_enter Tryz.func74,Tryz.ntmps74
 go_upto_region 1 with (first | ((with_reducible refine gD 2 rfl ?_);refine box_event rfl (N:=2) rfl (cs:=#[.slice A0_0 l0_0.length c0_0]) (t:=25) hr_ ?_;intro gb151 hg w4 hbox hb;have BK151:=am hbox;have GW151:=gwE HB hg;have GE151:=gwE HB hg;replace HB:=hbS HB hb;clear hb hbox hg) | ((with_reducible refine gD 3 rfl ?_);refine box_event rfl (N:=3) rfl (cs:=#[.int .i64 a1_0,.int .i64 a1_1]) (t:=34) hr_ ?_;intro gb152 hg w5 hbox hb;have BK152:=am hbox;have GW152:=gwE HB hg;have GE152:=gwE HB hg;replace HB:=hbS HB hb;have NB151_152:=neL BK151 hg;have NB152_151:=neG BK151 hg;replace BK151:=bkB BK151 hb;clear hb hbox hg) | ((with_reducible refine gD 4 rfl ?_);refine box_event rfl (N:=4) rfl (cs:=#[.slice none 0 0]) (t:=25) hr_ ?_;intro gb153 hg w6 hbox hb;have BK153:=am hbox;have GW153:=gwE HB hg;have GE153:=gwE HB hg;replace HB:=hbS HB hb;have NB151_153:=neL BK151 hg;have NB153_151:=neG BK151 hg;replace BK151:=bkB BK151 hb;have NB152_153:=neL BK152 hg;have NB153_152:=neG BK152 hg;replace BK152:=bkB BK152 hb;clear hb hbox hg))
 (try simp only [Act.put,List.setIfInBounds_toArray,List.set_cons_zero,List.set_cons_succ])
 go_cut [13] (fun v13 wc=>∃ (kq : Nat) (x13_2 : Bool),v13 = .bool x13_2 ∧ Aside0 (spec_MapPut.j0 kq x13_2 l0_0 a1_0 a1_1 = some (r1,r2)) ∧ Aside0 (kq ≤ k) ∧ Aside0 (wc.heap[gb151]? = some (.cells #[(.slice A0_0 l0_0.length c0_0)] 25 (0,0))) ∧ Aside0 (wc.heap[gb152]? = some (.cells #[.int .i64 a1_0,.int .i64 a1_1] 34 (0,0))) ∧ Aside0 (wc.heap[gb153]? = some (.cells #[(.slice none 0 0)] 25 (0,0))) ∧ Aside0 (Below w.heap.size w wc))
 case first=>
  have H:=HC3.out
  clear HC3
  obtain ⟨t154,A7,H⟩:=bse H
  try dsimp only at H
  by_cases c8 : t154 = true
  ·subst c8
   have H1 : ((spec_EndInside.f a1_0 a1_1).bind fun t155=>(spec_MapPut.j0 k (!t155) l0_0 a1_0 a1_1)) = some (r1,r2):=by rw [if_pos rfl] at H;exact H
   clear H
   have H:=H1
   clear H1
   obtain ⟨t155,A9,H⟩:=bse H
   try dsimp only at H
   have H':=am H
   clear H
   have:=NB151_152.out
   have:=NB152_151.out
   have:=NB151_153.out
   have:=NB153_151.out
   have hcz12_0:=bcell BK151 0
   have hfz12_0:=blk_frozen BK151.out 0
   go_wp2_with (first | ((with_reducible refine gC 16 rfl ?_);refine gL (some 7) Tryz.func16 #[.agg #[.slice A0_0 l0_0.length c0_0]] ?_;(with_reducible refine (spec_MapOk.calls k _ _ l0_0 true _ ?side1 ?side2 A7.out).mono ?_);(case side1=>exact m4_);(case side2=>exact HC0_0.out);rintro e w13 ⟨rfl,hb⟩;refine ⟨_,rfl,?_⟩;replace BK151:=bkB BK151 hb;replace BK152:=bkB BK152 hb;replace BK153:=bkB BK153 hb;replace HB:=hbS HB hb;(try clear hb);have:=NB152_153.out;have:=NB153_152.out;have hcz15_0:=bcell BK152 0;have hcz15_1:=bcell BK152 1;have hfz15_0:=blk_frozen BK152.out 0;have hfz15_1:=blk_frozen BK152.out 1) | (go_at_call 48;(with_reducible refine (spec_EndInside.calls a1_0 a1_1 t155 _ A9.out).mono ?_);rintro e w16 ⟨rfl,hb⟩;replace BK151:=bkB BK151 hb;replace BK152:=bkB BK152 hb;replace BK153:=bkB BK153 hb;replace HB:=hbS HB hb;(try clear hb)))
   go_meet
   case rel=>exact ⟨_,(!t155),rs_,H',⟨by first | omega | exact Nat.le_refl _⟩,⟨bk BK151⟩,⟨bk BK152⟩,⟨bk BK153⟩,⟨m2_⟩⟩
  ·replace c8:=Bool.eq_false_iff.mpr c8
   subst c8
   have H1 : (spec_MapPut.j0 k true l0_0 a1_0 a1_1) = some (r1,r2):=by rw [if_neg (show ¬ (false = true) by decide)] at H;exact H
   clear H
   have H:=H1
   clear H1
   have H':=am H
   clear H
   have:=NB151_152.out
   have:=NB152_151.out
   have:=NB151_153.out
   have:=NB153_151.out
   have hcz19_0:=bcell BK151 0
   have hfz19_0:=blk_frozen BK151.out 0
   go_wp2_with (first | ((with_reducible refine gC 16 rfl ?_);refine gL (some 7) Tryz.func16 #[.agg #[.slice A0_0 l0_0.length c0_0]] ?_;(with_reducible refine (spec_MapOk.calls k _ _ l0_0 false _ ?side1 ?side2 A7.out).mono ?_);(case side1=>exact m4_);(case side2=>exact HC0_0.out);rintro e w20 ⟨rfl,hb⟩;refine ⟨_,rfl,?_⟩;replace BK151:=bkB BK151 hb;replace BK152:=bkB BK152 hb;replace BK153:=bkB BK153 hb;replace HB:=hbS HB hb;(try clear hb)))
   go_meet
   case rel=>exact ⟨_,(true),rs_,H',⟨by first | omega | exact Nat.le_refl _⟩,⟨bk BK151⟩,⟨bk BK152⟩,⟨bk BK153⟩,⟨m2_⟩⟩
 case rest=>
  clear HC3
  try clear c1
  try clear p2
  try clear c7
  try clear c8
  try clear c10
  try clear c11
  try clear c14
  try clear c16
  try clear c17
  try clear c18
  try clear hcz12_0
  try clear hcz15_0
  try clear hcz15_1
  try clear hcz19_0
  try clear hfz12_0
  try clear hfz15_0
  try clear hfz15_1
  try clear hfz19_0
  obtain ⟨kq,x13_2,rfl,HA,HJ2,BK151,BK152,BK153,HB⟩:=hcut
  cases kq with
  | zero=>exact absurd HA.out (by simp [spec_MapPut.j0])
  | succ kj2=>
   have H:=HA.out
   clear HA
   simp only [spec_MapPut.j0] at H
   by_cases c21 : x13_2 = true
   ·subst c21
    have H1 : (some (([] : List (S34)),0)) = some (r1,r2):=by rw [if_pos rfl] at H;exact H
    clear H
    have H:=H1
    clear H1
    simp only [Option.some.injEq,Prod.mk.injEq] at H
    obtain ⟨rfl,rfl⟩:=H
    have:=NB153_151.out
    have:=NB151_153.out
    have:=NB153_152.out
    have:=NB152_153.out
    have:=bcell BK153 0
    have:=bfz BK153 0
    go_wp2
    refine bodyPost_ret (results_ct rfl _ _ gb153 25 #[.slice none 0 0] (0,0) _ rfl (by (with_reducible repeat refine bu ?_);refine blk_put (cs:=#[.slice none 0 0]) ?_ 0 _ rfl;(with_reducible repeat refine bu ?_);exact BK153.out) Tryz.underlying25 rfl (by kernel_rfl)) rfl ?_
    exact ⟨_,fi_,by first | exact Kd.R_nil _ _ _ _ _ | exact Kd.N_nil _ _ _ _ _ | exact Kd.V_nil _ _ _ _ _ | exact Kd.Q_nil _ _ _ _ _ | exact Kd.S_nil _ _ _ _ _,m2_⟩
   ·replace c21:=Bool.eq_false_iff.mpr c21
    subst c21
    have H1 : ((spec_l3Copy.f l0_0).bind fun t156=>((spec_l3Put.f kj2 t156 a1_0 a1_1).bind fun bt159=>(some (bt159.1,bt159.2)))) = some (r1,r2):=by rw [if_neg (show ¬ (false = true) by decide)] at H;exact H
    clear H
    have H:=H1
    clear H1
    obtain ⟨t156,A25,H⟩:=bse H
    try dsimp only at H
    obtain ⟨⟨t159,t162⟩,A26,H⟩:=bse H
    try dsimp only at H
    simp only [Option.some.injEq,Prod.mk.injEq] at H
    obtain ⟨rfl,rfl⟩:=H
    try go_wp2
    replace BK151:=am (blk_drew BK151.out)
    replace BK152:=am (blk_drew BK152.out)
    replace BK153:=am (blk_drew BK153.out)
    replace HB:=am (below_drew1 HB.out)
    refine start_ (n:=8) (S:=fun w'=>w'.cell? ⟨gb151,0,none⟩ = some (.slice A0_0 l0_0.length c0_0) ∧ w'.cell? ⟨gb152,0,none⟩ = some (.int .i64 a1_0) ∧ w'.cell? ⟨gb152,1,none⟩ = some (.int .i64 a1_1)) (ds:=[]) #[false,false,false,false,false,false,false,false] (by kernel_rfl) rfl rfl ⟨bcell BK151 0,bcell BK152 0,bcell BK152 1⟩ (fun hHeld=>?_);refine with_tabW spec_MapPut.tab3 spec_MapPut.bits3 (fun HT_ HW_=>?_)
    generalize wc.drew = w27 at BK151 BK152 BK153 HB hHeld ⊢
    refine tk_ 0 (some 15) (bm 8 1) rfl (.inl ⟨rfl,m10_⟩) ?_
    refine tk_ 2 (some 17) (bm 8 5) rfl (.inl ⟨rfl,m10_⟩) ?_
    refine on_ 1 (some 16) (bm 8 7) (fun K hK=>?_)
    refine gR Tryz.func47 #[.agg #[.slice A0_0 l0_0.length c0_0]] ?_
    with_reducible refine (spec_l3Copy.calls _ _ l0_0 t156 _ ?side1 ?side2 A25.out).mono ?_
    (case side1=>exact m4_)
    (case side2=>exact HC0_0.out)
    rintro e w28 ⟨v157,rfl,ho0,hb⟩
    refine ⟨_,rfl,?_⟩
    have HO158:=am (Kd.R_lower (Kd.R_newB ho0 (g:=gb152) (o:=.cells #[.int .i64 a1_0,.int .i64 a1_1] 34 (0,0)) (bk BK152)) (below_size (bl HB)))
    replace BK151:=bkB BK151 hb
    replace BK152:=bkB BK152 hb
    replace BK153:=bkB BK153 hb
    replace HB:=hbS HB hb
    (try clear hb)
    (try clear hb2)
    (try clear hk)
    (try clear hi)
    (try clear ho0)
    obtain ⟨Ao29,co29,eo29⟩:=Kd.R_slice HO158.out
    (first | subst eo29 | (injection eo29 with f1_ f2_ f3_;have f4_:=f1_.symm;have f5_:=f3_.symm;clear f1_ f2_ f3_;subst f4_;subst f5_))
    refine hK.out _ _ ⟨bcell BK151 0,bcell BK152 0,bcell BK152 1⟩ (fun hHeld=>?_)
    clear hK K
    refine nm_ ?_
    refine on_ 3 (some 18) (bm 8 15) (fun K hK=>?_)
    refine gR Tryz.func80 #[.agg #[.slice Ao29 t156.length co29],.agg #[.int .i64 a1_0,.int .i64 a1_1]] ?_
    with_reducible refine (spec_l3Put.calls kj2 (fun k_=>some k_ = (.slice Ao29 t156.length co29 : Value).ownBlock) (.slice Ao29 t156.length co29) t156 a1_0 a1_1 t159 t162 w _ ?side1 ?side2 A26.out).mono ?_
    (case side1=>exact m2_)
    (case side2=>exact Kd.R_tight rfl HO158.out)
    rintro e w30 ⟨v160,rfl,ho0,hb,hkp⟩
    refine ⟨_,rfl,?_⟩
    replace BK151:=am (blk_kept (bk BK151) hkp (fun hs_=>(fun e_=>(Kd.R_ne HO158.out BK151.out (by decide)) e_) hs_))
    replace BK153:=am (blk_kept (bk BK153) hkp (fun hs_=>(fun e_=>(Kd.R_ne HO158.out BK153.out (by decide)) e_) hs_))
    have HO161:=am (Kd.R_mono (ok':=fun k_=>k_ ≠ gb152) ho0 (fun k_ hk_=>Or.elim hk_ (fun hs_=>fun e_=>(Kd.R_away HO158.out (fun _ hk=>hk.2)) (by rw [← e_];exact hs_)) (fun hn_=>(Kd.freshB (g:=gb152) (o:=.cells #[.int .i64 a1_0,.int .i64 a1_1] 34 (0,0)) (bk BK152) k_ hn_))))
    replace BK152:=am (blk_kept (bk BK152) hkp (fun hs_=>(fun e_=>(Kd.R_away HO158.out (fun _ hk=>hk.2)) e_) hs_))
    replace HB:=am hb
    clear HO158
    (try clear hb)
    (try clear hkp)
    (try clear ho0)
    obtain ⟨Ao31,co31,eo31⟩:=Kd.R_slice HO161.out
    (first | subst eo31 | (injection eo31 with f1_ f2_ f3_;have f4_:=f1_.symm;have f5_:=f3_.symm;clear f1_ f2_ f3_;subst f4_;subst f5_))
    refine hK.out _ _ ⟨bcell BK151 0,bcell BK152 0,bcell BK152 1⟩ (fun hHeld=>?_)
    clear hK K
    refine nm_ ?_
    refine pu_ 4 (some 19) (bm 8 31) ?_
    refine pu_ 5 (some 20) (bm 8 63) ?_
    refine on_ 6 none (bm 8 127) (fun K hK=>?_)
    have : w30.cell? ⟨gb153,0,none⟩ = some (.slice none 0 0):=bcell BK153 0
    have:=bfz BK153 0
    have:=NB151_153.out
    have:=NB152_153.out
    have:=NB153_151.out
    have:=NB153_152.out
    refine skip_ (w1:=?_) (by rfl) rfl ?_ ?_
    rotate_left
    ·go_simp
     rfl
    refine hK.out _ _ ⟨((cell_far (p:=⟨gb153,_,none⟩) NB151_153.out _).trans (hHeld.1)),((cell_far (p:=⟨gb153,_,none⟩) NB152_153.out _).trans (hHeld.2.1)),((cell_far (p:=⟨gb153,_,none⟩) NB152_153.out _).trans (hHeld.2.2))⟩ (fun hHeld=>?_)
    clear hK K
    refine pu_ 7 (some 5) (bm 8 255) ?_
    refine done_ (done_of HT_.out (by kernel_rfl)) ?_
    try go_wp2
    refine bodyPost_ret (results_ct rfl _ _ gb153 25 #[.slice Ao31 t159.length co31] (0,0) _ rfl (by (with_reducible repeat refine bu ?_);refine blk_put (cs:=#[.slice none 0 0]) ?_ 0 _ rfl;(with_reducible repeat refine bu ?_);exact BK153.out) Tryz.underlying25 rfl (by kernel_rfl)) rfl ?_
    exact ⟨_,fi_,by (with_reducible repeat apply ru);exact Kd.R_mono (Kd.R_far (p:=⟨gb153,0,none⟩) (Kd.R_types HO161.out BK153.out (by decide)) (fun _ hk=>hk.2) (.slice Ao31 t159.length co31)) (fun _ hk=>trivial),m2_⟩
def spec_l20In.f (k : Nat) (s0_0 : List Int) (s0_1 : Int) : Option (Int × Int × Int):=(spec_l20Rd_pick.f k s0_0 s0_1 4).bind fun bt164=>((spec_l20Rd_pick.f k s0_0 bt164.2 40).bind fun bt166=>((some (([7,20,300,999,wrap64 (1 + bt166.1)] : List Int) : List Int)).bind fun y168=>((spec_l20Rd_pick.f k s0_0 bt166.2 5).bind fun bt171=>(if 0 ≤ bt171.1 then (if bt171.1 < (y168.length : Int) then (some (wrap64 (1 + bt164.1),rd y168 bt171.1,bt171.2)) else (none)) else (none)))))
theorem spec_l20In.mono : ∀ a0 a1 k,LeO (spec_l20In.f k a0 a1) (spec_l20In.f (k + 1) a0 a1):=by
 intro a0 a1 k
 unfold spec_l20In.f
 repeat' first | (with_reducible first | exact spec_l20Rd_pick.mono _ _ _ _ | exact LeO.refl _ | exact LeO.none _ | refine LeO.ite ?_ ?_ | refine LeO.bind ?_ (fun _=>?_)) | exact spec_l20Rd_pick.mono _ _ _ _ | exact LeO.none _ | refine LeO.ite ?_ ?_ | refine LeO.bind ?_ (fun _=>?_)
set_option maxHeartbeats 8000000 in
set_option maxRecDepth 100000 in
theorem spec_l20In.calls (k : Nat) (g : Nat) (s0_0 : List Int) (s0_1 : Int) (r1 : Int) (r2 : Int) (r3 : Int) (w0 w : World) (hI : IsS84 w0 w g s0_0 s0_1) (hB : Below w0.heap.size w0 w) (h : spec_l20In.f k s0_0 s0_1 = some (r1,r2,r3)) :
  Calls Tryz.prog 75 #[.pointer (some ⟨g,0,none⟩)] w fun e w'=>e = .returned (.agg #[.int .i64 r1,.int .i64 r2]) ∧ IsS84 w0 w' g s0_0 r3 ∧ Below w0.heap.size w0 w' ∧ KeepBut w w' g none:=by
 have hu34:=Tryz.underlying34
 have HI0:=am hI
 have HK:=am (KeepBut.refl w g none)
 have HL:=am hB.size
 clear hI
 have HW0:=am hB.size
 have HB:=am hB
 clear hB
 have H : ((spec_l20Rd_pick.f k s0_0 s0_1 4).bind fun bt164=>((spec_l20Rd_pick.f k s0_0 bt164.2 40).bind fun bt166=>((some (([7,20,300,999,wrap64 (1 + bt166.1)] : List Int) : List Int)).bind fun y168=>((spec_l20Rd_pick.f k s0_0 bt166.2 5).bind fun bt171=>(if 0 ≤ bt171.1 then (if bt171.1 < (y168.length : Int) then (some (wrap64 (1 + bt164.1),rd y168 bt171.1,bt171.2)) else (none)) else (none)))))) = some (r1,r2,r3):=h
 clear h
 obtain ⟨⟨t164,t165⟩,A2,H⟩:=bse H
 try dsimp only at H
 obtain ⟨⟨t166,t167⟩,A3,H⟩:=bse H
 try dsimp only at H
 obtain ⟨y168,hy168⟩ : ∃ y_ : List Int,y_ = (([7,20,300,999,wrap64 (1 + t166)] : List Int)):=⟨_,rfl⟩
 replace H : ((spec_l20Rd_pick.f k s0_0 t167 5).bind fun bt171=>(if 0 ≤ bt171.1 then (if bt171.1 < (y168.length : Int) then (some (wrap64 (1 + t164),rd y168 bt171.1,bt171.2)) else (none)) else (none))) = some (r1,r2,r3):=by first | (rw [hy168];with_reducible exact H) | (have H2_:=(Option.bind_some _ _).symm.trans H;rw [hy168];with_reducible exact H2_) | (have H2_:=(Option.bind_some _ _).symm.trans H;with_reducible exact H2_) | with_reducible exact H | (rw [hy168];exact H) | exact H
 have Ny168:=am hy168
 clear hy168
 obtain ⟨⟨t171,t172⟩,A4,H⟩:=bse H
 try dsimp only at H
 by_cases c5 : 0 ≤ t171
 ·rw [if_pos c5] at H
  have c5b0 : decide (0 ≤ t171) = true:=decide_eq_true c5
  clear c5
  by_cases c6 : t171 < (y168.length : Int)
  ·rw [if_pos c6] at H
   have c6b0 : decide (t171 < (y168.length : Int)) = true:=decide_eq_true c6
   clear c6
   simp only [Option.some.injEq,Prod.mk.injEq] at H
   obtain ⟨rfl,rfl,rfl⟩:=H
   go_enter Tryz.func75,Tryz.ntmps75
   go_wp2_with (first | ((with_reducible refine gD 2 rfl ?_);refine box_event rfl (N:=2) rfl (cs:=#[.int .i64 0,.int .i64 0]) (t:=34) hr_ ?_;intro gb163 hg w7 hbox hb;replace HB:=am (below_step m23_ hb);have BK163:=am hbox;have GW163:=am ((by rw [hg];exact (keep_size (w:=w) (g:=g) (row:=none) m24_) : w.heap.size ≤ gb163));have GE163:=am ((Nat.le_trans HW0.out (by rw [hg];exact (keep_size (w:=w) (g:=g) (row:=none) m24_) : w.heap.size ≤ gb163) : w0.heap.size ≤ gb163));replace HK:=am (KeepBut.trans m24_ (KeepBut.of_below hb g none) (.inl rfl));have NB0_163:=am ((by rw [hg];exact Nat.ne_of_lt (IsS84.lt (show IsS84 w0 _ g s0_0 s0_1 from m25_)) : g ≠ gb163));have NB163_0:=am ((by rw [hg];exact Nat.ne_of_gt (IsS84.lt (show IsS84 w0 _ g s0_0 s0_1 from m25_)) : gb163 ≠ g));replace HI0:=am (IsS84.below m25_ hb);clear hb hbox hg) | ((with_reducible refine gC 63 rfl ?_);refine gL (some 4) Tryz.func63 #[.pointer (some ⟨g,0,none⟩),.int .i64 4] ?_;(with_reducible refine (spec_l20Rd_pick.calls k g s0_0 s0_1 4 t164 t165 w0 _ ?side1 ?side2 A2.out).mono ?_);(case side1=>exact m28_);(case side2=>exact m26_);rintro e w8 ⟨rfl,hi,hb,hk⟩;refine ⟨_,rfl,?_⟩;replace BK163:=am (KeepBut.blk hk (g':=gb163) (o:=.cells #[.int .i64 0,.int .i64 0] 34 (0,0)) (bk BK163) NB163_0.out (by simp));replace HK:=am (KeepBut.trans m27_ hk (.inl rfl));replace HB:=am hb;replace HI0:=am hi;(try clear hb);(try clear hk);(try clear hi)) | ((with_reducible refine gC 63 rfl ?_);refine gL (some 7) Tryz.func63 #[.pointer (some ⟨g,0,none⟩),.int .i64 40] ?_;(with_reducible refine (spec_l20Rd_pick.calls k g s0_0 t165 40 t166 t167 w0 _ ?side1 ?side2 A3.out).mono ?_);(case side1=>exact m28_);(case side2=>exact m26_);rintro e w9 ⟨rfl,hi,hb,hk⟩;refine ⟨_,rfl,?_⟩;replace BK163:=am (KeepBut.blk hk (g':=gb163) (o:=.cells #[.int .i64 0,.int .i64 0] 34 (0,0)) (bk BK163) NB163_0.out (by simp));replace HK:=am (KeepBut.trans m27_ hk (.inl rfl));replace HB:=am hb;replace HI0:=am hi;(try clear hb);(try clear hk);(try clear hi)) | ((with_reducible refine gD 9 rfl ?_);refine Kd.R_lit (Kd.int .i64) _ 3 rfl (N:=9) rfl (xs:=([7,20,300,999,wrap64 (1 + t166)] : List Int)) (inner:=[.int .i64 7,.int .i64 20,.int .i64 300,.int .i64 999,.int .i64 (wrap64 (1 + t166))]) (ok:=fun _=>True) (okp:=fun _=>True) hr_ ?hp (fun _ hk=>hk) trivial (Below.refl _ _) (Nat.le_refl _) (by simp) ?_;(case hp=>exact (Reps.one (show Kd.M (Kd.int .i64) _ _ _ 7 [.int .i64 7] from rfl) (Reps.one (show Kd.M (Kd.int .i64) _ _ _ 20 [.int .i64 20] from rfl) (Reps.one (show Kd.M (Kd.int .i64) _ _ _ 300 [.int .i64 300] from rfl) (Reps.one (show Kd.M (Kd.int .i64) _ _ _ 999 [.int .i64 999] from rfl) (Reps.one (show Kd.M (Kd.int .i64) _ _ _ (wrap64 (1 + t166)) [.int .i64 (wrap64 (1 + t166))] from rfl) (Reps.none _ _)))))));intro v169 w10 ho11 hb hg_ hnew_;clear hg_ hnew_;(first | rw [← Ny168.out] at ho11 | (simp only [Int.reduceToNat] at ho11;rw [← Ny168.out] at ho11));have HO170:=am (Kd.R_lower ho11 (keep_size (w:=w) (g:=g) (row:=none) m27_));replace BK163:=bkB BK163 hb;replace HK:=am (KeepBut.trans m27_ (KeepBut.of_below hb g none) (.inl rfl));replace HB:=am (below_step m26_ hb);replace HI0:=am (IsS84.below m28_ hb);clear hb ho11) | ((with_reducible refine gC 63 rfl ?_);refine gL (some 11) Tryz.func63 #[.pointer (some ⟨g,0,none⟩),.int .i64 5] ?_;(with_reducible refine (spec_l20Rd_pick.calls k g s0_0 t167 5 t171 t172 w0 _ ?side1 ?side2 A4.out).mono ?_);(case side1=>exact m28_);(case side2=>exact m26_);rintro e w12 ⟨rfl,hi,hb,hk⟩;refine ⟨_,rfl,?_⟩;replace BK163:=am (KeepBut.blk hk (g':=gb163) (o:=.cells #[.int .i64 0,.int .i64 0] 34 (0,0)) (bk BK163) NB163_0.out (by simp));replace HO170:=am (Kd.R_mono (Kd.R_keep (IsS84.apart (show IsS84 w0 _ g s0_0 t167 from m28_) (rs HO170) (by decide)) hk (fun _ h=>h.2)) (fun _ h=>h.1));replace HK:=am (KeepBut.trans m27_ hk (.inl rfl));replace HB:=am hb;replace HI0:=am hi;(try clear hb);(try clear hk);(try clear hi);obtain ⟨Ao13,co13,eo13⟩:=Kd.R_slice HO170.out;subst eo13;have p173 : 0 ≤ (t171 : Int):=of_decide_eq_true da_;have q173 : t171 < (y168.length : Int):=of_decide_eq_true da_;obtain ⟨ad173,e173,hx173_0⟩:=Kd.at_int (Kd.R_reads' HO170.out).2.2 t171 p173 q173;cases e173;replace p173:=eq_true p173;replace q173:=eq_true q173;have:=NB163_0.out;have:=NB0_163.out;have:=bcell BK163 0;have:=bcell BK163 1;have:=bfz BK163 0;have:=bfz BK163 1))
   refine bodyPost_ret (results_cell_row rfl _ _ gb163 34 #[.int .i64 (wrap64 (1 + t164)),.int .i64 (rd y168 t171)] (0,0) _ rfl (by (with_reducible repeat refine bu ?_);refine blk_put (cs:=#[.int .i64 (wrap64 (1 + t164)),.int .i64 0]) ?_ 1 _ rfl;(with_reducible repeat refine bu ?_);refine blk_put (cs:=#[.int .i64 0,.int .i64 0]) ?_ 0 _ rfl;(with_reducible repeat refine bu ?_);exact BK163.out) Tryz.underlying34 rfl (by kernel_rfl)) rfl ?_
   exact ⟨fi_,m28_,m26_,m27_⟩
  ·rw [if_neg c6] at H
   exact absurd H (by simp)
 ·rw [if_neg c5] at H
  exact absurd H (by simp)
def spec_l20Out.f (k : Nat) (s0_0 : List Int) (s0_1 : Int) : Option (Int × Int × Int):=(spec_l20Rd_pick.f k s0_0 s0_1 3).bind fun bt175=>((some (([21,21,80,7] : List Int) : List Int)).bind fun y177=>((spec_l20Rd_pick.f k s0_0 bt175.2 4).bind fun bt180=>(if 0 ≤ bt180.1 then (if bt180.1 < (y177.length : Int) then (some (wrap64 (100 + bt175.1),rd y177 bt180.1,bt180.2)) else (none)) else (none))))
theorem spec_l20Out.mono : ∀ a0 a1 k,LeO (spec_l20Out.f k a0 a1) (spec_l20Out.f (k + 1) a0 a1):=by
 intro a0 a1 k
 unfold spec_l20Out.f
 repeat' first | (with_reducible first | exact spec_l20Rd_pick.mono _ _ _ _ | exact LeO.refl _ | exact LeO.none _ | refine LeO.ite ?_ ?_ | refine LeO.bind ?_ (fun _=>?_)) | exact spec_l20Rd_pick.mono _ _ _ _ | exact LeO.none _ | refine LeO.ite ?_ ?_ | refine LeO.bind ?_ (fun _=>?_)
set_option maxHeartbeats 8000000 in
set_option maxRecDepth 100000 in
theorem spec_l20Out.calls (k : Nat) (g : Nat) (s0_0 : List Int) (s0_1 : Int) (r1 : Int) (r2 : Int) (r3 : Int) (w0 w : World) (hI : IsS84 w0 w g s0_0 s0_1) (hB : Below w0.heap.size w0 w) (h : spec_l20Out.f k s0_0 s0_1 = some (r1,r2,r3)) :
  Calls Tryz.prog 76 #[.pointer (some ⟨g,0,none⟩)] w fun e w'=>e = .returned (.agg #[.int .i64 r1,.int .i64 r2]) ∧ IsS84 w0 w' g s0_0 r3 ∧ Below w0.heap.size w0 w' ∧ KeepBut w w' g none:=by
 have hu34:=Tryz.underlying34
 have HI0:=am hI
 have HK:=am (KeepBut.refl w g none)
 have HL:=am hB.size
 clear hI
 have HW0:=am hB.size
 have HB:=am hB
 clear hB
 have H : ((spec_l20Rd_pick.f k s0_0 s0_1 3).bind fun bt175=>((some (([21,21,80,7] : List Int) : List Int)).bind fun y177=>((spec_l20Rd_pick.f k s0_0 bt175.2 4).bind fun bt180=>(if 0 ≤ bt180.1 then (if bt180.1 < (y177.length : Int) then (some (wrap64 (100 + bt175.1),rd y177 bt180.1,bt180.2)) else (none)) else (none))))) = some (r1,r2,r3):=h
 clear h
 obtain ⟨⟨t175,t176⟩,A2,H⟩:=bse H
 try dsimp only at H
 obtain ⟨y177,hy177⟩ : ∃ y_ : List Int,y_ = (([21,21,80,7] : List Int)):=⟨_,rfl⟩
 replace H : ((spec_l20Rd_pick.f k s0_0 t176 4).bind fun bt180=>(if 0 ≤ bt180.1 then (if bt180.1 < (y177.length : Int) then (some (wrap64 (100 + t175),rd y177 bt180.1,bt180.2)) else (none)) else (none))) = some (r1,r2,r3):=by first | (rw [hy177];with_reducible exact H) | (have H2_:=(Option.bind_some _ _).symm.trans H;rw [hy177];with_reducible exact H2_) | (have H2_:=(Option.bind_some _ _).symm.trans H;with_reducible exact H2_) | with_reducible exact H | (rw [hy177];exact H) | exact H
 have Ny177:=am hy177
 clear hy177
 obtain ⟨⟨t180,t181⟩,A3,H⟩:=bse H
 try dsimp only at H
 by_cases c4 : 0 ≤ t180
 ·rw [if_pos c4] at H
  have c4b0 : decide (0 ≤ t180) = true:=decide_eq_true c4
  clear c4
  by_cases c5 : t180 < (y177.length : Int)
  ·rw [if_pos c5] at H
   have c5b0 : decide (t180 < (y177.length : Int)) = true:=decide_eq_true c5
   clear c5
   simp only [Option.some.injEq,Prod.mk.injEq] at H
   obtain ⟨rfl,rfl,rfl⟩:=H
   go_enter Tryz.func76,Tryz.ntmps76
   go_wp2_with (first | ((with_reducible refine gD 2 rfl ?_);refine box_event rfl (N:=2) rfl (cs:=#[.int .i64 0,.int .i64 0]) (t:=34) hr_ ?_;intro gb174 hg w6 hbox hb;replace HB:=am (below_step m23_ hb);have BK174:=am hbox;have GW174:=am ((by rw [hg];exact (keep_size (w:=w) (g:=g) (row:=none) m24_) : w.heap.size ≤ gb174));have GE174:=am ((Nat.le_trans HW0.out (by rw [hg];exact (keep_size (w:=w) (g:=g) (row:=none) m24_) : w.heap.size ≤ gb174) : w0.heap.size ≤ gb174));replace HK:=am (KeepBut.trans m24_ (KeepBut.of_below hb g none) (.inl rfl));have NB0_174:=am ((by rw [hg];exact Nat.ne_of_lt (IsS84.lt (show IsS84 w0 _ g s0_0 s0_1 from m25_)) : g ≠ gb174));have NB174_0:=am ((by rw [hg];exact Nat.ne_of_gt (IsS84.lt (show IsS84 w0 _ g s0_0 s0_1 from m25_)) : gb174 ≠ g));replace HI0:=am (IsS84.below m25_ hb);clear hb hbox hg) | ((with_reducible refine gC 63 rfl ?_);refine gL (some 4) Tryz.func63 #[.pointer (some ⟨g,0,none⟩),.int .i64 3] ?_;(with_reducible refine (spec_l20Rd_pick.calls k g s0_0 s0_1 3 t175 t176 w0 _ ?side1 ?side2 A2.out).mono ?_);(case side1=>exact m28_);(case side2=>exact m26_);rintro e w7 ⟨rfl,hi,hb,hk⟩;refine ⟨_,rfl,?_⟩;replace BK174:=am (KeepBut.blk hk (g':=gb174) (o:=.cells #[.int .i64 0,.int .i64 0] 34 (0,0)) (bk BK174) NB174_0.out (by simp));replace HK:=am (KeepBut.trans m27_ hk (.inl rfl));replace HB:=am hb;replace HI0:=am hi;(try clear hb);(try clear hk);(try clear hi)) | ((with_reducible refine gD 6 rfl ?_);refine Kd.R_lit (Kd.int .i64) _ 3 rfl (N:=6) rfl (xs:=([21,21,80,7] : List Int)) (inner:=[.int .i64 21,.int .i64 21,.int .i64 80,.int .i64 7]) (ok:=fun _=>True) (okp:=fun _=>True) hr_ ?hp (fun _ hk=>hk) trivial (Below.refl _ _) (Nat.le_refl _) (by simp) ?_;(case hp=>exact (Reps.one (show Kd.M (Kd.int .i64) _ _ _ 21 [.int .i64 21] from rfl) (Reps.one (show Kd.M (Kd.int .i64) _ _ _ 21 [.int .i64 21] from rfl) (Reps.one (show Kd.M (Kd.int .i64) _ _ _ 80 [.int .i64 80] from rfl) (Reps.one (show Kd.M (Kd.int .i64) _ _ _ 7 [.int .i64 7] from rfl) (Reps.none _ _))))));intro v178 w8 ho9 hb hg_ hnew_;clear hg_ hnew_;(first | rw [← Ny177.out] at ho9 | (simp only [Int.reduceToNat] at ho9;rw [← Ny177.out] at ho9));have HO179:=am (Kd.R_lower ho9 (keep_size (w:=w) (g:=g) (row:=none) m27_));replace BK174:=bkB BK174 hb;replace HK:=am (KeepBut.trans m27_ (KeepBut.of_below hb g none) (.inl rfl));replace HB:=am (below_step m26_ hb);replace HI0:=am (IsS84.below m28_ hb);clear hb ho9) | ((with_reducible refine gC 63 rfl ?_);refine gL (some 8) Tryz.func63 #[.pointer (some ⟨g,0,none⟩),.int .i64 4] ?_;(with_reducible refine (spec_l20Rd_pick.calls k g s0_0 t176 4 t180 t181 w0 _ ?side1 ?side2 A3.out).mono ?_);(case side1=>exact m28_);(case side2=>exact m26_);rintro e w10 ⟨rfl,hi,hb,hk⟩;refine ⟨_,rfl,?_⟩;replace BK174:=am (KeepBut.blk hk (g':=gb174) (o:=.cells #[.int .i64 0,.int .i64 0] 34 (0,0)) (bk BK174) NB174_0.out (by simp));replace HO179:=am (Kd.R_mono (Kd.R_keep (IsS84.apart (show IsS84 w0 _ g s0_0 t176 from m28_) (rs HO179) (by decide)) hk (fun _ h=>h.2)) (fun _ h=>h.1));replace HK:=am (KeepBut.trans m27_ hk (.inl rfl));replace HB:=am hb;replace HI0:=am hi;(try clear hb);(try clear hk);(try clear hi);obtain ⟨Ao11,co11,eo11⟩:=Kd.R_slice HO179.out;subst eo11;have p182 : 0 ≤ (t180 : Int):=of_decide_eq_true da_;have q182 : t180 < (y177.length : Int):=of_decide_eq_true da_;obtain ⟨ad182,e182,hx182_0⟩:=Kd.at_int (Kd.R_reads' HO179.out).2.2 t180 p182 q182;cases e182;replace p182:=eq_true p182;replace q182:=eq_true q182;have:=NB174_0.out;have:=NB0_174.out;have:=bcell BK174 0;have:=bcell BK174 1;have:=bfz BK174 0;have:=bfz BK174 1))
   refine bodyPost_ret (results_cell_row rfl _ _ gb174 34 #[.int .i64 (wrap64 (100 + t175)),.int .i64 (rd y177 t180)] (0,0) _ rfl (by (with_reducible repeat refine bu ?_);refine blk_put (cs:=#[.int .i64 (wrap64 (100 + t175)),.int .i64 0]) ?_ 1 _ rfl;(with_reducible repeat refine bu ?_);refine blk_put (cs:=#[.int .i64 0,.int .i64 0]) ?_ 0 _ rfl;(with_reducible repeat refine bu ?_);exact BK174.out) Tryz.underlying34 rfl (by kernel_rfl)) rfl ?_
   exact ⟨fi_,m28_,m26_,m27_⟩
  ·rw [if_neg c5] at H
   exact absurd H (by simp)
 ·rw [if_neg c4] at H
  exact absurd H (by simp)
mutual
def spec_l20Table.l0 : Nat → Int → Int → List Int → Int → List (S34) → Option ((List (S34)) × Int)
 | 0,_,_,_,_,_=>none
 | k + 1,x1,x6,x1000,x1001,x185000=>if x6 > 0 then ((spec_l20In.f k x1000 x1001).bind fun bt187=>((spec_MapPut.f k x185000 bt187.1 bt187.2.1).bind fun bt190=>(spec_l20Table.l0 k x1 (wrap64 (x6 - 1)) x1000 bt187.2.2 bt190.1))) else ((spec_l20Rd_odd.f k x1000 x1001 x1).bind fun bt195=>(if bt195.1 = true then ((spec_l20Rd_pick.f k x1000 bt195.2 3).bind fun bt197=>(if bt197.1 = 0 then ((spec_l20Out.f k x1000 bt197.2).bind fun bt199=>(if x185000.length < 8796093022208 then (some ((x185000 ++ [(⟨bt199.1,bt199.2.1⟩ : S34)]),bt199.2.2)) else (none))) else (if bt197.1 = 1 then (if x185000.length < 8796093022208 then ((some (x185000 ++ [(⟨9,9⟩ : S34)] : List (S34))).bind fun y205=>(if y205.length < 8796093022208 then (some ((y205 ++ [(⟨9,9⟩ : S34)]),bt197.2)) else (none))) else (none)) else (spec_l20Table.l1 k x1000 bt197.2 x185000)))) else (some (x185000,bt195.2))))
def spec_l20Table.l1 : Nat → List Int → Int → List (S34) → Option ((List (S34)) × Int)
 | 0,_,_,_=>none
 | k + 1,x1000,x1001,x185000=>if (x185000.length : Int) ≤ 6 then (if x185000.length < 8796093022208 then (spec_l20Table.l1 k x1000 x1001 (x185000 ++ [(⟨8,wrap64 (1 + (x185000.length : Int))⟩ : S34)])) else (none)) else (some (x185000,x1001))
end
def spec_l20Table.f (k : Nat) (s0_0 : List Int) (s0_1 : Int) (a1 : Int) : Option ((List (S34)) × Int):=(spec_l20Rd_pick.f k s0_0 s0_1 8).bind fun bt185=>(spec_l20Table.l0 k a1 bt185.1 s0_0 bt185.2 ([] : List (S34)))
theorem spec_l20Table.mono_l : ∀ k,(∀ y0 y1 y2 y3 y4,LeO (spec_l20Table.l0 k y0 y1 y2 y3 y4) (spec_l20Table.l0 (k + 1) y0 y1 y2 y3 y4)) ∧ (∀ y0 y1 y2,LeO (spec_l20Table.l1 k y0 y1 y2) (spec_l20Table.l1 (k + 1) y0 y1 y2))
 | 0=>⟨fun _ _ _ _ _ r h=>by simp [spec_l20Table.l0] at h,fun _ _ _ r h=>by simp [spec_l20Table.l1] at h⟩
 | k + 1=>by
  obtain ⟨ih0,ih1⟩:=spec_l20Table.mono_l k
  refine ⟨?_,?_⟩
  ·intro y0 y1 y2 y3 y4
   unfold spec_l20Table.l0
   repeat' first | (with_reducible first | exact ih0 _ _ _ _ _ | exact ih1 _ _ _ | exact spec_MapPut.mono _ _ _ _ | exact spec_l20In.mono _ _ _ | exact spec_l20Out.mono _ _ _ | exact spec_l20Rd_odd.mono _ _ _ _ | exact spec_l20Rd_pick.mono _ _ _ _ | exact LeO.refl _ | exact LeO.none _ | refine LeO.ite ?_ ?_ | refine LeO.bind ?_ (fun _=>?_)) | exact ih0 _ _ _ _ _ | exact ih1 _ _ _ | exact spec_MapPut.mono _ _ _ _ | exact spec_l20In.mono _ _ _ | exact spec_l20Out.mono _ _ _ | exact spec_l20Rd_odd.mono _ _ _ _ | exact spec_l20Rd_pick.mono _ _ _ _ | exact LeO.none _ | refine LeO.ite ?_ ?_ | refine LeO.bind ?_ (fun _=>?_)
  ·intro y0 y1 y2
   unfold spec_l20Table.l1
   repeat' first | (with_reducible first | exact ih0 _ _ _ _ _ | exact ih1 _ _ _ | exact spec_MapPut.mono _ _ _ _ | exact spec_l20In.mono _ _ _ | exact spec_l20Out.mono _ _ _ | exact spec_l20Rd_odd.mono _ _ _ _ | exact spec_l20Rd_pick.mono _ _ _ _ | exact LeO.refl _ | exact LeO.none _ | refine LeO.ite ?_ ?_ | refine LeO.bind ?_ (fun _=>?_)) | exact ih0 _ _ _ _ _ | exact ih1 _ _ _ | exact spec_MapPut.mono _ _ _ _ | exact spec_l20In.mono _ _ _ | exact spec_l20Out.mono _ _ _ | exact spec_l20Rd_odd.mono _ _ _ _ | exact spec_l20Rd_pick.mono _ _ _ _ | exact LeO.none _ | refine LeO.ite ?_ ?_ | refine LeO.bind ?_ (fun _=>?_)
theorem spec_l20Table.mono : ∀ a0 a1 a2 k,LeO (spec_l20Table.f k a0 a1 a2) (spec_l20Table.f (k + 1) a0 a1 a2):=by
 intro a0 a1 a2 k
 obtain ⟨ih0,ih1⟩:=spec_l20Table.mono_l k
 unfold spec_l20Table.f
 repeat' first | (with_reducible first | exact ih0 _ _ _ _ _ | exact ih1 _ _ _ | exact spec_MapPut.mono _ _ _ _ | exact spec_l20In.mono _ _ _ | exact spec_l20Out.mono _ _ _ | exact spec_l20Rd_odd.mono _ _ _ _ | exact spec_l20Rd_pick.mono _ _ _ _ | exact LeO.refl _ | exact LeO.none _ | refine LeO.ite ?_ ?_ | refine LeO.bind ?_ (fun _=>?_)) | exact ih0 _ _ _ _ _ | exact ih1 _ _ _ | exact spec_MapPut.mono _ _ _ _ | exact spec_l20In.mono _ _ _ | exact spec_l20Out.mono _ _ _ | exact spec_l20Rd_odd.mono _ _ _ _ | exact spec_l20Rd_pick.mono _ _ _ _ | exact LeO.none _ | refine LeO.ite ?_ ?_ | refine LeO.bind ?_ (fun _=>?_)
def spec_l20Table.T5 : Bool × List (List Nat × List Nat):=(true,[([],[]),([],[]),([1],[1]),([0,2,2],[0,2]),([3],[3]),([4],[4]),([4],[4]),([],[]),([7,5,3,0,1,2,3,4,5,7],[5,7]),([6,8,0,1,2,3,4,5,6,7,8],[6])])
def spec_l20Table.B5 : List Nat:=[0,0,2,7,15,31,31,0,191,511]
theorem spec_l20Table.tab5 : rtab .any (opsOf Tryz.f41 5) = spec_l20Table.T5:=by kernel_rfl
theorem spec_l20Table.bits5 : waitsOk spec_l20Table.T5.2 spec_l20Table.B5 = true:=by kernel_rfl
def spec_l20Table.T12 : Bool × List (List Nat × List Nat):=(true,[([],[]),([0],[0]),([],[]),([2],[2]),([3],[3]),([1,4,3],[1,4]),([0,1,2,3,4,5],[]),([6,5,5,0,1,2,3,4,5],[5,6])])
def spec_l20Table.B12 : List Nat:=[0,1,0,4,12,31,63,127]
theorem spec_l20Table.tab12 : rtab .any (opsOf Tryz.f41 12) = spec_l20Table.T12:=by kernel_rfl
theorem spec_l20Table.bits12 : waitsOk spec_l20Table.T12.2 spec_l20Table.B12 = true:=by kernel_rfl
set_option maxHeartbeats 8000000 in
set_option maxRecDepth 100000 in
theorem spec_l20Table.calls (k : Nat) (g : Nat) (s0_0 : List Int) (s0_1 : Int) (a1 : Int) (r1 : List (S34)) (r2 : Int) (w0 w : World) (hI : IsS84 w0 w g s0_0 s0_1) (hB : Below w0.heap.size w0 w) (h : spec_l20Table.f k s0_0 s0_1 a1 = some (r1,r2)) :
  Calls Tryz.prog 41 #[.pointer (some ⟨g,0,none⟩),.int .i64 a1] w fun e w'=>∃ v0_ : Value,e = .returned (.agg #[v0_]) ∧ Kd.R k34 34 w' w.heap.size (fun _=>True) v0_ r1 ∧ IsS84 w0 w' g s0_0 r2 ∧ Below w0.heap.size w0 w' ∧ KeepBut w w' g none:=by
 have hu25:=Tryz.underlying25
 have hu34:=Tryz.underlying34
 have HI0:=am hI
 have HK:=am (KeepBut.refl w g none)
 have HL:=am hB.size
 clear hI
 have HW0:=am hB.size
 have HB:=am hB
 clear hB
 have H : ((spec_l20Rd_pick.f k s0_0 s0_1 8).bind fun bt185=>(spec_l20Table.l0 k a1 bt185.1 s0_0 bt185.2 ([] : List (S34)))) = some (r1,r2):=h
 clear h
 obtain ⟨⟨t185,t186⟩,A3,H⟩:=bse H
 try dsimp only at H
 have H':=am H
 clear H
 go_enter Tryz.func41,Tryz.ntmps41
 go_wp2_with (first | ((with_reducible refine gD 4 rfl ?_);refine box_event rfl (N:=4) rfl (cs:=#[.slice none 0 0]) (t:=25) hr_ ?_;intro gb183 hg w4 hbox hb;replace HB:=am (below_step m23_ hb);have BK183:=am hbox;have GW183:=am ((by rw [hg];exact (keep_size (w:=w) (g:=g) (row:=none) m24_) : w.heap.size ≤ gb183));have GE183:=am ((Nat.le_trans HW0.out (by rw [hg];exact (keep_size (w:=w) (g:=g) (row:=none) m24_) : w.heap.size ≤ gb183) : w0.heap.size ≤ gb183));replace HK:=am (KeepBut.trans m24_ (KeepBut.of_below hb g none) (.inl rfl));have NB0_183:=am ((by rw [hg];exact Nat.ne_of_lt (IsS84.lt (show IsS84 w0 _ g s0_0 s0_1 from m25_)) : g ≠ gb183));have NB183_0:=am ((by rw [hg];exact Nat.ne_of_gt (IsS84.lt (show IsS84 w0 _ g s0_0 s0_1 from m25_)) : gb183 ≠ g));replace HI0:=am (IsS84.below m25_ hb);clear hb hbox hg) | ((with_reducible refine gD 5 rfl ?_);refine box_event rfl (N:=5) rfl (cs:=#[.slice none 0 0]) (t:=25) hr_ ?_;intro gb184 hg w5 hbox hb;replace HB:=am (below_step m26_ hb);have BK184:=am hbox;have GW184:=am ((by rw [hg];exact (keep_size (w:=w) (g:=g) (row:=none) m27_) : w.heap.size ≤ gb184));have GE184:=am ((Nat.le_trans HW0.out (by rw [hg];exact (keep_size (w:=w) (g:=g) (row:=none) m27_) : w.heap.size ≤ gb184) : w0.heap.size ≤ gb184));replace HK:=am (KeepBut.trans m27_ (KeepBut.of_below hb g none) (.inl rfl));have NB183_184:=neL BK183 hg;have NB184_183:=neG BK183 hg;replace BK183:=bkB BK183 hb;have NB0_184:=am ((by rw [hg];exact Nat.ne_of_lt (IsS84.lt (show IsS84 w0 _ g s0_0 s0_1 from m28_)) : g ≠ gb184));have NB184_0:=am ((by rw [hg];exact Nat.ne_of_gt (IsS84.lt (show IsS84 w0 _ g s0_0 s0_1 from m28_)) : gb184 ≠ g));replace HI0:=am (IsS84.below m28_ hb);clear hb hbox hg;have:=NB184_183.out;have:=NB183_184.out;have:=NB184_0.out;have:=NB0_184.out;have hcz8_0:=bcell BK184 0;have hfz8_0:=blk_frozen BK184.out 0) | ((with_reducible refine gC 63 rfl ?_);refine gL (some 11) Tryz.func63 #[.pointer (some ⟨g,0,none⟩),.int .i64 8] ?_;(with_reducible refine (spec_l20Rd_pick.calls k g s0_0 s0_1 8 t185 t186 w0 _ ?side1 ?side2 A3.out).mono ?_);(case side1=>exact m28_);(case side2=>exact m26_);rintro e w9 ⟨rfl,hi,hb,hk⟩;refine ⟨_,rfl,?_⟩;replace BK183:=am (KeepBut.blk hk (g':=gb183) (o:=.cells #[.slice none 0 0] 25 (0,0)) (by (with_reducible repeat refine bu ?_);refine blk_far ?_ NB183_184.out _;(with_reducible repeat refine bu ?_);exact BK183.out) NB183_0.out (by simp));replace BK184:=am (KeepBut.blk hk (g':=gb184) (o:=.cells #[.slice none 0 0] 25 (0,0)) (by (with_reducible repeat refine bu ?_);refine blk_put (cs:=#[.slice none 0 0]) ?_ 0 _ rfl;(with_reducible repeat refine bu ?_);exact BK184.out) NB184_0.out (by simp));replace HK:=am (KeepBut.trans m27_ hk (.inl rfl));replace HB:=am hb;replace HI0:=am hi;(try clear hb);(try clear hk);(try clear hi)))
 go_loopg [6] k (fun kq v6 w'=>∃ (x6_1 : Int) (x1001_1 : Int) (x185000_1 : List (S34)) (u185000 : Value),v6 = .int .i64 x6_1 ∧ Aside0 (spec_l20Table.l0 kq a1 x6_1 s0_0 x1001_1 x185000_1 = some (r1,r2)) ∧ Aside0 (kq ≤ k) ∧ Aside0 (Kd.R k34 34 w' w.heap.size (fun _=>True) u185000 x185000_1) ∧ Aside0 (w'.heap[gb183]? = some (.cells #[(.slice none 0 0)] 25 (0,0))) ∧ Aside0 (w'.heap[gb184]? = some (.cells #[u185000] 25 (0,0))) ∧ Aside0 (IsS84 w0 w' g s0_0 x1001_1) ∧ Aside0 (KeepBut w w' g none) ∧ Aside0 (Below w0.heap.size w0 w'))
 case atStart=>exact ⟨(t185),(t186),(([] : List (S34))),(.slice none 0 0),rs_,H',⟨Nat.le_refl _⟩,⟨by first | exact Kd.R_nil _ _ _ _ _ | exact Kd.N_nil _ _ _ _ _ | exact Kd.V_nil _ _ _ _ _ | exact Kd.Q_nil _ _ _ _ _ | exact Kd.S_nil _ _ _ _ _⟩,⟨bk BK183⟩,⟨bk BK184⟩,⟨m28_⟩,⟨m27_⟩,⟨m26_⟩⟩
 case round=>
  clear H'
  try clear p2
  try clear c4
  try clear c6
  try clear c7
  try clear hcz8_0
  try clear hfz8_0
  obtain ⟨x6_1,x1001_1,x185000_1,u185000,rfl,HA,HK1,HO_185000,BK183,BK184,HI0,HK,HB⟩:=hrel
  cases gk with
  | zero=>exact absurd HA.out (by simp [spec_l20Table.l0])
  | succ k1=>
   have H:=HA.out
   clear HA
   simp only [spec_l20Table.l0] at H
   by_cases c10 : x6_1 > 0
   ·rw [if_pos c10] at H
    have c10b0 : decide (0 < x6_1) = true:=decide_eq_true c10
    clear c10
    obtain ⟨⟨t187,t188,t189⟩,A11,H⟩:=bse H
    try dsimp only at H
    obtain ⟨⟨t190,t193⟩,A12,H⟩:=bse H
    try dsimp only at H
    have H':=am H
    clear H
    obtain ⟨Ao13,co13,eo13⟩:=Kd.R_slice HO_185000.out
    subst eo13
    try go_wp2
    replace HO_185000:=am (Kd.R_drew HO_185000.out)
    replace BK183:=am (blk_drew BK183.out)
    replace BK184:=am (blk_drew BK184.out)
    replace HI0:=am (IsS84.drew HI0.out)
    replace HK:=am (keep_drew HK.out)
    replace HB:=am (below_drew1 HB.out)
    refine start_ (n:=10) (S:=fun w'=>w'.cell? ⟨gb184,0,none⟩ = some (.slice Ao13 x185000_1.length co13)) (ds:=[]) #[false,false,false,false,false,false,false,false,false,false] (by kernel_rfl) rfl rfl (bcell BK184 0) (fun hHeld=>?_);refine with_tabW spec_l20Table.tab5 spec_l20Table.bits5 (fun HT_ HW_=>?_)
    generalize wr.drew = w14 at HO_185000 BK183 BK184 HI0 HK HB hHeld ⊢
    refine pu_ 1 (some 18) (bm 10 2) ?_
    refine take_ (i:=0) (N:=some 17) (v:=?_) (a':=?_) #[true,true,false,false,false,false,false,false,false,false] rfl rfl (take_ofW HT_.out HW_.out (by kernel_rfl)) (fun _ _ _ h=>h) (Or.inl ⟨by rfl,?_⟩) hHeld ?_ ?_
    rotate_left
    ·intro w' s0
     go_simp
     with_reducible rfl
    rotate_left
    ·simp only [Act.put,List.setIfInBounds_toArray,List.set_cons_zero,List.set_cons_succ,i64_w,i32_w]
     rfl
    refine join_ (σ:=Value × Nat) 2 #[true,true,true,true,true,true,true,true,false,false] (fun s_=>[(19,.agg #[.int .i64 t187,.int .i64 t188]),(20,.tuple #[.agg #[s_.1],.int .i64 t193]),(7,.pointer (some ⟨s_.2,0,none⟩)),(16,.tuple #[.agg #[s_.1],.int .i64 t193]),(21,.agg #[s_.1]),(22,.int .i64 t193)]) (fun s_ w'=>(w'.cell? ⟨gb184,0,none⟩ = some (.slice Ao13 x185000_1.length co13)) ∧ (Kd.R k34 34 w' w.heap.size (fun k_=>some k_ ≠ (.slice Ao13 x185000_1.length co13 : Value).ownBlock) s_.1 t190) ∧ (Kd.R k34 34 w' w.heap.size (fun k_=>some k_ ≠ (s_.1 : Value).ownBlock) (.slice Ao13 x185000_1.length co13) x185000_1) ∧ (w'.heap[gb183]? = some (.cells #[.slice none 0 0] 25 (0,0))) ∧ (w'.heap[gb184]? = some (.cells #[.slice Ao13 x185000_1.length co13] 25 (0,0))) ∧ (w'.heap[s_.2]? = some (.cells #[.slice none 0 0] 25 (0,0))) ∧ (w.heap.size ≤ s_.2) ∧ (w0.heap.size ≤ s_.2) ∧ (g ≠ s_.2) ∧ (s_.2 ≠ g) ∧ (gb183 ≠ s_.2) ∧ (s_.2 ≠ gb183) ∧ (gb184 ≠ s_.2) ∧ (s_.2 ≠ gb184) ∧ (IsS84 w0 w' g s0_0 t189) ∧ (KeepBut w w' g none) ∧ (Below w0.heap.size w0 w')) ?_ ?_
    rotate_left
    ·intro hCont
     refine two_ (i:=2) (j:=7) (Ni:=some 19) (Nj:=some 7) #[true,true,true,false,false,false,false,false,false,false] #[true,true,false,false,false,false,false,true,false,false] rfl rfl rfl rfl (two_of HT_.out (by kernel_rfl)) (by decide) (by decide) (fun K hK=>?_) (fun K hK=>?_)
     ·skip
      refine gR Tryz.func75 #[.pointer (some ⟨g,0,none⟩)] ?_
      with_reducible refine (spec_l20In.calls k1 g s0_0 x1001_1 t187 t188 t189 w0 _ ?side1 ?side2 A11.out).mono ?_
      (case side1=>exact m28_)
      (case side2=>exact m26_)
      rintro e w15 ⟨rfl,hi,hb,hk⟩
      refine ⟨_,rfl,?_⟩
      replace HO_185000:=am (Kd.R_mono (Kd.R_keep (IsS84.apart (show IsS84 w0 _ g s0_0 x1001_1 from m28_) (rs HO_185000) (by decide)) hk (fun _ h=>h.2)) (fun _ h=>h.1))
      replace BK183:=am (KeepBut.blk hk (g':=gb183) (o:=.cells #[.slice none 0 0] 25 (0,0)) (bk BK183) NB183_0.out (by simp))
      replace BK184:=am (KeepBut.blk hk (g':=gb184) (o:=.cells #[.slice Ao13 x185000_1.length co13] 25 (0,0)) (bk BK184) NB184_0.out (by simp))
      replace HK:=am (KeepBut.trans m27_ hk (.inl rfl))
      replace HB:=am hb
      replace HI0:=am hi
      (try clear hb)
      (try clear hb2)
      (try clear hk)
      (try clear hi)
      refine hK.out _ _ (bcell BK184 0) (fun hHeld=>?_)
      clear hK K
      refine nm_ ?_
      refine two_ (i:=3) (j:=7) (Ni:=some 20) (Nj:=some 7) #[true,true,true,true,false,false,false,false,false,false] #[true,true,true,false,false,false,false,true,false,false] rfl rfl rfl rfl (two_of HT_.out (by kernel_rfl)) (by decide) (by decide) (fun K hK=>?_) (fun K hK=>?_)
      ·skip
       refine gR Tryz.func74 #[.agg #[.slice Ao13 x185000_1.length co13],.agg #[.int .i64 t187,.int .i64 t188]] ?_
       with_reducible refine (spec_MapPut.calls k1 _ _ x185000_1 t187 t188 t190 t193 _ ?side1 ?side2 A12.out).mono ?_
       (case side1=>exact rcx HO_185000)
       (case side2=>exact (Kd.R_reads' HO_185000.out).2.1)
       rintro e w16 ⟨v191,rfl,ho0,hb⟩
       refine ⟨_,rfl,?_⟩
       have HO192:=am (Kd.R_lower (Kd.R_new' ho0 (Kd.R_lt (rs HO_185000))) (keep_size (w:=w) (g:=g) (row:=none) m27_))
       replace HO_185000:=am (Kd.R_elder' (rs HO_185000) (Kd.R_base ho0) hb)
       replace BK183:=bkB BK183 hb
       replace BK184:=bkB BK184 hb
       replace HK:=am (KeepBut.trans m27_ (KeepBut.of_below hb g none) (.inl rfl))
       replace HB:=am (below_step m26_ hb)
       replace HI0:=am (IsS84.below m28_ hb)
       (try clear hb)
       (try clear hb2)
       (try clear hk)
       (try clear hi)
       (try clear ho0)
       refine hK.out _ _ (bcell BK184 0) (fun hHeld=>?_)
       clear hK K
       refine nm_ ?_
       refine pu_ 4 (some 16) (bm 10 31) ?_
       refine pu_ 5 (some 21) (bm 10 63) ?_
       refine pu_ 6 (some 22) (bm 10 127) ?_
       refine on_ 7 (some 7) (bm 10 255) (fun K hK=>?_)
       refine box_step rfl (N:=7) rfl (cs:=#[.slice none 0 0]) (t:=25) hr_ ?_
       intro gb194 hg w17 hbox hb
       replace HO_185000:=am (Kd.R_below (rs HO_185000) hb)
       replace HO192:=am (Kd.R_below (rs HO192) hb)
       replace HB:=am (below_step m26_ hb)
       have BK194:=am hbox
       have GW194:=am ((by rw [hg];exact (keep_size (w:=w) (g:=g) (row:=none) m27_) : w.heap.size ≤ gb194))
       have GE194:=am ((Nat.le_trans HW0.out (by rw [hg];exact (keep_size (w:=w) (g:=g) (row:=none) m27_) : w.heap.size ≤ gb194) : w0.heap.size ≤ gb194))
       replace HK:=am (KeepBut.trans m27_ (KeepBut.of_below hb g none) (.inl rfl))
       have NB183_194:=neL BK183 hg
       have NB194_183:=neG BK183 hg
       replace BK183:=bkB BK183 hb
       have NB184_194:=neL BK184 hg
       have NB194_184:=neG BK184 hg
       replace BK184:=bkB BK184 hb
       have NB0_194:=am ((by rw [hg];exact Nat.ne_of_lt (IsS84.lt (show IsS84 w0 _ g s0_0 t189 from m28_)) : g ≠ gb194))
       have NB194_0:=am ((by rw [hg];exact Nat.ne_of_gt (IsS84.lt (show IsS84 w0 _ g s0_0 t189 from m28_)) : gb194 ≠ g))
       replace HI0:=am (IsS84.below m28_ hb)
       clear hb hbox hg
       refine hK.out _ _ (bcell BK184 0) (fun hHeld=>?_)
       clear hK K
       refine nm_ ?_
       exact norm_ (by simp only [putAll,Act.put,List.setIfInBounds_toArray,List.set_cons_zero,List.set_cons_succ]) (hCont (v191,gb194) _ ⟨hHeld,(by (with_reducible repeat apply ru);exact Kd.R_mono HO192.out (fun _ hk=>hk.2)),(by (with_reducible repeat apply ru);exact Kd.R_mono HO_185000.out (fun _ hk=>hk.2)),(bk BK183),(bk BK184),(bk BK194),GW194.out,GE194.out,NB0_194.out,NB194_0.out,NB183_194.out,NB194_183.out,NB184_194.out,NB194_184.out,m28_,m27_,m26_⟩)
      ·skip
       refine box_step rfl (N:=7) rfl (cs:=#[.slice none 0 0]) (t:=25) hr_ ?_
       intro gb194 hg w16 hbox hb
       replace HO_185000:=am (Kd.R_below (rs HO_185000) hb)
       replace HB:=am (below_step m26_ hb)
       have BK194:=am hbox
       have GW194:=am ((by rw [hg];exact (keep_size (w:=w) (g:=g) (row:=none) m27_) : w.heap.size ≤ gb194))
       have GE194:=am ((Nat.le_trans HW0.out (by rw [hg];exact (keep_size (w:=w) (g:=g) (row:=none) m27_) : w.heap.size ≤ gb194) : w0.heap.size ≤ gb194))
       replace HK:=am (KeepBut.trans m27_ (KeepBut.of_below hb g none) (.inl rfl))
       have NB183_194:=neL BK183 hg
       have NB194_183:=neG BK183 hg
       replace BK183:=bkB BK183 hb
       have NB184_194:=neL BK184 hg
       have NB194_184:=neG BK184 hg
       replace BK184:=bkB BK184 hb
       have NB0_194:=am ((by rw [hg];exact Nat.ne_of_lt (IsS84.lt (show IsS84 w0 _ g s0_0 t189 from m28_)) : g ≠ gb194))
       have NB194_0:=am ((by rw [hg];exact Nat.ne_of_gt (IsS84.lt (show IsS84 w0 _ g s0_0 t189 from m28_)) : gb194 ≠ g))
       replace HI0:=am (IsS84.below m28_ hb)
       clear hb hbox hg
       refine hK.out _ _ (bcell BK184 0) (fun hHeld=>?_)
       clear hK K
       refine nm_ ?_
       refine on_ 3 (some 20) (bm 10 143) (fun K hK=>?_)
       refine gR Tryz.func74 #[.agg #[.slice Ao13 x185000_1.length co13],.agg #[.int .i64 t187,.int .i64 t188]] ?_
       with_reducible refine (spec_MapPut.calls k1 _ _ x185000_1 t187 t188 t190 t193 _ ?side1 ?side2 A12.out).mono ?_
       (case side1=>exact rcx HO_185000)
       (case side2=>exact (Kd.R_reads' HO_185000.out).2.1)
       rintro e w17 ⟨v191,rfl,ho0,hb⟩
       refine ⟨_,rfl,?_⟩
       have HO192:=am (Kd.R_lower (Kd.R_new' ho0 (Kd.R_lt (rs HO_185000))) (keep_size (w:=w) (g:=g) (row:=none) m27_))
       replace HO_185000:=am (Kd.R_elder' (rs HO_185000) (Kd.R_base ho0) hb)
       replace BK183:=bkB BK183 hb
       replace BK184:=bkB BK184 hb
       replace BK194:=bkB BK194 hb
       replace HK:=am (KeepBut.trans m27_ (KeepBut.of_below hb g none) (.inl rfl))
       replace HB:=am (below_step m26_ hb)
       replace HI0:=am (IsS84.below m28_ hb)
       (try clear hb)
       (try clear hb2)
       (try clear hk)
       (try clear hi)
       (try clear ho0)
       refine hK.out _ _ (bcell BK184 0) (fun hHeld=>?_)
       clear hK K
       refine nm_ ?_
       refine pu_ 4 (some 16) (bm 10 159) ?_
       refine pu_ 5 (some 21) (bm 10 191) ?_
       refine pu_ 6 (some 22) (bm 10 255) ?_
       exact norm_ (by simp only [putAll,Act.put,List.setIfInBounds_toArray,List.set_cons_zero,List.set_cons_succ]) (hCont (v191,gb194) _ ⟨hHeld,(by (with_reducible repeat apply ru);exact Kd.R_mono HO192.out (fun _ hk=>hk.2)),(by (with_reducible repeat apply ru);exact Kd.R_mono HO_185000.out (fun _ hk=>hk.2)),(bk BK183),(bk BK184),(bk BK194),GW194.out,GE194.out,NB0_194.out,NB194_0.out,NB183_194.out,NB194_183.out,NB184_194.out,NB194_184.out,m28_,m27_,m26_⟩)
     ·skip
      refine box_step rfl (N:=7) rfl (cs:=#[.slice none 0 0]) (t:=25) hr_ ?_
      intro gb194 hg w15 hbox hb
      replace HO_185000:=am (Kd.R_below (rs HO_185000) hb)
      replace HB:=am (below_step m26_ hb)
      have BK194:=am hbox
      have GW194:=am ((by rw [hg];exact (keep_size (w:=w) (g:=g) (row:=none) m27_) : w.heap.size ≤ gb194))
      have GE194:=am ((Nat.le_trans HW0.out (by rw [hg];exact (keep_size (w:=w) (g:=g) (row:=none) m27_) : w.heap.size ≤ gb194) : w0.heap.size ≤ gb194))
      replace HK:=am (KeepBut.trans m27_ (KeepBut.of_below hb g none) (.inl rfl))
      have NB183_194:=neL BK183 hg
      have NB194_183:=neG BK183 hg
      replace BK183:=bkB BK183 hb
      have NB184_194:=neL BK184 hg
      have NB194_184:=neG BK184 hg
      replace BK184:=bkB BK184 hb
      have NB0_194:=am ((by rw [hg];exact Nat.ne_of_lt (IsS84.lt (show IsS84 w0 _ g s0_0 x1001_1 from m28_)) : g ≠ gb194))
      have NB194_0:=am ((by rw [hg];exact Nat.ne_of_gt (IsS84.lt (show IsS84 w0 _ g s0_0 x1001_1 from m28_)) : gb194 ≠ g))
      replace HI0:=am (IsS84.below m28_ hb)
      clear hb hbox hg
      refine hK.out _ _ (bcell BK184 0) (fun hHeld=>?_)
      clear hK K
      refine nm_ ?_
      refine on_ 2 (some 19) (bm 10 135) (fun K hK=>?_)
      refine gR Tryz.func75 #[.pointer (some ⟨g,0,none⟩)] ?_
      with_reducible refine (spec_l20In.calls k1 g s0_0 x1001_1 t187 t188 t189 w0 _ ?side1 ?side2 A11.out).mono ?_
      (case side1=>exact m28_)
      (case side2=>exact m26_)
      rintro e w16 ⟨rfl,hi,hb,hk⟩
      refine ⟨_,rfl,?_⟩
      replace HO_185000:=am (Kd.R_mono (Kd.R_keep (IsS84.apart (show IsS84 w0 _ g s0_0 x1001_1 from m28_) (rs HO_185000) (by decide)) hk (fun _ h=>h.2)) (fun _ h=>h.1))
      replace BK183:=am (KeepBut.blk hk (g':=gb183) (o:=.cells #[.slice none 0 0] 25 (0,0)) (bk BK183) NB183_0.out (by simp))
      replace BK184:=am (KeepBut.blk hk (g':=gb184) (o:=.cells #[.slice Ao13 x185000_1.length co13] 25 (0,0)) (bk BK184) NB184_0.out (by simp))
      replace BK194:=am (KeepBut.blk hk (g':=gb194) (o:=.cells #[.slice none 0 0] 25 (0,0)) (bk BK194) NB194_0.out (by simp))
      replace HK:=am (KeepBut.trans m27_ hk (.inl rfl))
      replace HB:=am hb
      replace HI0:=am hi
      (try clear hb)
      (try clear hb2)
      (try clear hk)
      (try clear hi)
      refine hK.out _ _ (bcell BK184 0) (fun hHeld=>?_)
      clear hK K
      refine nm_ ?_
      refine on_ 3 (some 20) (bm 10 143) (fun K hK=>?_)
      refine gR Tryz.func74 #[.agg #[.slice Ao13 x185000_1.length co13],.agg #[.int .i64 t187,.int .i64 t188]] ?_
      with_reducible refine (spec_MapPut.calls k1 _ _ x185000_1 t187 t188 t190 t193 _ ?side1 ?side2 A12.out).mono ?_
      (case side1=>exact rcx HO_185000)
      (case side2=>exact (Kd.R_reads' HO_185000.out).2.1)
      rintro e w17 ⟨v191,rfl,ho0,hb⟩
      refine ⟨_,rfl,?_⟩
      have HO192:=am (Kd.R_lower (Kd.R_new' ho0 (Kd.R_lt (rs HO_185000))) (keep_size (w:=w) (g:=g) (row:=none) m27_))
      replace HO_185000:=am (Kd.R_elder' (rs HO_185000) (Kd.R_base ho0) hb)
      replace BK183:=bkB BK183 hb
      replace BK184:=bkB BK184 hb
      replace BK194:=bkB BK194 hb
      replace HK:=am (KeepBut.trans m27_ (KeepBut.of_below hb g none) (.inl rfl))
      replace HB:=am (below_step m26_ hb)
      replace HI0:=am (IsS84.below m28_ hb)
      (try clear hb)
      (try clear hb2)
      (try clear hk)
      (try clear hi)
      (try clear ho0)
      refine hK.out _ _ (bcell BK184 0) (fun hHeld=>?_)
      clear hK K
      refine nm_ ?_
      refine pu_ 4 (some 16) (bm 10 159) ?_
      refine pu_ 5 (some 21) (bm 10 191) ?_
      refine pu_ 6 (some 22) (bm 10 255) ?_
      exact norm_ (by simp only [putAll,Act.put,List.setIfInBounds_toArray,List.set_cons_zero,List.set_cons_succ]) (hCont (v191,gb194) _ ⟨hHeld,(by (with_reducible repeat apply ru);exact Kd.R_mono HO192.out (fun _ hk=>hk.2)),(by (with_reducible repeat apply ru);exact Kd.R_mono HO_185000.out (fun _ hk=>hk.2)),(bk BK183),(bk BK184),(bk BK194),GW194.out,GE194.out,NB0_194.out,NB194_0.out,NB183_194.out,NB194_183.out,NB184_194.out,NB194_184.out,m28_,m27_,m26_⟩)
    rintro ⟨v191,gb194⟩ w18 ⟨hS_,h0_,h1_,h2_,h3_,h4_,h5_,h6_,h7_,h8_,h9_,h10_,h11_,h12_,h13_,h14_,h15_⟩
    have n0_ : Aside0 (Kd.R k34 34 w18 w.heap.size (fun k_=>some k_ ≠ (.slice Ao13 x185000_1.length co13 : Value).ownBlock) v191 t190):=⟨h0_⟩
    have n1_ : Aside0 (Kd.R k34 34 w18 w.heap.size (fun k_=>some k_ ≠ (v191 : Value).ownBlock) (.slice Ao13 x185000_1.length co13) x185000_1):=⟨h1_⟩
    have n2_ : Aside0 (w18.heap[gb183]? = some (.cells #[.slice none 0 0] 25 (0,0))):=⟨h2_⟩
    have n3_ : Aside0 (w18.heap[gb184]? = some (.cells #[.slice Ao13 x185000_1.length co13] 25 (0,0))):=⟨h3_⟩
    have n4_ : Aside0 (w18.heap[gb194]? = some (.cells #[.slice none 0 0] 25 (0,0))):=⟨h4_⟩
    have n5_ : Aside0 (w.heap.size ≤ gb194):=⟨h5_⟩
    have n6_ : Aside0 (w0.heap.size ≤ gb194):=⟨h6_⟩
    have n7_ : Aside0 (g ≠ gb194):=⟨h7_⟩
    have n8_ : Aside0 (gb194 ≠ g):=⟨h8_⟩
    have n9_ : Aside0 (gb183 ≠ gb194):=⟨h9_⟩
    have n10_ : Aside0 (gb194 ≠ gb183):=⟨h10_⟩
    have n11_ : Aside0 (gb184 ≠ gb194):=⟨h11_⟩
    have n12_ : Aside0 (gb194 ≠ gb184):=⟨h12_⟩
    have n13_ : Aside0 (IsS84 w0 w18 g s0_0 t189):=⟨h13_⟩
    have n14_ : Aside0 (KeepBut w w18 g none):=⟨h14_⟩
    have n15_ : Aside0 (Below w0.heap.size w0 w18):=⟨h15_⟩
    clear HO_185000
    clear BK183
    clear BK184
    clear HI0
    clear HK
    clear HB
    clear h0_ h1_ h2_ h3_ h4_ h5_ h6_ h7_ h8_ h9_ h10_ h11_ h12_ h13_ h14_ h15_
    have HO192:=n0_
    have HO_185000:=n1_
    have BK183:=n2_
    have BK184:=n3_
    have BK194:=n4_
    have GW194:=n5_
    have GE194:=n6_
    have NB0_194:=n7_
    have NB194_0:=n8_
    have NB183_194:=n9_
    have NB194_183:=n10_
    have NB184_194:=n11_
    have NB194_184:=n12_
    have HI0:=n13_
    have HK:=n14_
    have HB:=n15_
    clear n0_ n1_ n2_ n3_ n4_ n5_ n6_ n7_ n8_ n9_ n10_ n11_ n12_ n13_ n14_ n15_
    have hHeld : w18.cell? ⟨gb184,0,none⟩ = some (.slice Ao13 x185000_1.length co13):=hS_
    obtain ⟨Ao19,co19,eo19⟩:=Kd.R_slice HO192.out
    (first | subst eo19 | (injection eo19 with f1_ f2_ f3_;have f4_:=f1_.symm;have f5_:=f3_.symm;clear f1_ f2_ f3_;subst f4_;subst f5_))
    refine norm_ (a':=?_) ?_ ?_
    rotate_left
    ·simp only [putAll,Act.put,List.setIfInBounds_toArray,List.set_cons_zero,List.set_cons_succ]
     rfl
    refine on_ 8 none (bm 10 511) (fun K hK=>?_)
    have : w18.cell? ⟨gb194,0,none⟩ = some (.slice none 0 0):=bcell BK194 0
    have:=bfz BK194 0
    have:=NB183_194.out
    have:=NB184_194.out
    have:=NB194_183.out
    have:=NB194_184.out
    refine skip_ (w1:=?_) (by rfl) rfl ?_ ?_
    rotate_left
    ·go_simp
     rfl
    refine hK.out _ _ (((cell_far (p:=⟨gb194,_,none⟩) NB184_194.out _).trans (hHeld))) (fun hHeld=>?_)
    clear hK K
    refine pu_ 9 (some 8) (bm 10 1023) ?_
    refine done_ (done_of HT_.out (by kernel_rfl)) ?_
    have:=NB194_183.out
    have:=NB183_194.out
    have:=NB194_184.out
    have:=NB184_194.out
    have:=NB194_0.out
    have:=NB0_194.out
    have hcz24_0:=bcell BK194 0
    have hfz24_0:=blk_frozen BK194.out 0
    have:=NB184_183.out
    have:=NB183_184.out
    have:=NB184_0.out
    have:=NB0_184.out
    have hcz27_0:=bcell BK184 0
    have hfz27_0:=blk_frozen BK184.out 0
    try go_wp2
    go_roundg k1
    case measure=>have:=HK1.out;omega
    case rel=>exact ⟨(wrap64 (x6_1 - 1)),(t189),(t190),(.slice Ao19 t190.length co19),rs_,H',⟨by have:=HK1.out;omega⟩,⟨by (with_reducible repeat apply ru);exact Kd.R_mono (Kd.R_far (p:=⟨gb184,0,none⟩) (Kd.R_far (p:=⟨gb194,0,none⟩) (Kd.R_types (Kd.R_types HO192.out BK194.out (by decide)) BK184.out (by decide)) (fun _ hk=>hk.1.2) (.slice Ao19 t190.length co19)) (fun _ hk=>hk.2) (.slice Ao19 t190.length co19)) (fun _ hk=>trivial)⟩,bf_ BK183,⟨by (with_reducible repeat refine bu ?_);refine blk_put (cs:=#[.slice Ao13 x185000_1.length co13]) ?_ 0 _ rfl;(with_reducible repeat refine bu ?_);refine blk_far ?_ NB184_194.out _;(with_reducible repeat refine bu ?_);exact BK184.out⟩,⟨m28_⟩,⟨m27_⟩,⟨m26_⟩⟩
   ·rw [if_neg c10] at H
    have c10b0 : decide (0 < x6_1) = false:=decide_eq_false c10
    clear c10
    obtain ⟨⟨t195,t196⟩,A28,H⟩:=bse H
    try dsimp only at H
    by_cases c29 : t195 = true
    ·subst c29
     have H1 : ((spec_l20Rd_pick.f k1 s0_0 t196 3).bind fun bt197=>(if bt197.1 = 0 then ((spec_l20Out.f k1 s0_0 bt197.2).bind fun bt199=>(if x185000_1.length < 8796093022208 then (some ((x185000_1 ++ [(⟨bt199.1,bt199.2.1⟩ : S34)]),bt199.2.2)) else (none))) else (if bt197.1 = 1 then (if x185000_1.length < 8796093022208 then ((some (x185000_1 ++ [(⟨9,9⟩ : S34)] : List (S34))).bind fun y205=>(if y205.length < 8796093022208 then (some ((y205 ++ [(⟨9,9⟩ : S34)]),bt197.2)) else (none))) else (none)) else (spec_l20Table.l1 k1 s0_0 bt197.2 x185000_1)))) = some (r1,r2):=by rw [if_pos rfl] at H;exact H
     clear H
     have H:=H1
     clear H1
     obtain ⟨⟨t197,t198⟩,A30,H⟩:=bse H
     try dsimp only at H
     by_cases c31 : t197 = 0
     ·rw [if_pos c31] at H
      have c31b0 : (t197 == 0) = true:=beq_iff_eq.mpr c31
      have c31b1 : (t197 != 0) = false:=bne_eq_false_iff_eq.mpr c31
      clear c31
      obtain ⟨⟨t199,t200,t201⟩,A32,H⟩:=bse H
      try dsimp only at H
      by_cases c33 : x185000_1.length < 8796093022208
      ·rw [if_pos c33] at H
       have LMc33:=am c33
       clear c33
       obtain ⟨y202,hy202⟩ : ∃ y_ : List (S34),y_ = (x185000_1 ++ [(⟨t199,t200⟩ : S34)]):=⟨_,rfl⟩
       replace H : (some (y202,t201)) = some (r1,r2):=by first | (rw [hy202];with_reducible exact H) | (have H2_:=(Option.bind_some _ _).symm.trans H;rw [hy202];with_reducible exact H2_) | (have H2_:=(Option.bind_some _ _).symm.trans H;with_reducible exact H2_) | with_reducible exact H | (rw [hy202];exact H) | exact H
       have Ny202:=am hy202
       clear hy202
       simp only [Option.some.injEq,Prod.mk.injEq] at H
       obtain ⟨rfl,rfl⟩:=H
       try go_wp2_with (first | ((with_reducible refine gC 43 rfl ?_);refine gL (some 26) Tryz.func43 #[.pointer (some ⟨g,0,none⟩),.int .i64 a1] ?_;(with_reducible refine (spec_l20Rd_odd.calls k1 g s0_0 x1001_1 a1 true t196 w0 _ ?side1 ?side2 A28.out).mono ?_);(case side1=>exact m28_);(case side2=>exact m26_);rintro e w34 ⟨rfl,hi,hb,hk⟩;refine ⟨_,rfl,?_⟩;replace HO_185000:=am (Kd.R_mono (Kd.R_keep (IsS84.apart (show IsS84 w0 _ g s0_0 x1001_1 from m28_) (rs HO_185000) (by decide)) hk (fun _ h=>h.2)) (fun _ h=>h.1));replace BK183:=am (KeepBut.blk hk (g':=gb183) (o:=.cells #[.slice none 0 0] 25 (0,0)) (bk BK183) NB183_0.out (by simp));replace BK184:=am (KeepBut.blk hk (g':=gb184) (o:=.cells #[u185000] 25 (0,0)) (bk BK184) NB184_0.out (by simp));replace HK:=am (KeepBut.trans m27_ hk (.inl rfl));replace HB:=am hb;replace HI0:=am hi;(try clear hb);(try clear hk);(try clear hi)) | ((with_reducible refine gC 63 rfl ?_);refine gL (some 28) Tryz.func63 #[.pointer (some ⟨g,0,none⟩),.int .i64 3] ?_;(with_reducible refine (spec_l20Rd_pick.calls k1 g s0_0 t196 3 t197 t198 w0 _ ?side1 ?side2 A30.out).mono ?_);(case side1=>exact m28_);(case side2=>exact m26_);rintro e w35 ⟨rfl,hi,hb,hk⟩;refine ⟨_,rfl,?_⟩;replace HO_185000:=am (Kd.R_mono (Kd.R_keep (IsS84.apart (show IsS84 w0 _ g s0_0 t196 from m28_) (rs HO_185000) (by decide)) hk (fun _ h=>h.2)) (fun _ h=>h.1));replace BK183:=am (KeepBut.blk hk (g':=gb183) (o:=.cells #[.slice none 0 0] 25 (0,0)) (bk BK183) NB183_0.out (by simp));replace BK184:=am (KeepBut.blk hk (g':=gb184) (o:=.cells #[u185000] 25 (0,0)) (bk BK184) NB184_0.out (by simp));replace HK:=am (KeepBut.trans m27_ hk (.inl rfl));replace HB:=am hb;replace HI0:=am hi;(try clear hb);(try clear hk);(try clear hi)))
       replace HO_185000:=am (Kd.R_drew HO_185000.out)
       replace BK183:=am (blk_drew BK183.out)
       replace BK184:=am (blk_drew BK184.out)
       replace HI0:=am (IsS84.drew HI0.out)
       replace HK:=am (keep_drew HK.out)
       replace HB:=am (below_drew1 HB.out)
       refine start_ (n:=8) (S:=fun w'=>w'.cell? ⟨gb184,0,none⟩ = some (u185000)) (ds:=[7]) #[false,false,false,false,false,false,false,false] (by kernel_rfl) rfl rfl (bcell BK184 0) (fun hHeld=>?_);refine with_tabW spec_l20Table.tab12 spec_l20Table.bits12 (fun HT_ HW_=>?_)
       generalize w35.drew = w36 at HO_185000 BK183 BK184 HI0 HK HB hHeld ⊢
       refine pu_ 0 (some 45) (bm 8 1) ?_
       refine pu_ 2 (some 47) (bm 8 5) ?_
       refine take_ (i:=1) (N:=some 46) (v:=?_) (a':=?_) #[true,true,true,false,false,false,false,false] rfl rfl (take_ofW HT_.out HW_.out (by kernel_rfl)) (fun _ _ _ h=>h) (Or.inl ⟨by rfl,?_⟩) hHeld ?_ ?_
       rotate_left
       ·intro w' s0
        go_simp
        with_reducible rfl
       rotate_left
       ·simp only [Act.put,List.setIfInBounds_toArray,List.set_cons_zero,List.set_cons_succ,i64_w,i32_w]
        rfl
       refine on_ 3 (some 48) (bm 8 15) (fun K hK=>?_)
       refine gR Tryz.func76 #[.pointer (some ⟨g,0,none⟩)] ?_
       with_reducible refine (spec_l20Out.calls k1 g s0_0 t198 t199 t200 t201 w0 _ ?side1 ?side2 A32.out).mono ?_
       (case side1=>exact m28_)
       (case side2=>exact m26_)
       rintro e w37 ⟨rfl,hi,hb,hk⟩
       refine ⟨_,rfl,?_⟩
       replace HO_185000:=am (Kd.R_mono (Kd.R_keep (IsS84.apart (show IsS84 w0 _ g s0_0 t198 from m28_) (rs HO_185000) (by decide)) hk (fun _ h=>h.2)) (fun _ h=>h.1))
       replace BK183:=am (KeepBut.blk hk (g':=gb183) (o:=.cells #[.slice none 0 0] 25 (0,0)) (bk BK183) NB183_0.out (by simp))
       replace BK184:=am (KeepBut.blk hk (g':=gb184) (o:=.cells #[u185000] 25 (0,0)) (bk BK184) NB184_0.out (by simp))
       replace HK:=am (KeepBut.trans m27_ hk (.inl rfl))
       replace HB:=am hb
       replace HI0:=am hi
       (try clear hb)
       (try clear hb2)
       (try clear hk)
       (try clear hi)
       refine hK.out _ _ (bcell BK184 0) (fun hHeld=>?_)
       clear hK K
       refine nm_ ?_
       refine on_ 4 (some 49) (bm 8 31) (fun K hK=>?_)
       refine value_ (w1:=?_) (v:=?_) (by rfl) rfl ?_ ?_
       rotate_left 2
       ·go_simp
        constructor
        ·rfl
        ·rfl
       refine hK.out _ _ ((blk_cell (blk_alloc BK184.out _) 0).trans rfl) (fun hHeld=>?_)
       clear hK K
       refine nm_ ?_
       refine on_ 5 (some 50) (bm 8 63) (fun K hK=>?_)
       refine Kd.R_append_step k34 w.heap.size (by rfl) (.tmp 46) (.tmp 49) 23 34 (.agg #[(.int .i64 0),(.int .i64 0)]) 16 rfl Tryz.underlying23 info34 rfl (by decide) (by omega) u185000 x185000_1 (⟨t199,t200⟩ : S34) [.int .i64 t199,.int .i64 t200] (fun _=>True) (fun _=>False) rfl rfl ?aP (fun _ hk=>hk.elim) ?aF ?aO (Below.refl _ _) ?aS ?aL ?_
       (case aP=>exact k34_mkM _ _ _ (⟨t199,t200⟩ : S34))
       (case aF=>exact (fun _ _=>trivial))
       (case aO=>exact (rs HO_185000))
       (case aS=>exact (keep_size (w:=w) (g:=g) (row:=none) m27_))
       (case aL=>have:=LMc33.out;omega)
       intro v203 w38 ho hb hg hat
       rw [← Ny202.out] at ho
       replace BK183:=am (blk_grown (g:=gb183) (o:=.cells #[.slice none 0 0] 25 (0,0)) (bk BK183) hg (Kd.R_ne HO_185000.out BK183.out (by decide)))
       replace BK184:=am (blk_grown (g:=gb184) (o:=.cells #[u185000] 25 (0,0)) (bk BK184) hg (Kd.R_ne HO_185000.out BK184.out (by decide)))
       replace HB:=am (below_weaken m26_ HL.out hb)
       replace HI0:=am (IsS84.grown m28_ hg (IsS84.own_ne HI0.out HO_185000.out (by decide)))
       replace HK:=am (KeepBut.trans m27_ (KeepBut.of_grown hg g) (Kd.R_base2 HO_185000.out))
       have HO204:=am (ho)
       clear HO_185000
       clear ho hb hg hat
       obtain ⟨Ao39,co39,eo39⟩:=Kd.R_slice HO204.out
       (first | subst eo39 | (injection eo39 with f1_ f2_ f3_;have f4_:=f1_.symm;have f5_:=f3_.symm;clear f1_ f2_ f3_;subst f4_;subst f5_))
       refine hK.out _ _ (bcell BK184 0) (fun hHeld=>?_)
       clear hK K
       refine nm_ ?_
       refine pu_ 6 (some 51) (bm 8 127) ?_
       refine last_ (i:=7) (N:=none) #[true,true,true,true,true,true,true,true] rfl rfl (one_of HT_.out (by kernel_rfl)) (by decide) (fun K hK=>?_)
       have : w38.cell? ⟨gb184,0,none⟩ = some (u185000):=bcell BK184 0
       have:=bfz BK184 0
       have:=NB183_184.out
       have:=NB184_183.out
       refine skip_ (w1:=?_) (by rfl) rfl ?_ ?_
       rotate_left
       ·go_simp
        rfl
       refine hK.out _ _ ?_
       clear hK K
       refine done_ (done_of HT_.out (by kernel_rfl)) ?_
       have:=NB184_183.out
       have:=NB183_184.out
       have:=NB184_0.out
       have:=NB0_184.out
       have hcz43_0:=bcell BK184 0
       have hfz43_0:=blk_frozen BK184.out 0
       have:=NB183_0.out
       have:=NB0_183.out
       have hcz45_0:=bcell BK183 0
       have hfz45_0:=blk_frozen BK183.out 0
       try go_wp2
       refine bodyPost_ret (results_cell_row rfl _ _ gb183 25 #[.slice Ao39 y202.length co39] (0,0) _ rfl (by (with_reducible repeat refine bu ?_);refine blk_put (cs:=#[.slice none 0 0]) ?_ 0 _ rfl;(with_reducible repeat refine bu ?_);refine blk_far ?_ NB183_184.out _;(with_reducible repeat refine bu ?_);exact BK183.out) Tryz.underlying25 rfl (by kernel_rfl)) rfl ?_
       exact ⟨_,fi_,by (with_reducible repeat apply ru);exact Kd.R_mono (Kd.R_far (p:=⟨gb183,0,none⟩) (Kd.R_far (p:=⟨gb184,0,none⟩) (Kd.R_types (Kd.R_types HO204.out BK184.out (by decide)) BK183.out (by decide)) (fun _ hk=>hk.1.2) (.slice Ao39 y202.length co39)) (fun _ hk=>hk.2) (.slice Ao39 y202.length co39)) (fun _ hk=>trivial),m28_,m26_,m27_⟩
      ·rw [if_neg c33] at H
       exact absurd H (by simp)
     ·rw [if_neg c31] at H
      have c31b0 : (t197 == 0) = false:=beq_eq_false_iff_ne.mpr c31
      have c31b1 : (t197 != 0) = true:=bne_iff_ne.mpr c31
      by_cases c46 : t197 = 1
      ·rw [if_pos c46] at H
       have c46b0 : (t197 == 1) = true:=beq_iff_eq.mpr c46
       have c46b1 : (t197 != 1) = false:=bne_eq_false_iff_eq.mpr c46
       clear c46
       by_cases c47 : x185000_1.length < 8796093022208
       ·rw [if_pos c47] at H
        have LMc47:=am c47
        clear c47
        obtain ⟨y205,hy205⟩ : ∃ y_ : List (S34),y_ = (x185000_1 ++ [(⟨9,9⟩ : S34)]):=⟨_,rfl⟩
        replace H : (if y205.length < 8796093022208 then (some ((y205 ++ [(⟨9,9⟩ : S34)]),t198)) else (none)) = some (r1,r2):=by first | (rw [hy205];with_reducible exact H) | (have H2_:=(Option.bind_some _ _).symm.trans H;rw [hy205];with_reducible exact H2_) | (have H2_:=(Option.bind_some _ _).symm.trans H;with_reducible exact H2_) | with_reducible exact H | (rw [hy205];exact H) | exact H
        have Ny205:=am hy205
        clear hy205
        by_cases c48 : y205.length < 8796093022208
        ·rw [if_pos c48] at H
         have LMc48:=am c48
         clear c48
         obtain ⟨y208,hy208⟩ : ∃ y_ : List (S34),y_ = (y205 ++ [(⟨9,9⟩ : S34)]):=⟨_,rfl⟩
         replace H : (some (y208,t198)) = some (r1,r2):=by first | (rw [hy208];with_reducible exact H) | (have H2_:=(Option.bind_some _ _).symm.trans H;rw [hy208];with_reducible exact H2_) | (have H2_:=(Option.bind_some _ _).symm.trans H;with_reducible exact H2_) | with_reducible exact H | (rw [hy208];exact H) | exact H
         have Ny208:=am hy208
         clear hy208
         simp only [Option.some.injEq,Prod.mk.injEq] at H
         obtain ⟨rfl,rfl⟩:=H
         go_wp2_with (first | ((with_reducible refine gC 43 rfl ?_);refine gL (some 26) Tryz.func43 #[.pointer (some ⟨g,0,none⟩),.int .i64 a1] ?_;(with_reducible refine (spec_l20Rd_odd.calls k1 g s0_0 x1001_1 a1 true t196 w0 _ ?side1 ?side2 A28.out).mono ?_);(case side1=>exact m28_);(case side2=>exact m26_);rintro e w49 ⟨rfl,hi,hb,hk⟩;refine ⟨_,rfl,?_⟩;replace HO_185000:=am (Kd.R_mono (Kd.R_keep (IsS84.apart (show IsS84 w0 _ g s0_0 x1001_1 from m28_) (rs HO_185000) (by decide)) hk (fun _ h=>h.2)) (fun _ h=>h.1));replace BK183:=am (KeepBut.blk hk (g':=gb183) (o:=.cells #[.slice none 0 0] 25 (0,0)) (bk BK183) NB183_0.out (by simp));replace BK184:=am (KeepBut.blk hk (g':=gb184) (o:=.cells #[u185000] 25 (0,0)) (bk BK184) NB184_0.out (by simp));replace HK:=am (KeepBut.trans m27_ hk (.inl rfl));replace HB:=am hb;replace HI0:=am hi;(try clear hb);(try clear hk);(try clear hi)) | ((with_reducible refine gC 63 rfl ?_);refine gL (some 28) Tryz.func63 #[.pointer (some ⟨g,0,none⟩),.int .i64 3] ?_;(with_reducible refine (spec_l20Rd_pick.calls k1 g s0_0 t196 3 t197 t198 w0 _ ?side1 ?side2 A30.out).mono ?_);(case side1=>exact m28_);(case side2=>exact m26_);rintro e w50 ⟨rfl,hi,hb,hk⟩;refine ⟨_,rfl,?_⟩;replace HO_185000:=am (Kd.R_mono (Kd.R_keep (IsS84.apart (show IsS84 w0 _ g s0_0 t196 from m28_) (rs HO_185000) (by decide)) hk (fun _ h=>h.2)) (fun _ h=>h.1));replace BK183:=am (KeepBut.blk hk (g':=gb183) (o:=.cells #[.slice none 0 0] 25 (0,0)) (bk BK183) NB183_0.out (by simp));replace BK184:=am (KeepBut.blk hk (g':=gb184) (o:=.cells #[u185000] 25 (0,0)) (bk BK184) NB184_0.out (by simp));replace HK:=am (KeepBut.trans m27_ hk (.inl rfl));replace HB:=am hb;replace HI0:=am hi;(try clear hb);(try clear hk);(try clear hi);have:=NB184_183.out;have:=NB183_184.out;have:=NB184_0.out;have:=NB0_184.out;have hcz53_0:=bcell BK184 0;have hfz53_0:=blk_frozen BK184.out 0) | ((with_reducible refine gate_builtin (b:=.append) (xs:=#[.tmp 55,.tmp 57]) rfl ?_);at_builtin;refine Kd.R_append k34 w.heap.size rfl (.tmp 55) (.tmp 57) 23 34 (.agg #[(.int .i64 0),(.int .i64 0)]) 16 rfl Tryz.underlying23 info34 rfl (by decide) (by omega) u185000 x185000_1 (⟨9,9⟩ : S34) [.int .i64 9,.int .i64 9] (fun _=>True) (fun _=>False) rfl rfl ?aP (fun _ hk=>hk.elim) ?aF ?aO (Below.refl _ _) ?aS ?aL ?_;(case aP=>exact k34_mkM _ _ _ (⟨9,9⟩ : S34));(case aF=>exact (fun _ _=>trivial));(case aO=>exact (rs HO_185000));(case aS=>exact (keep_size (w:=w) (g:=g) (row:=none) m27_));(case aL=>have:=LMc47.out;omega);intro v206 w54 ho hb hg hat;rw [← Ny205.out] at ho;replace BK183:=am (blk_grown (g:=gb183) (o:=.cells #[.slice none 0 0] 25 (0,0)) (bk BK183) hg (Kd.R_ne HO_185000.out BK183.out (by decide)));replace BK184:=am (blk_grown (g:=gb184) (o:=.cells #[u185000] 25 (0,0)) (bk BK184) hg (Kd.R_ne HO_185000.out BK184.out (by decide)));replace HB:=am (below_weaken m26_ HL.out hb);replace HI0:=am (IsS84.grown m28_ hg (IsS84.own_ne HI0.out HO_185000.out (by decide)));replace HK:=am (KeepBut.trans m27_ (KeepBut.of_grown hg g) (Kd.R_base2 HO_185000.out));have HO207:=am (ho);clear HO_185000;clear ho hb hg hat) | ((with_reducible refine gate_builtin (b:=.append) (xs:=#[.tmp 58,.tmp 60]) rfl ?_);at_builtin;refine Kd.R_append k34 w.heap.size rfl (.tmp 58) (.tmp 60) 23 34 (.agg #[(.int .i64 0),(.int .i64 0)]) 16 rfl Tryz.underlying23 info34 rfl (by decide) (by omega) v206 y205 (⟨9,9⟩ : S34) [.int .i64 9,.int .i64 9] (fun _=>True) (fun _=>False) rfl rfl ?aP (fun _ hk=>hk.elim) ?aF ?aO (Below.refl _ _) ?aS ?aL ?_;(case aP=>exact k34_mkM _ _ _ (⟨9,9⟩ : S34));(case aF=>exact (fun _ _=>trivial));(case aO=>exact (rs HO207));(case aS=>exact (keep_size (w:=w) (g:=g) (row:=none) m27_));(case aL=>have:=LMc48.out;omega);intro v209 w55 ho hb hg hat;rw [← Ny208.out] at ho;replace BK183:=am (blk_grown (g:=gb183) (o:=.cells #[.slice none 0 0] 25 (0,0)) (bk BK183) hg (Kd.R_ne HO207.out BK183.out (by decide)));replace BK184:=am (blk_grown (g:=gb184) (o:=.cells #[u185000] 25 (0,0)) (bk BK184) hg (Kd.R_ne HO207.out BK184.out (by decide)));replace HB:=am (below_weaken m26_ HL.out hb);replace HI0:=am (IsS84.grown m28_ hg (IsS84.own_ne HI0.out HO207.out (by decide)));replace HK:=am (KeepBut.trans m27_ (KeepBut.of_grown hg g) (Kd.R_base2 HO207.out));have HO210:=am (ho);clear HO207;clear ho hb hg hat;obtain ⟨Ao56,co56,eo56⟩:=Kd.R_slice HO210.out;subst eo56;have hcz57_0:=bcell BK184 0;have hfz57_0:=blk_frozen BK184.out 0;have:=NB183_0.out;have:=NB0_183.out;have hcz59_0:=bcell BK183 0;have hfz59_0:=blk_frozen BK183.out 0))
         refine bodyPost_ret (results_cell_row rfl _ _ gb183 25 #[.slice Ao56 y208.length co56] (0,0) _ rfl (by (with_reducible repeat refine bu ?_);refine blk_put (cs:=#[.slice none 0 0]) ?_ 0 _ rfl;(with_reducible repeat refine bu ?_);refine blk_far ?_ NB183_184.out _;(with_reducible repeat refine bu ?_);exact BK183.out) Tryz.underlying25 rfl (by kernel_rfl)) rfl ?_
         exact ⟨_,fi_,by (with_reducible repeat apply ru);exact Kd.R_mono (Kd.R_far (p:=⟨gb183,0,none⟩) (Kd.R_far (p:=⟨gb184,0,none⟩) (Kd.R_types (Kd.R_types HO210.out BK184.out (by decide)) BK183.out (by decide)) (fun _ hk=>hk.1.2) (.slice Ao56 y208.length co56)) (fun _ hk=>hk.2) (.slice Ao56 y208.length co56)) (fun _ hk=>trivial),m28_,m26_,m27_⟩
        ·rw [if_neg c48] at H
         exact absurd H (by simp)
       ·rw [if_neg c47] at H
        exact absurd H (by simp)
      ·rw [if_neg c46] at H
       have c46b0 : (t197 == 1) = false:=beq_eq_false_iff_ne.mpr c46
       have c46b1 : (t197 != 1) = true:=bne_iff_ne.mpr c46
       have H':=am H
       clear H
       go_wp2_with (first | ((with_reducible refine gC 43 rfl ?_);refine gL (some 26) Tryz.func43 #[.pointer (some ⟨g,0,none⟩),.int .i64 a1] ?_;(with_reducible refine (spec_l20Rd_odd.calls k1 g s0_0 x1001_1 a1 true t196 w0 _ ?side1 ?side2 A28.out).mono ?_);(case side1=>exact m28_);(case side2=>exact m26_);rintro e w60 ⟨rfl,hi,hb,hk⟩;refine ⟨_,rfl,?_⟩;replace HO_185000:=am (Kd.R_mono (Kd.R_keep (IsS84.apart (show IsS84 w0 _ g s0_0 x1001_1 from m28_) (rs HO_185000) (by decide)) hk (fun _ h=>h.2)) (fun _ h=>h.1));replace BK183:=am (KeepBut.blk hk (g':=gb183) (o:=.cells #[.slice none 0 0] 25 (0,0)) (bk BK183) NB183_0.out (by simp));replace BK184:=am (KeepBut.blk hk (g':=gb184) (o:=.cells #[u185000] 25 (0,0)) (bk BK184) NB184_0.out (by simp));replace HK:=am (KeepBut.trans m27_ hk (.inl rfl));replace HB:=am hb;replace HI0:=am hi;(try clear hb);(try clear hk);(try clear hi)) | ((with_reducible refine gC 63 rfl ?_);refine gL (some 28) Tryz.func63 #[.pointer (some ⟨g,0,none⟩),.int .i64 3] ?_;(with_reducible refine (spec_l20Rd_pick.calls k1 g s0_0 t196 3 t197 t198 w0 _ ?side1 ?side2 A30.out).mono ?_);(case side1=>exact m28_);(case side2=>exact m26_);rintro e w61 ⟨rfl,hi,hb,hk⟩;refine ⟨_,rfl,?_⟩;replace HO_185000:=am (Kd.R_mono (Kd.R_keep (IsS84.apart (show IsS84 w0 _ g s0_0 t196 from m28_) (rs HO_185000) (by decide)) hk (fun _ h=>h.2)) (fun _ h=>h.1));replace BK183:=am (KeepBut.blk hk (g':=gb183) (o:=.cells #[.slice none 0 0] 25 (0,0)) (bk BK183) NB183_0.out (by simp));replace BK184:=am (KeepBut.blk hk (g':=gb184) (o:=.cells #[u185000] 25 (0,0)) (bk BK184) NB184_0.out (by simp));replace HK:=am (KeepBut.trans m27_ hk (.inl rfl));replace HB:=am hb;replace HI0:=am hi;(try clear hb);(try clear hk);(try clear hi)))
       go_loopg [] k1 (fun kq w'=>∃ (x185000_2 : List (S34)) (u185000 : Value),Aside0 (spec_l20Table.l1 kq s0_0 t198 x185000_2 = some (r1,r2)) ∧ Aside0 (kq ≤ k1) ∧ Aside0 (Kd.R k34 34 w' w.heap.size (fun _=>True) u185000 x185000_2) ∧ Aside0 (w'.heap[gb183]? = some (.cells #[(.slice none 0 0)] 25 (0,0))) ∧ Aside0 (w'.heap[gb184]? = some (.cells #[u185000] 25 (0,0))) ∧ Aside0 (IsS84 w0 w' g s0_0 t198) ∧ Aside0 (KeepBut w w' g none) ∧ Aside0 (Below w0.heap.size w0 w'))
       case atStart=>exact ⟨(x185000_1),(u185000),H',⟨Nat.le_refl _⟩,⟨by (with_reducible repeat apply ru);exact HO_185000.out⟩,⟨bk BK183⟩,⟨bk BK184⟩,⟨m28_⟩,⟨m27_⟩,⟨m26_⟩⟩
       case round=>
        clear H'
        try clear c1
        try clear c2
        try clear p2
        try clear c3
        try clear c4
        try clear c5
        try clear c6
        try clear p6
        try clear c7
        try clear c10
        try clear c10b0
        try clear c21
        try clear c22
        try clear c23
        try clear c25
        try clear c26
        try clear c29
        try clear c31
        try clear c31b0
        try clear c31b1
        try clear c33
        try clear c41
        try clear c42
        try clear c43
        try clear c44
        try clear c46
        try clear c46b0
        try clear c46b1
        try clear c47
        try clear c48
        try clear c51
        try clear c52
        try clear c58
        try clear hcz24_0
        try clear hcz27_0
        try clear hcz43_0
        try clear hcz45_0
        try clear hcz53_0
        try clear hcz57_0
        try clear hcz59_0
        try clear hfz24_0
        try clear hfz27_0
        try clear hfz43_0
        try clear hfz45_0
        try clear hfz53_0
        try clear hfz57_0
        try clear hfz59_0
        obtain ⟨x185000_2,u185000,HA,HK2,HO_185000,BK183,BK184,HI0,HK,HB⟩:=hrel
        cases gk with
        | zero=>exact absurd HA.out (by simp [spec_l20Table.l1])
        | succ k2=>
         have H:=HA.out
         clear HA
         simp only [spec_l20Table.l1] at H
         by_cases c62 : (x185000_2.length : Int) ≤ 6
         ·rw [if_pos c62] at H
          have c62b0 : decide ((x185000_2.length : Int) ≤ 6) = true:=decide_eq_true c62
          have c62b1 : decide (x185000_2.length ≤ 6) = true:=decide_eq_true (by omega)
          clear c62
          by_cases c63 : x185000_2.length < 8796093022208
          ·rw [if_pos c63] at H
           have LMc63:=am c63
           clear c63
           obtain ⟨y211,hy211⟩ : ∃ y_ : List (S34),y_ = (x185000_2 ++ [(⟨8,wrap64 (1 + (x185000_2.length : Int))⟩ : S34)]):=⟨_,rfl⟩
           replace H : (spec_l20Table.l1 k2 s0_0 t198 y211) = some (r1,r2):=by first | (rw [hy211];with_reducible exact H) | (have H2_:=(Option.bind_some _ _).symm.trans H;rw [hy211];with_reducible exact H2_) | (have H2_:=(Option.bind_some _ _).symm.trans H;with_reducible exact H2_) | with_reducible exact H | (rw [hy211];exact H) | exact H
           have Ny211:=am hy211
           clear hy211
           have H':=am H
           clear H
           have:=NB184_183.out
           have:=NB183_184.out
           have:=NB184_0.out
           have:=NB0_184.out
           have:=bcell BK184 0
           have:=bfz BK184 0
           obtain ⟨Ao67,co67,eo67⟩:=Kd.R_slice HO_185000.out
           subst eo67
           go_wp2_with (first | ((with_reducible refine gate_builtin (b:=.append) (xs:=#[.tmp 34,.tmp 40]) rfl ?_);at_builtin;refine Kd.R_append k34 w.heap.size rfl (.tmp 34) (.tmp 40) 23 34 (.agg #[(.int .i64 0),(.int .i64 0)]) 16 rfl Tryz.underlying23 info34 rfl (by decide) (by omega) (.slice Ao67 x185000_2.length co67) x185000_2 (⟨8,wrap64 (1 + (x185000_2.length : Int))⟩ : S34) [.int .i64 8,.int .i64 (wrap64 (1 + (x185000_2.length : Int)))] (fun _=>True) (fun _=>False) rfl rfl ?aP (fun _ hk=>hk.elim) ?aF ?aO (Below.refl _ _) ?aS ?aL ?_;(case aP=>exact k34_mkM _ _ _ (⟨8,wrap64 (1 + (x185000_2.length : Int))⟩ : S34));(case aF=>exact (fun _ _=>trivial));(case aO=>exact (rs HO_185000));(case aS=>exact (keep_size (w:=w) (g:=g) (row:=none) m27_));(case aL=>have:=LMc63.out;omega);intro v212 w68 ho hb hg hat;rw [← Ny211.out] at ho;replace BK183:=am (blk_grown (g:=gb183) (o:=.cells #[.slice none 0 0] 25 (0,0)) (bk BK183) hg (Kd.R_ne HO_185000.out BK183.out (by decide)));replace BK184:=am (blk_grown (g:=gb184) (o:=.cells #[.slice Ao67 x185000_2.length co67] 25 (0,0)) (bk BK184) hg (Kd.R_ne HO_185000.out BK184.out (by decide)));replace HB:=am (below_weaken m26_ HL.out hb);replace HI0:=am (IsS84.grown m28_ hg (IsS84.own_ne HI0.out HO_185000.out (by decide)));replace HK:=am (KeepBut.trans m27_ (KeepBut.of_grown hg g) (Kd.R_base2 HO_185000.out));have HO213:=am (ho);clear HO_185000;clear ho hb hg hat;obtain ⟨Ao69,co69,eo69⟩:=Kd.R_slice HO213.out;subst eo69;have:=bcell BK184 0;have:=bfz BK184 0))
           go_roundg k2
           case measure=>have:=HK1.out;have:=HK2.out;omega
           case rel=>exact ⟨(y211),(.slice Ao69 y211.length co69),H',⟨by have:=HK1.out;have:=HK2.out;omega⟩,⟨by (with_reducible repeat apply ru);exact Kd.R_mono (Kd.R_far (p:=⟨gb184,0,none⟩) (Kd.R_types HO213.out BK184.out (by decide)) (fun _ hk=>hk.2) (.slice Ao69 y211.length co69)) (fun _ hk=>trivial)⟩,bf_ BK183,⟨by (with_reducible repeat refine bu ?_);refine blk_put (cs:=#[.slice Ao67 x185000_2.length co67]) ?_ 0 _ rfl;(with_reducible repeat refine bu ?_);exact BK184.out⟩,⟨m28_⟩,⟨m27_⟩,⟨m26_⟩⟩
          ·rw [if_neg c63] at H
           exact absurd H (by simp)
         ·rw [if_neg c62] at H
          have c62b0 : decide ((x185000_2.length : Int) ≤ 6) = false:=decide_eq_false c62
          have c62b1 : decide (x185000_2.length ≤ 6) = false:=decide_eq_false (by omega)
          clear c62
          simp only [Option.some.injEq,Prod.mk.injEq] at H
          obtain ⟨rfl,rfl⟩:=H
          have:=NB184_183.out
          have:=NB183_184.out
          have:=NB184_0.out
          have:=NB0_184.out
          have:=bcell BK184 0
          have:=bfz BK184 0
          obtain ⟨Ao74,co74,eo74⟩:=Kd.R_slice HO_185000.out
          subst eo74
          have:=NB183_0.out
          have:=NB0_183.out
          have:=bcell BK183 0
          have:=bfz BK183 0
          go_wp2
          refine bodyPost_ret (results_cell_row rfl _ _ gb183 25 #[.slice Ao74 x185000_2.length co74] (0,0) _ rfl (by (with_reducible repeat refine bu ?_);refine blk_put (cs:=#[.slice none 0 0]) ?_ 0 _ rfl;(with_reducible repeat refine bu ?_);exact BK183.out) Tryz.underlying25 rfl (by kernel_rfl)) rfl ?_
          exact ⟨_,fi_,by (with_reducible repeat apply ru);exact Kd.R_mono (Kd.R_far (p:=⟨gb183,0,none⟩) (Kd.R_types HO_185000.out BK183.out (by decide)) (fun _ hk=>hk.2) (.slice Ao74 x185000_2.length co74)) (fun _ hk=>trivial),m28_,m26_,m27_⟩
    ·replace c29:=Bool.eq_false_iff.mpr c29
     subst c29
     have H1 : (some (x185000_1,t196)) = some (r1,r2):=by rw [if_neg (show ¬ (false = true) by decide)] at H;exact H
     clear H
     have H:=H1
     clear H1
     simp only [Option.some.injEq,Prod.mk.injEq] at H
     obtain ⟨rfl,rfl⟩:=H
     go_wp2_with (first | ((with_reducible refine gC 43 rfl ?_);refine gL (some 26) Tryz.func43 #[.pointer (some ⟨g,0,none⟩),.int .i64 a1] ?_;(with_reducible refine (spec_l20Rd_odd.calls k1 g s0_0 x1001_1 a1 false t196 w0 _ ?side1 ?side2 A28.out).mono ?_);(case side1=>exact m28_);(case side2=>exact m26_);rintro e w77 ⟨rfl,hi,hb,hk⟩;refine ⟨_,rfl,?_⟩;replace HO_185000:=am (Kd.R_mono (Kd.R_keep (IsS84.apart (show IsS84 w0 _ g s0_0 x1001_1 from m28_) (rs HO_185000) (by decide)) hk (fun _ h=>h.2)) (fun _ h=>h.1));replace BK183:=am (KeepBut.blk hk (g':=gb183) (o:=.cells #[.slice none 0 0] 25 (0,0)) (bk BK183) NB183_0.out (by simp));replace BK184:=am (KeepBut.blk hk (g':=gb184) (o:=.cells #[u185000] 25 (0,0)) (bk BK184) NB184_0.out (by simp));replace HK:=am (KeepBut.trans m27_ hk (.inl rfl));replace HB:=am hb;replace HI0:=am hi;(try clear hb);(try clear hk);(try clear hi);have:=NB184_183.out;have:=NB183_184.out;have:=NB184_0.out;have:=NB0_184.out;have:=bcell BK184 0;have:=bfz BK184 0;obtain ⟨Ao81,co81,eo81⟩:=Kd.R_slice HO_185000.out;subst eo81;have:=NB183_0.out;have:=NB0_183.out;have:=bcell BK183 0;have:=bfz BK183 0))
     refine bodyPost_ret (results_cell_row rfl _ _ gb183 25 #[.slice Ao81 x185000_1.length co81] (0,0) _ rfl (by (with_reducible repeat refine bu ?_);refine blk_put (cs:=#[.slice none 0 0]) ?_ 0 _ rfl;(with_reducible repeat refine bu ?_);exact BK183.out) Tryz.underlying25 rfl (by kernel_rfl)) rfl ?_
     exact ⟨_,fi_,by (with_reducible repeat apply ru);exact Kd.R_mono (Kd.R_far (p:=⟨gb183,0,none⟩) (Kd.R_types HO_185000.out BK183.out (by decide)) (fun _ hk=>hk.2) (.slice Ao81 x185000_1.length co81)) (fun _ hk=>trivial),m28_,m26_,m27_⟩
end
end Go.Proofs.YtffmbccgcaghjaaGreatDoor.P
