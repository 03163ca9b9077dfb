import Derived.Test.YtffmbccgcaghjaaGreatDoorGLawFnBakRwrx2
import Derived.Lib.ConvBytes
import Derived.Lib.Hide
namespace Go.Proofs.YtffmbccgcaghjaaGreatDoor.P
open Go.RowKit Go.Proofs.YtffmbccgcaghjaaGreatDoorUFnBakRwr.PrintWords Go.Proofs.YtffmbccgcaghjaaGreatDoorUFnBakRwr.PrintLast Go.Proofs.YtffmbccgcaghjaaGreatDoorUFnBakRwr.PrintMore
set_option linter.unusedVariables false
set_option linter.unusedSimpArgs false
def wfB (n : Int) : Bool := (Lit.int .i64 n).wf
def wfE (x : S34) : Bool := wfB x.f0 && wfB x.f1
def portV (l : List S34) (a b : Int) : Int := match fnd l a b with | none => 0 | some i => 500 + i
def impl_MapPort.f (l : List S34) (a b : Int) : Option Int := if l.length < 1000000 ∧ l.all wfE = true ∧ wfB a = true ∧ wfB b = true then some (portV l a b) else none
def endV (l : List S34) (n : Int) : Option S34 := if 500 ≤ n then l[(n - 500).toNat]? else none
def impl_MapEnd.f (l : List S34) (n : Int) : Option (Int × Int × Bool) := if l.length < 1000000 ∧ l.all wfE = true ∧ wfB n = true then some (match endV l n with | none => (0, 0, false) | some x => (x.f0, x.f1, true)) else none
theorem wf_all {l : List S34} (h : l.all wfE = true) : ∀ x ∈ l, Wf x := by
  intro x hx
  have := List.all_eq_true.mp h x hx
  simp only [wfE, wfB, Bool.and_eq_true] at this
  exact this
theorem mapEnd_hit {l : List S34} {D : DataW Unit} {n xa xb r1 r2 : Int} {r3 : Bool} {ps : List MemPlace} (s : Says2 l D) (wn : I64 n) (hx : (D.atKey (.int .i64 n) (endD 0 0), ps).1 = endD xa xb)
    (q : (match endV l n with | none => (0, 0, false) | some x => (x.f0, x.f1, true)) = (r1, r2, r3)) : xa = r1 ∧ xb = r2 ∧ Maps.has D (.int .i64 n) = r3 := by
  have z := s n wn
  have hx' : D.atKey (.int .i64 n) (endD 0 0) = endD xa xb := hx
  unfold endV at q
  cases hm : (if 500 ≤ n then l[(n - 500).toNat]? else none) with
  | none =>
    rw [hm] at q
    have z' : ∀ y, D.atKey (.int .i64 n) y = y := fun y => by rw [z y, hm]
    rw [z'] at hx'
    obtain ⟨e1, e2⟩ := endD_inj hx'
    simp at q
    exact ⟨by omega, by omega, by rw [Maps.has_false_of_atKey z']; exact q.2.2.symm⟩
  | some x =>
    rw [hm] at q
    have z' : ∀ y, D.atKey (.int .i64 n) y = endD x.f0 x.f1 := fun y => by rw [z y, hm]
    rw [z'] at hx'
    obtain ⟨e1, e2⟩ := endD_inj hx'
    simp at q
    exact ⟨by omega, by omega, by rw [Maps.has_true_of_atKey z']; exact q.2.2.symm⟩
theorem field0 (b1 b2 : Nat) (w : World) : (Instr.field 70 (.agg #[.map (some b1), .map (some b2)]) 0).run Tryz.prog w = .ok (.map (some b1)) w := by kernel_rfl
theorem field1 (b1 b2 : Nat) (w : World) : (Instr.field 70 (.agg #[.map (some b1), .map (some b2)]) 1).run Tryz.prog w = .ok (.map (some b2)) w := by kernel_rfl
set_option maxHeartbeats 8000000 in
set_option maxRecDepth 100000 in
theorem impl_MapPort.calls (A0_0 : Option Addr) (c0_0 : Nat) (l0_0 : List (S34)) (a1_0 : Int) (a1_1 : Int) (r : Int) (w : World) (hr0_0 : Kd.C k34 w A0_0 l0_0.length l0_0) (hc0_0 : l0_0.length ≤ c0_0) (h : impl_MapPort.f l0_0 a1_0 a1_1 = some r) :
    Calls Tryz.prog 23 #[.agg #[.slice A0_0 l0_0.length c0_0], .agg #[.int .i64 a1_0, .int .i64 a1_1]] w fun e w' => e = .returned (.int .i64 r) ∧ Below w.heap.size w w' := by
  unfold impl_MapPort.f at h
  by_cases hq : l0_0.length < 1000000 ∧ l0_0.all wfE = true ∧ wfB a1_0 = true ∧ wfB a1_1 = true
  · rw [if_pos hq] at h
    have HP := Aside0.mk (Option.some.inj h)
    have HQ := Aside0.mk hq
    have HR := Aside0.mk hr0_0
    have HC := Aside0.mk hc0_0
    clear h hq hr0_0 hc0_0
    have HB := Aside0.mk (Below.refl w.heap.size w)
    have hu1 := Tryz.underlying70
    have hu2 := Tryz.underlying25
    have hu3 := Tryz.underlying34
    go_enter Tryz.func23, Tryz.ntmps23
    go_upto_region 1 with (first
      | ((with_reducible refine gate_dst (N := 2) rfl ?_)
         refine box_event ?hg (N := 2) ?hd (cs := #[.slice A0_0 l0_0.length c0_0]) (t := 25) ?hr ?_
         (case hd => rfl)
         (case hg => rfl)
         (case hr => first | (go_simp; done) | (go_simp; rfl))
         intro g2 hg w3 hbox hb
         have n1_ := Aside0.mk (below_step (bl HB) hb)
         have BK2 := Aside0.mk hbox
         clear HB
         have HB := n1_
         clear n1_ hg hbox hb)
      | ((with_reducible refine gate_dst (N := 3) rfl ?_)
         refine box_event ?hg (N := 3) ?hd (cs := #[.int .i64 a1_0, .int .i64 a1_1]) (t := 34) ?hr ?_
         (case hd => rfl)
         (case hg => rfl)
         (case hr => first | (go_simp; done) | (go_simp; rfl))
         intro g3 hg w4 hbox hb
         have n1_ := Aside0.mk (below_step (bl HB) hb)
         have n2_ := bkB BK2 hb
         have BK3 := Aside0.mk hbox
         clear HB BK2
         have HB := n1_
         have BK2 := n2_
         clear n1_ n2_ hg hbox hb))
    (try simp only [Act.put, List.setIfInBounds_toArray, List.set_cons_zero, List.set_cons_succ])
    have n1_ := Aside0.mk (blk_drew BK2.out)
    have n2_ := Aside0.mk (blk_drew BK3.out)
    have n3_ := Aside0.mk (below_drew1 HB.out)
    clear BK2 BK3 HB
    have BK2 := n1_
    have BK3 := n2_
    have HB := n3_
    clear n1_ n2_ n3_
    refine start_ (n := 6) (S := fun w' => w'.cell? ⟨g2, 0, none⟩ = some (.slice A0_0 l0_0.length c0_0) ∧ w'.cell? ⟨g3, 0, none⟩ = some (.int .i64 a1_0) ∧ w'.cell? ⟨g3, 1, none⟩ = some (.int .i64 a1_1)) (ds := []) #[false, false, false, false, false, false] (by kernel_rfl) rfl rfl ⟨(blk_cell BK2.out 0).trans rfl, (blk_cell BK3.out 0).trans rfl, (blk_cell BK3.out 1).trans rfl⟩ (fun hHeld => ?_)
    generalize w4.drew = w5 at BK2 BK3 HB hHeld ⊢
    refine take_ (i := 0) (N := some 5) (v := ?_) (a' := ?_) #[true, false, false, false, false, false] rfl rfl (by kernel_rfl) (fun _ _ _ h => h) (Or.inl ⟨by rfl, ?_⟩) hHeld ?_ ?_
    rotate_left
    · rintro w' ⟨s0, s1, s2⟩
      go_simp
      with_reducible rfl
    rotate_left
    · simp only [Act.put, List.setIfInBounds_toArray, List.set_cons_zero, List.set_cons_succ, i64_w, i32_w]
      rfl
    refine take_ (i := 3) (N := some 8) (v := ?_) (a' := ?_) #[true, false, false, true, false, false] rfl rfl (by kernel_rfl) (fun _ _ _ h => h) (Or.inl ⟨by rfl, ?_⟩) hHeld ?_ ?_
    rotate_left
    · rintro w' ⟨s0, s1, s2⟩
      go_simp
      with_reducible rfl
    rotate_left
    · simp only [Act.put, List.setIfInBounds_toArray, List.set_cons_zero, List.set_cons_succ, i64_w, i32_w]
      rfl
    refine one_ (i := 1) (N := some 6) #[true, true, false, true, false, false] rfl rfl (by kernel_rfl) (by decide) (fun K hK => ?_)
    refine goes_ Tryz.func55 (by kernel_rfl) rfl #[.agg #[.slice A0_0 l0_0.length c0_0]] (by rfl) rfl rfl (by (try simp only [List.map_toArray, List.map_cons, List.map_nil]); first | done | rfl) ?_
    with_reducible refine (portsOf_walk A0_0 c0_0 l0_0 _ (Kd.C_below HR.out HB.out) HC.out HQ.out.1 (wf_all HQ.out.2.1)).mono ?_
    rintro e w6 ⟨b1, b2, rfl, hT, hb⟩
    refine ⟨_, rfl, ?_⟩
    have n1_ := bkB BK2 hb
    have n2_ := bkB BK3 hb
    have n3_ := Aside0.mk (below_step HB.out hb)
    clear BK2 BK3 HB
    have BK2 := n1_
    have BK3 := n2_
    have HB := n3_
    have HT := Aside0.mk hT
    clear n1_ n2_ n3_ hT hb
    refine hK.out _ _ ⟨(blk_cell BK2.out 0).trans rfl, (blk_cell BK3.out 0).trans rfl, (blk_cell BK3.out 1).trans rfl⟩ (fun hHeld => ?_)
    clear hK K
    refine norm_ (a' := ?_) ?_ ?_
    rotate_left
    · show Act.put _ (some 6) _ = _
      simp only [Act.put, List.setIfInBounds_toArray, List.set_cons_zero, List.set_cons_succ, i64_w, i32_w]
      rfl
    refine pure_ (i := 2) (N := some 7) (v := ?_) (a' := ?_) #[true, true, true, true, false, false] rfl rfl (by kernel_rfl) (fun _ _ _ h => h) (Or.inl ⟨by rfl, ?_⟩) ?_ ?_
    rotate_left
    · intro w'
      have hf := field0 b1 b2
      go_simp
      with_reducible rfl
    rotate_left
    · simp only [Act.put, List.setIfInBounds_toArray, List.set_cons_zero, List.set_cons_succ, i64_w, i32_w]
      rfl
    refine one_ (i := 4) (N := some 9) #[true, true, true, true, true, false] rfl rfl (by kernel_rfl) (by decide) (fun K hK => ?_)
    obtain ⟨n1, n2, D1, D2, h1, h2, _, _, s1, s2⟩ := HT.out
    obtain ⟨c, hrun, hat, hwc⟩ := h1.lookup_int endKeyed Tryz.underlying67 Tryz.underlying3 (zero3 _) (endKey HQ.out.2.2.1 HQ.out.2.2.2)
    have hc : c = r := by
      rw [s1 _ _ HQ.out.2.2.1 HQ.out.2.2.2] at hat
      rw [← HP.out]
      unfold portV
      cases hf : fnd l0_0 a1_0 a1_1 <;> rw [hf] at hat <;> simp at hat <;> simp [hat]
    subst hc
    rw [if_pos (by rfl)]
    unfold Oper.wp
    simp [execOp, Act.eval, hrun, Result.andThen]
    refine hK.out _ _ ⟨(blk_cell BK2.out 0).trans rfl, (blk_cell BK3.out 0).trans rfl, (blk_cell BK3.out 1).trans rfl⟩ (fun hHeld => ?_)
    clear hK K
    refine norm_ (a' := ?_) ?_ ?_
    rotate_left
    · show Act.put _ (some 9) _ = _
      simp only [Act.put, List.setIfInBounds_toArray, List.set_cons_zero, List.set_cons_succ, i64_w, i32_w]
      rfl
    refine pure_ (i := 5) (N := some 4) (v := ?_) (a' := ?_) #[true, true, true, true, true, true] rfl rfl (by kernel_rfl) (fun _ _ _ h => h) (Or.inl ⟨by rfl, ?_⟩) ?_ ?_
    rotate_left
    · intro w'
      go_simp
      with_reducible rfl
    rotate_left
    · simp only [Act.put, List.setIfInBounds_toArray, List.set_cons_zero, List.set_cons_succ, i64_w, i32_w]
      rfl
    refine done_ (by kernel_rfl) ?_
    go_wp2
    go_ret
    exact ⟨rfl, HB.out⟩
  · rw [if_neg hq] at h
    cases h
set_option maxHeartbeats 8000000 in
set_option maxRecDepth 100000 in
theorem impl_MapEnd.calls (A0_0 : Option Addr) (c0_0 : Nat) (l0_0 : List (S34)) (a1 : Int) (r1 : Int) (r2 : Int) (r3 : Bool) (w : World) (hr0_0 : Kd.C k34 w A0_0 l0_0.length l0_0) (hc0_0 : l0_0.length ≤ c0_0) (h : impl_MapEnd.f l0_0 a1 = some (r1, r2, r3)) :
    Calls Tryz.prog 94 #[.agg #[.slice A0_0 l0_0.length c0_0], .int .i64 a1] w fun e w' => e = .returned (.tuple #[.agg #[.int .i64 r1, .int .i64 r2], .bool r3]) ∧ Below w.heap.size w w' := by
  unfold impl_MapEnd.f at h
  by_cases hq : l0_0.length < 1000000 ∧ l0_0.all wfE = true ∧ wfB a1 = true
  · rw [if_pos hq] at h
    have HP := Aside0.mk (Option.some.inj h)
    have HQ := Aside0.mk hq
    have HR := Aside0.mk hr0_0
    have HC := Aside0.mk hc0_0
    clear h hq hr0_0 hc0_0
    have HB := Aside0.mk (Below.refl w.heap.size w)
    have hu1 := Tryz.underlying70
    have hu2 := Tryz.underlying25
    have hu3 := Tryz.underlying34
    have hfl := field1
    go_enter Tryz.func94, Tryz.ntmps94
    go_wp2_with (first
      | ((with_reducible refine gate_dst (N := 2) rfl ?_)
         refine box_event ?hg (N := 2) ?hd (cs := #[.slice A0_0 l0_0.length c0_0]) (t := 25) ?hr ?_
         (case hd => rfl)
         (case hg => rfl)
         (case hr => first | (go_simp; done) | (go_simp; rfl))
         intro g2 hg w3 hbox hb
         have n1_ := Aside0.mk (below_step (bl HB) hb)
         have BK2 := Aside0.mk hbox
         clear HB
         have HB := n1_
         clear n1_ hg hbox hb
         have c20 : w3.cell? ⟨g2, 0, none⟩ = some (.slice A0_0 l0_0.length c0_0) := (blk_cell BK2.out 0).trans rfl)
      | ((with_reducible refine gate_dst (N := 4) rfl ?_)
         refine box_event ?hg (N := 4) ?hd (cs := #[.int .i64 0, .int .i64 0]) (t := 34) ?hr ?_
         (case hd => rfl)
         (case hg => rfl)
         (case hr => first | (go_simp; done) | (go_simp; rfl))
         intro g4 hg w4 hbox hb
         have n1_ := Aside0.mk (below_step (bl HB) hb)
         have n2_ := bkB BK2 hb
         have G4 := Aside0.mk (show w.heap.size ≤ g4 from by rw [hg]; exact below_size (bl HB))
         have BK4 := Aside0.mk hbox
         clear HB BK2 c20
         have HB := n1_
         have BK2 := n2_
         clear n1_ n2_ hg hbox hb
         have c20 : w4.cell? ⟨g2, 0, none⟩ = some (.slice A0_0 l0_0.length c0_0) := (blk_cell BK2.out 0).trans rfl)
      | ((with_reducible refine gate_callee (f := 55) rfl ?_)
         refine goesL_ _ rfl rfl Tryz.func55 (by kernel_rfl) rfl #[.agg #[.slice A0_0 l0_0.length c0_0]] rfl (by (try simp only [List.map_toArray, List.map_cons, List.map_nil]); first | done | rfl) ?_
         (with_reducible refine (portsOf_walk A0_0 c0_0 l0_0 _ (Kd.C_below HR.out HB.out) HC.out HQ.out.1 (wf_all HQ.out.2.1)).mono ?_)
         rintro e w6 ⟨b1, b2, rfl, hT, hb⟩
         refine ⟨_, rfl, ?_⟩
         have n1_ := bkB BK4 hb
         have n3_ := Aside0.mk (below_step (bl HB) hb)
         clear BK2 BK4 HB c20
         have BK4 := n1_
         have HB := n3_
         obtain ⟨n1, n2, D1, D2, h1, h2, _, _, s1, s2⟩ := hT
         have M2 := Aside0.mk h2
         have S2 := Aside0.mk s2
         clear n1_ n3_ hb h1 h2 s1 s2)
      | ((with_reducible refine gate_dst (N := 13) rfl ?_)
         at_lookup
         refine wpList_lookup_own_ok _ rfl _ _ 68 rfl 3 34 intKeyed Tryz.underlying68 _ (zeroEnd _) (endD 0 0) [] (endR_mk 0 0) b2 n2 D2 rfl M2.out _ _ rfl (intKey HQ.out.2.2) ?_
         intro v13 ps13 hv13
         obtain ⟨xa, xb, rfl, hx⟩ := endR_inv hv13
         have hh := mapEnd_hit S2.out HQ.out.2.2 hx HP.out
         obtain ⟨rfl, rfl, hh3⟩ := hh
         rw [hh3]
         clear hv13 hx hh3)
      | ((with_reducible refine gate_dst (N := 6) rfl ?_)
         refine box_event ?hg (N := 6) ?hd (cs := #[.int .i64 0, .int .i64 0]) (t := 34) ?hr ?_
         (case hd => rfl)
         (case hg => rfl)
         (case hr => first | (go_simp; done) | (go_simp; rfl))
         intro g6 hg w7 hbox hb
         have n1_ := Aside0.mk (below_step (bl HB) hb)
         have n2_ := bkB BK4 hb
         have G6 := Aside0.mk (show w.heap.size ≤ g6 from by rw [hg]; exact below_size (bl HB))
         have e46 : g4 ≠ g6 := by rw [hg]; exact Nat.ne_of_lt (bkL BK4)
         have e64 := e46.symm
         have BK6 := Aside0.mk hbox
         clear HB BK4
         have HB := n1_
         have BK4 := n2_
         clear n1_ n2_ hg hbox hb
         have c40 : w7.cell? ⟨g4, 0, none⟩ = some (.int .i64 0) := (blk_cell BK4.out 0).trans rfl
         have c41 : w7.cell? ⟨g4, 1, none⟩ = some (.int .i64 0) := (blk_cell BK4.out 1).trans rfl
         have c60 : w7.cell? ⟨g6, 0, none⟩ = some (.int .i64 0) := (blk_cell BK6.out 0).trans rfl
         have c61 : w7.cell? ⟨g6, 1, none⟩ = some (.int .i64 0) := (blk_cell BK6.out 1).trans rfl
         have z40 := blk_frozen BK4.out 0
         have z41 := blk_frozen BK4.out 1
         have z60 := blk_frozen BK6.out 0
         have z61 := blk_frozen BK6.out 1))
    refine bodyPost_ret (results_ct rfl _ _ g4 34 #[.int .i64 xa, .int .i64 xb] (0, 0) _ rfl (by (with_reducible repeat refine bu ?_); refine blk_put (cs := #[.int .i64 xa, .int .i64 0]) ?_ 1 _ rfl; (with_reducible repeat refine bu ?_); refine blk_put (cs := #[.int .i64 0, .int .i64 0]) ?_ 0 _ rfl; (with_reducible repeat refine bu ?_); refine blk_far ?_ e46 _; (with_reducible repeat refine bu ?_); refine blk_far ?_ e46 _; (with_reducible repeat refine bu ?_); exact BK4.out) Tryz.underlying34 rfl (by kernel_rfl)) rfl ?_
    exact ⟨rfl, below_set (below_set (below_set (below_set HB.out G6.out) G6.out) G4.out) G4.out⟩
  · rw [if_neg hq] at h
    cases h
end Go.Proofs.YtffmbccgcaghjaaGreatDoor.P
namespace Go.Proofs.YtffmbccgcaghjaaGreatDoor.P
open Go.RowKit Go.Proofs.YtffmbccgcaghjaaGreatDoorUFnBakRwr.PrintWords Go.Proofs.YtffmbccgcaghjaaGreatDoorUFnBakRwr.PrintLast Go.Proofs.YtffmbccgcaghjaaGreatDoorUFnBakRwr.PrintMore
attribute [local go_sem] max2_int min2_int max_two min_two max_three min_three max_four min_four
set_option linter.unusedVariables false
set_option linter.unusedSimpArgs false
def impl_MapTab_put.f (l0_0 : List (S34)) (a1_0 : Int) (a1_1 : Int) : Option ((List (S34)) × Int) := (impl_MapTab_copied.f l0_0).bind fun t372 => ((impl_MapPort.f l0_0 a1_0 a1_1).bind fun t376 => (if t376 = 0 then (if (l0_0.length : Int) ≥ 6 then (some (t372, t376)) else (if t372.length < 8796093022208 then ((impl_EndPoint_105.f (t372 ++ [(⟨a1_0, a1_1⟩ : S34)])).bind fun bt380 => (some (bt380.1, wrap64 (500 + (l0_0.length : Int))))) else (none))) else (some (t372, t376))))
set_option maxHeartbeats 8000000 in
set_option maxRecDepth 100000 in
theorem impl_MapTab_put.calls (A0_0 : Option Addr) (c0_0 : Nat) (l0_0 : List (S34)) (a1_0 : Int) (a1_1 : Int) (r1 : List (S34)) (r2 : Int) (w : World) (hr0_0 : Kd.C k34 w A0_0 l0_0.length l0_0) (hc0_0 : l0_0.length ≤ c0_0) (h : impl_MapTab_put.f l0_0 a1_0 a1_1 = some (r1, r2)) :
  Calls Tryz.prog 78 #[.agg #[.slice A0_0 l0_0.length c0_0], .agg #[.int .i64 a1_0, .int .i64 a1_1]] w fun e w' => ∃ v0_ : Value, e = .returned (.tuple #[.agg #[v0_], .int .i64 r2]) ∧ Kd.R k34 34 w' w.heap.size (fun _ => True) v0_ r1 ∧ Below w.heap.size w w' := by
 have hu25 := Tryz.underlying25
 have hu34 := Tryz.underlying34
 have HR0_0 := Aside0.mk hr0_0
 have HC0_0 := Aside0.mk hc0_0
 clear hr0_0 hc0_0
 have HB := Aside0.mk (Below.refl w.heap.size w)
 have H : ((impl_MapTab_copied.f l0_0).bind fun t372 => ((impl_MapPort.f l0_0 a1_0 a1_1).bind fun t376 => (if t376 = 0 then (if (l0_0.length : Int) ≥ 6 then (some (t372, t376)) else (if t372.length < 8796093022208 then ((impl_EndPoint_105.f (t372 ++ [(⟨a1_0, a1_1⟩ : S34)])).bind fun bt380 => (some (bt380.1, wrap64 (500 + (l0_0.length : Int))))) else (none))) else (some (t372, t376))))) = some (r1, r2) := h
 clear h
 replace H := Option.bind_eq_some_iff.mp H
 obtain ⟨t372, A30, H⟩ := H
 try dsimp only at H
 have A3 := Aside0.mk A30
 clear A30
 replace H := Option.bind_eq_some_iff.mp H
 obtain ⟨t376, A40, H⟩ := H
 try dsimp only at H
 have A4 := Aside0.mk A40
 clear A40
 by_cases c5 : t376 = 0
 ·rw [if_pos c5] at H
  have c5b0 : (t376 == 0) = true := beq_iff_eq.mpr c5
  have c5b1 : (t376 != 0) = false := bne_eq_false_iff_eq.mpr c5
  clear c5
  by_cases c6 : (l0_0.length : Int) ≥ 6
  ·rw [if_pos c6] at H
   have c6b0 : decide (6 ≤ (l0_0.length : Int)) = true := decide_eq_true c6
   have c6b1 : decide (6 ≤ l0_0.length) = true := decide_eq_true (by omega)
   clear c6
   simp only [Option.some.injEq, Prod.mk.injEq] at H
   obtain ⟨rfl, rfl⟩ := H
   go_enter Tryz.func78, Tryz.ntmps78
   go_wp2_with (first | ((with_reducible refine gate_dst (N := 2) rfl ?_); refine box_event rfl (N := 2) rfl (cs := #[.slice A0_0 l0_0.length c0_0]) (t := 25) hr_ ?_; intro gb369 hg w7 hbox hb; have BK369 := Aside0.mk hbox; have GW369 := gwE HB hg; have GE369 := gwE HB hg; replace HB := hbS HB hb; clear hb hbox hg) | ((with_reducible refine gate_dst (N := 3) rfl ?_); refine box_event rfl (N := 3) rfl (cs := #[.int .i64 a1_0, .int .i64 a1_1]) (t := 34) hr_ ?_; intro gb370 hg w8 hbox hb; have BK370 := Aside0.mk hbox; have GW370 := gwE HB hg; have GE370 := gwE HB hg; replace HB := hbS HB hb; have NB369_370 := neL BK369 hg; have NB370_369 := neG BK369 hg; replace BK369 := bkB BK369 hb; clear hb hbox hg) | ((with_reducible refine gate_dst (N := 4) rfl ?_); refine box_event rfl (N := 4) rfl (cs := #[.slice none 0 0]) (t := 25) hr_ ?_; intro gb371 hg w9 hbox hb; have BK371 := Aside0.mk hbox; have GW371 := gwE HB hg; have GE371 := gwE HB hg; replace HB := hbS HB hb; have NB369_371 := neL BK369 hg; have NB371_369 := neG BK369 hg; replace BK369 := bkB BK369 hb; have NB370_371 := neL BK370 hg; have NB371_370 := neG BK370 hg; replace BK370 := bkB BK370 hb; clear hb hbox hg; have hnb10 := NB369_370.out; have hnc10 := NB370_369.out; have hnb11 := NB369_371.out; have hnc11 := NB371_369.out; have hcz12_0 := bcell BK369 0; have hfz12_0 := blk_frozen BK369.out 0) | ((with_reducible refine gate_callee (f := 77) rfl ?_); refine gL (some 9) Tryz.func77 #[.agg #[.slice A0_0 l0_0.length c0_0]] ?_; (with_reducible refine (impl_MapTab_copied.calls _ _ l0_0 t372 _ ?side1 ?side2 A3.out).mono ?_); (case side1 => exact m4_); (case side2 => exact HC0_0.out); rintro e w13 ⟨v373, rfl, ho0, hb⟩; refine ⟨_, rfl, ?_⟩; have HO374 := Aside0.mk (Kd.R_lower (Kd.R_newB ho0 (g := gb370) (o := .cells #[.int .i64 a1_0, .int .i64 a1_1] 34 (0, 0)) (bk BK370)) (below_size (bl HB))); replace BK369 := bkB BK369 hb; replace BK370 := bkB BK370 hb; replace BK371 := bkB BK371 hb; replace HB := hbS HB hb; (try clear hb); (try clear ho0)) | ((with_reducible refine gate_dst (N := 6) rfl ?_); refine box_event rfl (N := 6) rfl (cs := #[.slice none 0 0]) (t := 25) hr_ ?_; intro gb375 hg w14 hbox hb; replace HO374 := Aside0.mk (Kd.R_below (rs HO374) hb); have BK375 := Aside0.mk hbox; have GW375 := gwE HB hg; have GE375 := gwE HB hg; replace HB := hbS HB hb; have NB369_375 := neL BK369 hg; have NB375_369 := neG BK369 hg; replace BK369 := bkB BK369 hb; have NB370_375 := neL BK370 hg; have NB375_370 := neG BK370 hg; replace BK370 := bkB BK370 hb; have NB371_375 := neL BK371 hg; have NB375_371 := neG BK371 hg; replace BK371 := bkB BK371 hb; clear hb hbox hg; obtain ⟨Ao15, co15, eo15⟩ := Kd.R_slice HO374.out; subst eo15; have hnb16 := NB375_369.out; have hnc16 := NB369_375.out; have hnb17 := NB375_370.out; have hnc17 := NB370_375.out; have hnb18 := NB375_371.out; have hnc18 := NB371_375.out; have hcz19_0 := bcell BK375 0; have hfz19_0 := blk_frozen BK375.out 0; have hcz20_0 := bcell BK369 0; have hfz20_0 := blk_frozen BK369.out 0; have hnb21 := NB370_371.out; have hnc21 := NB371_370.out; have hcz22_0 := bcell BK370 0; have hcz22_1 := bcell BK370 1; have hfz22_0 := blk_frozen BK370.out 0; have hfz22_1 := blk_frozen BK370.out 1) | ((with_reducible refine gate_callee (f := 23) rfl ?_); refine gL (some 12) Tryz.func23 #[.agg #[.slice A0_0 l0_0.length c0_0], .agg #[.int .i64 a1_0, .int .i64 a1_1]] ?_; (with_reducible refine (impl_MapPort.calls _ _ l0_0 a1_0 a1_1 t376 _ ?side1 ?side2 A4.out).mono ?_); (case side1 => exact Kd.C_below HR0_0.out (bl HB)); (case side2 => exact HC0_0.out); rintro e w23 ⟨rfl, hb⟩; refine ⟨_, rfl, ?_⟩; replace HO374 := Aside0.mk (Kd.R_below (by (with_reducible repeat apply ru); exact (Kd.R_mono (Kd.R_far (p := ⟨gb375, 0, none⟩) (Kd.R_types HO374.out BK375.out (by decide)) (fun _ hk => hk.2) (.slice Ao15 t372.length co15)) (fun _ h_ => h_.1))) hb); replace BK369 := Aside0.mk (blk_below (g := gb369) (o := .cells #[.slice A0_0 l0_0.length c0_0] 25 (0, 0)) (by (with_reducible repeat refine bu ?_); refine blk_far ?_ NB369_375.out _; (with_reducible repeat refine bu ?_); exact BK369.out) hb); replace BK370 := Aside0.mk (blk_below (g := gb370) (o := .cells #[.int .i64 a1_0, .int .i64 a1_1] 34 (0, 0)) (by (with_reducible repeat refine bu ?_); refine blk_far ?_ NB370_375.out _; (with_reducible repeat refine bu ?_); exact BK370.out) hb); replace BK371 := Aside0.mk (blk_below (g := gb371) (o := .cells #[.slice none 0 0] 25 (0, 0)) (by (with_reducible repeat refine bu ?_); refine blk_far ?_ NB371_375.out _; (with_reducible repeat refine bu ?_); exact BK371.out) hb); replace BK375 := Aside0.mk (blk_below (g := gb375) (o := .cells #[.slice Ao15 t372.length co15] 25 (0, 0)) (by (with_reducible repeat refine bu ?_); refine blk_put (cs := #[.slice none 0 0]) ?_ 0 _ rfl; (with_reducible repeat refine bu ?_); exact BK375.out) hb); replace HB := hbS HB hb; (try clear hb); (try clear hk); have hcz24_0 := bcell BK369 0; have hfz24_0 := blk_frozen BK369.out 0; have hcz25_0 := bcell BK375 0; have hfz25_0 := blk_frozen BK375.out 0; have hcz26_0 := bcell BK371 0; have hfz26_0 := blk_frozen BK371.out 0))
   refine bodyPost_ret (results_ct rfl _ _ gb371 25 #[.slice Ao15 t372.length co15] (0, 0) _ rfl (by (with_reducible repeat refine bu ?_); refine blk_put (cs := #[.slice none 0 0]) ?_ 0 _ rfl; (with_reducible repeat refine bu ?_); exact BK371.out) Tryz.underlying25 rfl (by kernel_rfl)) rfl ?_
   exact ⟨_, fi_, by (with_reducible repeat apply ru); exact Kd.R_mono (Kd.R_far (p := ⟨gb371, 0, none⟩) (Kd.R_types HO374.out BK371.out (by decide)) (fun _ hk => hk.2) (.slice Ao15 t372.length co15)) (fun _ hk => trivial), m2_⟩
  ·rw [if_neg c6] at H
   have c6b0 : decide (6 ≤ (l0_0.length : Int)) = false := decide_eq_false c6
   have c6b1 : decide (6 ≤ l0_0.length) = false := decide_eq_false (by omega)
   clear c6
   by_cases c27 : t372.length < 8796093022208
   ·rw [if_pos c27] at H
    have LMc27 := Aside0.mk c27
    clear c27
    obtain ⟨y377, hy377⟩ : ∃ y_ : List (S34), y_ = (t372 ++ [(⟨a1_0, a1_1⟩ : S34)]) := ⟨_, rfl⟩
    replace H : ((impl_EndPoint_105.f y377).bind fun bt380 => (some (bt380.1, wrap64 (500 + (l0_0.length : Int))))) = some (r1, r2) := by first | (rw [hy377]; with_reducible exact H) | (have H2_ := (Option.bind_some _ _).symm.trans H; rw [hy377]; with_reducible exact H2_) | (have H2_ := (Option.bind_some _ _).symm.trans H; with_reducible exact H2_) | with_reducible exact H | (rw [hy377]; exact H) | exact H
    have Ny377 := Aside0.mk hy377
    clear hy377
    replace H := Option.bind_eq_some_iff.mp H
    obtain ⟨⟨t380, t383⟩, A280, H⟩ := H
    try dsimp only at H
    have A28 := Aside0.mk A280
    clear A280
    simp only [Option.some.injEq, Prod.mk.injEq] at H
    obtain ⟨rfl, rfl⟩ := H
    go_enter Tryz.func78, Tryz.ntmps78
    try go_wp2_with (first | ((with_reducible refine gate_dst (N := 2) rfl ?_); refine box_event rfl (N := 2) rfl (cs := #[.slice A0_0 l0_0.length c0_0]) (t := 25) hr_ ?_; intro gb369 hg w29 hbox hb; have BK369 := Aside0.mk hbox; have GW369 := gwE HB hg; have GE369 := gwE HB hg; replace HB := hbS HB hb; clear hb hbox hg) | ((with_reducible refine gate_dst (N := 3) rfl ?_); refine box_event rfl (N := 3) rfl (cs := #[.int .i64 a1_0, .int .i64 a1_1]) (t := 34) hr_ ?_; intro gb370 hg w30 hbox hb; have BK370 := Aside0.mk hbox; have GW370 := gwE HB hg; have GE370 := gwE HB hg; replace HB := hbS HB hb; have NB369_370 := neL BK369 hg; have NB370_369 := neG BK369 hg; replace BK369 := bkB BK369 hb; clear hb hbox hg) | ((with_reducible refine gate_dst (N := 4) rfl ?_); refine box_event rfl (N := 4) rfl (cs := #[.slice none 0 0]) (t := 25) hr_ ?_; intro gb371 hg w31 hbox hb; have BK371 := Aside0.mk hbox; have GW371 := gwE HB hg; have GE371 := gwE HB hg; replace HB := hbS HB hb; have NB369_371 := neL BK369 hg; have NB371_369 := neG BK369 hg; replace BK369 := bkB BK369 hb; have NB370_371 := neL BK370 hg; have NB371_370 := neG BK370 hg; replace BK370 := bkB BK370 hb; clear hb hbox hg; have hnb32 := NB369_370.out; have hnc32 := NB370_369.out; have hnb33 := NB369_371.out; have hnc33 := NB371_369.out; have hcz34_0 := bcell BK369 0; have hfz34_0 := blk_frozen BK369.out 0) | ((with_reducible refine gate_callee (f := 77) rfl ?_); refine gL (some 9) Tryz.func77 #[.agg #[.slice A0_0 l0_0.length c0_0]] ?_; (with_reducible refine (impl_MapTab_copied.calls _ _ l0_0 t372 _ ?side1 ?side2 A3.out).mono ?_); (case side1 => exact m4_); (case side2 => exact HC0_0.out); rintro e w35 ⟨v373, rfl, ho0, hb⟩; refine ⟨_, rfl, ?_⟩; have HO374 := Aside0.mk (Kd.R_lower (Kd.R_newB ho0 (g := gb370) (o := .cells #[.int .i64 a1_0, .int .i64 a1_1] 34 (0, 0)) (bk BK370)) (below_size (bl HB))); replace BK369 := bkB BK369 hb; replace BK370 := bkB BK370 hb; replace BK371 := bkB BK371 hb; replace HB := hbS HB hb; (try clear hb); (try clear ho0)) | ((with_reducible refine gate_dst (N := 6) rfl ?_); refine box_event rfl (N := 6) rfl (cs := #[.slice none 0 0]) (t := 25) hr_ ?_; intro gb375 hg w36 hbox hb; replace HO374 := Aside0.mk (Kd.R_below (rs HO374) hb); have BK375 := Aside0.mk hbox; have GW375 := gwE HB hg; have GE375 := gwE HB hg; replace HB := hbS HB hb; have NB369_375 := neL BK369 hg; have NB375_369 := neG BK369 hg; replace BK369 := bkB BK369 hb; have NB370_375 := neL BK370 hg; have NB375_370 := neG BK370 hg; replace BK370 := bkB BK370 hb; have NB371_375 := neL BK371 hg; have NB375_371 := neG BK371 hg; replace BK371 := bkB BK371 hb; clear hb hbox hg; obtain ⟨Ao37, co37, eo37⟩ := Kd.R_slice HO374.out; subst eo37; have hnb38 := NB375_369.out; have hnc38 := NB369_375.out; have hnb39 := NB375_370.out; have hnc39 := NB370_375.out; have hnb40 := NB375_371.out; have hnc40 := NB371_375.out; have hcz41_0 := bcell BK375 0; have hfz41_0 := blk_frozen BK375.out 0; have hcz42_0 := bcell BK369 0; have hfz42_0 := blk_frozen BK369.out 0; have hnb43 := NB370_371.out; have hnc43 := NB371_370.out; have hcz44_0 := bcell BK370 0; have hcz44_1 := bcell BK370 1; have hfz44_0 := blk_frozen BK370.out 0; have hfz44_1 := blk_frozen BK370.out 1) | ((with_reducible refine gate_callee (f := 23) rfl ?_); refine gL (some 12) Tryz.func23 #[.agg #[.slice A0_0 l0_0.length c0_0], .agg #[.int .i64 a1_0, .int .i64 a1_1]] ?_; (with_reducible refine (impl_MapPort.calls _ _ l0_0 a1_0 a1_1 t376 _ ?side1 ?side2 A4.out).mono ?_); (case side1 => exact Kd.C_below HR0_0.out (bl HB)); (case side2 => exact HC0_0.out); rintro e w45 ⟨rfl, hb⟩; refine ⟨_, rfl, ?_⟩; replace HO374 := Aside0.mk (Kd.R_below (by (with_reducible repeat apply ru); exact (Kd.R_mono (Kd.R_far (p := ⟨gb375, 0, none⟩) (Kd.R_types HO374.out BK375.out (by decide)) (fun _ hk => hk.2) (.slice Ao37 t372.length co37)) (fun _ h_ => h_.1))) hb); replace BK369 := Aside0.mk (blk_below (g := gb369) (o := .cells #[.slice A0_0 l0_0.length c0_0] 25 (0, 0)) (by (with_reducible repeat refine bu ?_); refine blk_far ?_ NB369_375.out _; (with_reducible repeat refine bu ?_); exact BK369.out) hb); replace BK370 := Aside0.mk (blk_below (g := gb370) (o := .cells #[.int .i64 a1_0, .int .i64 a1_1] 34 (0, 0)) (by (with_reducible repeat refine bu ?_); refine blk_far ?_ NB370_375.out _; (with_reducible repeat refine bu ?_); exact BK370.out) hb); replace BK371 := Aside0.mk (blk_below (g := gb371) (o := .cells #[.slice none 0 0] 25 (0, 0)) (by (with_reducible repeat refine bu ?_); refine blk_far ?_ NB371_375.out _; (with_reducible repeat refine bu ?_); exact BK371.out) hb); replace BK375 := Aside0.mk (blk_below (g := gb375) (o := .cells #[.slice Ao37 t372.length co37] 25 (0, 0)) (by (with_reducible repeat refine bu ?_); refine blk_put (cs := #[.slice none 0 0]) ?_ 0 _ rfl; (with_reducible repeat refine bu ?_); exact BK375.out) hb); replace HB := hbS HB hb; (try clear hb); (try clear hk); have hcz46_0 := bcell BK369 0; have hfz46_0 := blk_frozen BK369.out 0; have hcz47_0 := bcell BK375 0; have hfz47_0 := blk_frozen BK375.out 0; have hcz48_0 := bcell BK370 0; have hcz48_1 := bcell BK370 1; have hfz48_0 := blk_frozen BK370.out 0; have hfz48_1 := blk_frozen BK370.out 1) | ((with_reducible refine gate_builtin (b := .append) (xs := #[.tmp 24, .tmp 26]) rfl ?_); at_builtin; refine Kd.R_append k34 (w0 := w) w.heap.size rfl (.tmp 24) (.tmp 26) 23 34 (.agg #[(.int .i64 0), (.int .i64 0)]) 16 rfl Tryz.underlying23 info34 rfl (by decide) (by omega) (.slice Ao37 t372.length co37) t372 (⟨a1_0, a1_1⟩ : S34) [.int .i64 a1_0, .int .i64 a1_1] (fun k_ => k_ ≠ gb370) (fun _ => False) rfl rfl ?aP (fun _ hk => hk.elim) ?aF ?aO ?aB ?aS ?aL ?_; (case aP => exact k34_mkM _ _ _ (⟨a1_0, a1_1⟩ : S34)); (case aB => exact (bl HB)); (case aF => exact (fun k_ hk => Kd.freshB (g := gb370) (o := .cells #[.int .i64 a1_0, .int .i64 a1_1] 34 (0, 0)) (bk BK370) k_ hk)); (case aO => exact (by (with_reducible repeat apply ru); exact Kd.R_mono HO374.out (fun _ hk => hk.2))); (case aS => exact (below_size (bl HB))); (case aL => have := LMc27.out; omega); intro v378 w49 ho hb hg hat; rw [← Ny377.out] at ho; replace BK369 := Aside0.mk (blk_grown (g := gb369) (o := .cells #[.slice A0_0 l0_0.length c0_0] 25 (0, 0)) (bk BK369) hg (Kd.R_ne HO374.out BK369.out (by decide))); replace BK370 := Aside0.mk (blk_grown (g := gb370) (o := .cells #[.int .i64 a1_0, .int .i64 a1_1] 34 (0, 0)) (bk BK370) hg (Kd.R_away HO374.out (fun _ hk => hk.2))); replace BK371 := Aside0.mk (blk_grown (g := gb371) (o := .cells #[.slice none 0 0] 25 (0, 0)) (bk BK371) hg (Kd.R_ne HO374.out BK371.out (by decide))); replace BK375 := Aside0.mk (blk_grown (g := gb375) (o := .cells #[.slice Ao37 t372.length co37] 25 (0, 0)) (bk BK375) hg (Kd.R_ne HO374.out BK375.out (by decide))); replace HB := Aside0.mk hb; have HO379 := Aside0.mk (ho); clear HO374; clear ho hb hg hat; obtain ⟨Ao50, co50, eo50⟩ := Kd.R_slice HO379.out; subst eo50) | ((with_reducible refine gate_callee (f := 105) rfl ?_); refine gL (some 28) Tryz.func105 #[.slice Ao50 y377.length co50] ?_; (with_reducible refine (clip_end Ao50 y377.length co50 (Kd.R_reads' HO379.out).2.1 _).mono ?_); rintro e w51 ⟨v381, rfl, hv_, hw_⟩; refine ⟨_, rfl, ?_⟩; replace BK369 := bkW BK369 hw_; replace BK370 := bkW BK370 hw_; replace BK371 := bkW BK371 hw_; replace BK375 := bkW BK375 hw_; have HO382 := clipR (ok' := fun k_ => some k_ ≠ (.slice none 0 0 : Value).ownBlock ∧ k_ ≠ gb370) HO379 hv_ hw_ A28.out (fun k_ hk_ => by first | exact ⟨by simp [Value.ownBlock], hk_⟩ | (simp [Value.ownBlock]; done) | exact hk_); replace HO379 := clipNil HO379 w51 A28.out; replace HB := blW HB hw_; clear hv_ hw_; obtain ⟨Ao52, co52, eo52⟩ := Kd.R_slice HO382.out; subst eo52; have hcz53_0 := bcell BK375 0; have hfz53_0 := blk_frozen BK375.out 0))
    have n0_ : Aside0 (Kd.R k34 34 (w51.setCell ⟨gb375, 0, none⟩ (.slice Ao52 t380.length co52)) w.heap.size (fun k_ => k_ ≠ gb370) (.slice none 0 0) t383) := ⟨by (with_reducible repeat apply ru); exact Kd.R_mono (Kd.R_far (p := ⟨gb375, 0, none⟩) (Kd.R_types HO379.out BK375.out (by decide)) (fun _ hk => hk.2) (.slice Ao52 t380.length co52)) (fun _ hk => hk.1)⟩
    have n1_ : Aside0 (Kd.R k34 34 (w51.setCell ⟨gb375, 0, none⟩ (.slice Ao52 t380.length co52)) w.heap.size (fun k_ => some k_ ≠ (.slice none 0 0 : Value).ownBlock ∧ k_ ≠ gb370) (.slice Ao52 t380.length co52) t380) := ⟨by (with_reducible repeat apply ru); exact Kd.R_mono (Kd.R_far (p := ⟨gb375, 0, none⟩) (Kd.R_types HO382.out BK375.out (by decide)) (fun _ hk => hk.2) (.slice Ao52 t380.length co52)) (fun _ hk => ⟨hk.1.1, hk.1.2⟩)⟩
    have n2_ : Aside0 ((w51.setCell ⟨gb375, 0, none⟩ (.slice Ao52 t380.length co52)).heap[gb369]? = some (.cells #[.slice A0_0 l0_0.length c0_0] 25 (0, 0))) := ⟨by (with_reducible repeat refine bu ?_); refine blk_far ?_ NB369_375.out _; (with_reducible repeat refine bu ?_); exact BK369.out⟩
    have n3_ : Aside0 ((w51.setCell ⟨gb375, 0, none⟩ (.slice Ao52 t380.length co52)).heap[gb370]? = some (.cells #[.int .i64 a1_0, .int .i64 a1_1] 34 (0, 0))) := ⟨by (with_reducible repeat refine bu ?_); refine blk_far ?_ NB370_375.out _; (with_reducible repeat refine bu ?_); exact BK370.out⟩
    have n4_ : Aside0 ((w51.setCell ⟨gb375, 0, none⟩ (.slice Ao52 t380.length co52)).heap[gb371]? = some (.cells #[.slice none 0 0] 25 (0, 0))) := ⟨by (with_reducible repeat refine bu ?_); refine blk_far ?_ NB371_375.out _; (with_reducible repeat refine bu ?_); exact BK371.out⟩
    have n5_ : Aside0 ((w51.setCell ⟨gb375, 0, none⟩ (.slice Ao52 t380.length co52)).heap[gb375]? = some (.cells #[.slice Ao52 t380.length co52] 25 (0, 0))) := ⟨by (with_reducible repeat refine bu ?_); refine blk_put (cs := #[.slice Ao37 t372.length co37]) ?_ 0 _ rfl; (with_reducible repeat refine bu ?_); exact BK375.out⟩
    have n6_ : Aside0 (Below w.heap.size w (w51.setCell ⟨gb375, 0, none⟩ (.slice Ao52 t380.length co52))) := ⟨m2_⟩
    (try clear HO379)
    (try clear HO382)
    (try clear BK369)
    (try clear BK370)
    (try clear BK371)
    (try clear BK375)
    (try clear HB)
    generalize (w51.setCell ⟨gb375, 0, none⟩ (.slice Ao52 t380.length co52)) = w54 at n0_ n1_ n2_ n3_ n4_ n5_ n6_ ⊢
    have HO379 := n0_
    have HO382 := n1_
    have BK369 := n2_
    have BK370 := n3_
    have BK371 := n4_
    have BK375 := n5_
    have HB := n6_
    clear n0_ n1_ n2_ n3_ n4_ n5_ n6_
    replace HO379 := Aside0.mk (Kd.R_drew HO379.out)
    replace HO382 := Aside0.mk (Kd.R_drew HO382.out)
    replace BK369 := Aside0.mk (blk_drew BK369.out)
    replace BK370 := Aside0.mk (blk_drew BK370.out)
    replace BK371 := Aside0.mk (blk_drew BK371.out)
    replace BK375 := Aside0.mk (blk_drew BK375.out)
    replace HB := Aside0.mk (below_drew1 HB.out)
    refine start_ (n := 7) (S := fun w' => w'.cell? ⟨gb375, 0, none⟩ = some (.slice Ao52 t380.length co52) ∧ w'.cell? ⟨gb369, 0, none⟩ = some (.slice A0_0 l0_0.length c0_0)) (ds := []) #[false, false, false, false, false, false, false] (by kernel_rfl) rfl rfl ⟨bcell BK375 0, bcell BK369 0⟩ (fun hHeld => ?_)
    generalize w54.drew = w55 at HO379 HO382 BK369 BK370 BK371 BK375 HB hHeld ⊢
    refine pu_ 1 (some 31) #[false, true, false, false, false, false, false] ?_
    refine tk_ 0 (some 30) #[true, true, false, false, false, false, false] rfl (.inl ⟨rfl, m3_⟩) ?_
    refine tk_ 2 (some 32) #[true, true, true, false, false, false, false] rfl (.inl ⟨rfl, m3_⟩) ?_
    refine pu_ 3 (some 33) #[true, true, true, true, false, false, false] ?_
    refine pu_ 4 (some 34) #[true, true, true, true, true, false, false] ?_
    refine one_ (i := 5) (N := none) #[true, true, true, true, true, true, false] rfl rfl (by kernel_rfl) (by decide) (fun K hK => ?_)
    have hs56 : w55.cell? ⟨gb371, 0, none⟩ = some (.slice none 0 0) := bcell BK371 0
    have hfs56 := blk_frozen BK371.out 0
    have hns56_0 := NB369_371.out
    have hns56_1 := NB370_371.out
    have hns56_3 := NB375_371.out
    have hms56_0 := NB371_369.out
    have hms56_1 := NB371_370.out
    have hms56_3 := NB371_375.out
    refine skip_ (w1 := ?_) (by rfl) rfl ?_ ?_
    rotate_left
    ·go_simp
     rfl
    refine hK.out _ _ ⟨((cell_far (p := ⟨gb371, _, none⟩) NB375_371.out _).trans (hHeld.1)), ((cell_far (p := ⟨gb371, _, none⟩) NB369_371.out _).trans (hHeld.2))⟩ (fun hHeld => ?_)
    clear hK K
    refine pu_ 6 (some 5) #[true, true, true, true, true, true, true] ?_
    refine done_ (by kernel_rfl) ?_
    try go_wp2
    refine bodyPost_ret (results_ct rfl _ _ gb371 25 #[.slice Ao52 t380.length co52] (0, 0) _ rfl (by (with_reducible repeat refine bu ?_); refine blk_put (cs := #[.slice none 0 0]) ?_ 0 _ rfl; (with_reducible repeat refine bu ?_); exact BK371.out) Tryz.underlying25 rfl (by kernel_rfl)) rfl ?_
    exact ⟨_, fi_, by (with_reducible repeat apply ru); exact Kd.R_mono (Kd.R_far (p := ⟨gb371, 0, none⟩) (Kd.R_types HO382.out BK371.out (by decide)) (fun _ hk => hk.2) (.slice Ao52 t380.length co52)) (fun _ hk => trivial), m2_⟩
   ·rw [if_neg c27] at H
    exact absurd H (by simp)
 ·rw [if_neg c5] at H
  have c5b0 : (t376 == 0) = false := beq_eq_false_iff_ne.mpr c5
  have c5b1 : (t376 != 0) = true := bne_iff_ne.mpr c5
  simp only [Option.some.injEq, Prod.mk.injEq] at H
  obtain ⟨rfl, rfl⟩ := H
  go_enter Tryz.func78, Tryz.ntmps78
  go_wp2_with (first | ((with_reducible refine gate_dst (N := 2) rfl ?_); refine box_event rfl (N := 2) rfl (cs := #[.slice A0_0 l0_0.length c0_0]) (t := 25) hr_ ?_; intro gb369 hg w57 hbox hb; have BK369 := Aside0.mk hbox; have GW369 := gwE HB hg; have GE369 := gwE HB hg; replace HB := hbS HB hb; clear hb hbox hg) | ((with_reducible refine gate_dst (N := 3) rfl ?_); refine box_event rfl (N := 3) rfl (cs := #[.int .i64 a1_0, .int .i64 a1_1]) (t := 34) hr_ ?_; intro gb370 hg w58 hbox hb; have BK370 := Aside0.mk hbox; have GW370 := gwE HB hg; have GE370 := gwE HB hg; replace HB := hbS HB hb; have NB369_370 := neL BK369 hg; have NB370_369 := neG BK369 hg; replace BK369 := bkB BK369 hb; clear hb hbox hg) | ((with_reducible refine gate_dst (N := 4) rfl ?_); refine box_event rfl (N := 4) rfl (cs := #[.slice none 0 0]) (t := 25) hr_ ?_; intro gb371 hg w59 hbox hb; have BK371 := Aside0.mk hbox; have GW371 := gwE HB hg; have GE371 := gwE HB hg; replace HB := hbS HB hb; have NB369_371 := neL BK369 hg; have NB371_369 := neG BK369 hg; replace BK369 := bkB BK369 hb; have NB370_371 := neL BK370 hg; have NB371_370 := neG BK370 hg; replace BK370 := bkB BK370 hb; clear hb hbox hg; have hnb60 := NB369_370.out; have hnc60 := NB370_369.out; have hnb61 := NB369_371.out; have hnc61 := NB371_369.out; have hcz62_0 := bcell BK369 0; have hfz62_0 := blk_frozen BK369.out 0) | ((with_reducible refine gate_callee (f := 77) rfl ?_); refine gL (some 9) Tryz.func77 #[.agg #[.slice A0_0 l0_0.length c0_0]] ?_; (with_reducible refine (impl_MapTab_copied.calls _ _ l0_0 t372 _ ?side1 ?side2 A3.out).mono ?_); (case side1 => exact m4_); (case side2 => exact HC0_0.out); rintro e w63 ⟨v373, rfl, ho0, hb⟩; refine ⟨_, rfl, ?_⟩; have HO374 := Aside0.mk (Kd.R_lower (Kd.R_newB ho0 (g := gb370) (o := .cells #[.int .i64 a1_0, .int .i64 a1_1] 34 (0, 0)) (bk BK370)) (below_size (bl HB))); replace BK369 := bkB BK369 hb; replace BK370 := bkB BK370 hb; replace BK371 := bkB BK371 hb; replace HB := hbS HB hb; (try clear hb); (try clear ho0)) | ((with_reducible refine gate_dst (N := 6) rfl ?_); refine box_event rfl (N := 6) rfl (cs := #[.slice none 0 0]) (t := 25) hr_ ?_; intro gb375 hg w64 hbox hb; replace HO374 := Aside0.mk (Kd.R_below (rs HO374) hb); have BK375 := Aside0.mk hbox; have GW375 := gwE HB hg; have GE375 := gwE HB hg; replace HB := hbS HB hb; have NB369_375 := neL BK369 hg; have NB375_369 := neG BK369 hg; replace BK369 := bkB BK369 hb; have NB370_375 := neL BK370 hg; have NB375_370 := neG BK370 hg; replace BK370 := bkB BK370 hb; have NB371_375 := neL BK371 hg; have NB375_371 := neG BK371 hg; replace BK371 := bkB BK371 hb; clear hb hbox hg; obtain ⟨Ao65, co65, eo65⟩ := Kd.R_slice HO374.out; subst eo65; have hnb66 := NB375_369.out; have hnc66 := NB369_375.out; have hnb67 := NB375_370.out; have hnc67 := NB370_375.out; have hnb68 := NB375_371.out; have hnc68 := NB371_375.out; have hcz69_0 := bcell BK375 0; have hfz69_0 := blk_frozen BK375.out 0; have hcz70_0 := bcell BK369 0; have hfz70_0 := blk_frozen BK369.out 0; have hnb71 := NB370_371.out; have hnc71 := NB371_370.out; have hcz72_0 := bcell BK370 0; have hcz72_1 := bcell BK370 1; have hfz72_0 := blk_frozen BK370.out 0; have hfz72_1 := blk_frozen BK370.out 1) | ((with_reducible refine gate_callee (f := 23) rfl ?_); refine gL (some 12) Tryz.func23 #[.agg #[.slice A0_0 l0_0.length c0_0], .agg #[.int .i64 a1_0, .int .i64 a1_1]] ?_; (with_reducible refine (impl_MapPort.calls _ _ l0_0 a1_0 a1_1 t376 _ ?side1 ?side2 A4.out).mono ?_); (case side1 => exact Kd.C_below HR0_0.out (bl HB)); (case side2 => exact HC0_0.out); rintro e w73 ⟨rfl, hb⟩; refine ⟨_, rfl, ?_⟩; replace HO374 := Aside0.mk (Kd.R_below (by (with_reducible repeat apply ru); exact (Kd.R_mono (Kd.R_far (p := ⟨gb375, 0, none⟩) (Kd.R_types HO374.out BK375.out (by decide)) (fun _ hk => hk.2) (.slice Ao65 t372.length co65)) (fun _ h_ => h_.1))) hb); replace BK369 := Aside0.mk (blk_below (g := gb369) (o := .cells #[.slice A0_0 l0_0.length c0_0] 25 (0, 0)) (by (with_reducible repeat refine bu ?_); refine blk_far ?_ NB369_375.out _; (with_reducible repeat refine bu ?_); exact BK369.out) hb); replace BK370 := Aside0.mk (blk_below (g := gb370) (o := .cells #[.int .i64 a1_0, .int .i64 a1_1] 34 (0, 0)) (by (with_reducible repeat refine bu ?_); refine blk_far ?_ NB370_375.out _; (with_reducible repeat refine bu ?_); exact BK370.out) hb); replace BK371 := Aside0.mk (blk_below (g := gb371) (o := .cells #[.slice none 0 0] 25 (0, 0)) (by (with_reducible repeat refine bu ?_); refine blk_far ?_ NB371_375.out _; (with_reducible repeat refine bu ?_); exact BK371.out) hb); replace BK375 := Aside0.mk (blk_below (g := gb375) (o := .cells #[.slice Ao65 t372.length co65] 25 (0, 0)) (by (with_reducible repeat refine bu ?_); refine blk_put (cs := #[.slice none 0 0]) ?_ 0 _ rfl; (with_reducible repeat refine bu ?_); exact BK375.out) hb); replace HB := hbS HB hb; (try clear hb); (try clear hk); have hcz74_0 := bcell BK375 0; have hfz74_0 := blk_frozen BK375.out 0; have hcz75_0 := bcell BK371 0; have hfz75_0 := blk_frozen BK371.out 0))
  refine bodyPost_ret (results_ct rfl _ _ gb371 25 #[.slice Ao65 t372.length co65] (0, 0) _ rfl (by (with_reducible repeat refine bu ?_); refine blk_put (cs := #[.slice none 0 0]) ?_ 0 _ rfl; (with_reducible repeat refine bu ?_); exact BK371.out) Tryz.underlying25 rfl (by kernel_rfl)) rfl ?_
  exact ⟨_, fi_, by (with_reducible repeat apply ru); exact Kd.R_mono (Kd.R_far (p := ⟨gb371, 0, none⟩) (Kd.R_types HO374.out BK371.out (by decide)) (fun _ hk => hk.2) (.slice Ao65 t372.length co65)) (fun _ hk => trivial), m2_⟩
def impl_MapTab_goesOut.f (l0_0 : List (S34)) (a1 : ByteArray) : Option ((List (S34)) × ByteArray) := (impl_LinSays.f a1).bind fun bt386 => (if bt386.2.2 = true then ((impl_MapTab_put.f l0_0 bt386.1 bt386.2.1).bind fun bt393 => (if bt393.2 = 0 then (some (bt393.1, (⟨#[110, 111, 110, 101]⟩ : ByteArray))) else ((impl_LinPort.f 50 bt393.2).bind fun t398 => (some (bt393.1, t398))))) else ((impl_MapTab_copied.f l0_0).bind fun t390 => (some (t390, a1))))
set_option maxHeartbeats 8000000 in
set_option maxRecDepth 100000 in
theorem impl_MapTab_goesOut.calls (A0_0 : Option Addr) (c0_0 : Nat) (l0_0 : List (S34)) (a1 : ByteArray) (r1 : List (S34)) (r2 : ByteArray) (w : World) (hr0_0 : Kd.C k34 w A0_0 l0_0.length l0_0) (hc0_0 : l0_0.length ≤ c0_0) (h : impl_MapTab_goesOut.f l0_0 a1 = some (r1, r2)) (hE : EnvE w) :
  Calls Tryz.prog 45 #[.agg #[.slice A0_0 l0_0.length c0_0], .string a1] w fun e w' => ∃ v0_ : Value, e = .returned (.tuple #[.agg #[v0_], .string r2]) ∧ Kd.R k34 34 w' w.heap.size (fun _ => True) v0_ r1 ∧ Below w.heap.size w w' := by
 have hu25 := Tryz.underlying25
 have hu34 := Tryz.underlying34
 have HR0_0 := Aside0.mk hr0_0
 have HC0_0 := Aside0.mk hc0_0
 clear hr0_0 hc0_0
 have HB := Aside0.mk (Below.refl w.heap.size w)
 have H : ((impl_LinSays.f a1).bind fun bt386 => (if bt386.2.2 = true then ((impl_MapTab_put.f l0_0 bt386.1 bt386.2.1).bind fun bt393 => (if bt393.2 = 0 then (some (bt393.1, (⟨#[110, 111, 110, 101]⟩ : ByteArray))) else ((impl_LinPort.f 50 bt393.2).bind fun t398 => (some (bt393.1, t398))))) else ((impl_MapTab_copied.f l0_0).bind fun t390 => (some (t390, a1))))) = some (r1, r2) := h
 clear h
 replace H := Option.bind_eq_some_iff.mp H
 obtain ⟨⟨t386, t387, t388⟩, A30, H⟩ := H
 try dsimp only at H
 have A3 := Aside0.mk A30
 clear A30
 by_cases c4 : t388 = true
 ·subst c4
  have H1 : ((impl_MapTab_put.f l0_0 t386 t387).bind fun bt393 => (if bt393.2 = 0 then (some (bt393.1, (⟨#[110, 111, 110, 101]⟩ : ByteArray))) else ((impl_LinPort.f 50 bt393.2).bind fun t398 => (some (bt393.1, t398))))) = some (r1, r2) := by rw [if_pos rfl] at H; exact H
  clear H
  have H := H1
  clear H1
  replace H := Option.bind_eq_some_iff.mp H
  obtain ⟨⟨t393, t396⟩, A50, H⟩ := H
  try dsimp only at H
  have A5 := Aside0.mk A50
  clear A50
  by_cases c6 : t396 = 0
  ·rw [if_pos c6] at H
   have c6b0 : (t396 == 0) = true := beq_iff_eq.mpr c6
   have c6b1 : (t396 != 0) = false := bne_eq_false_iff_eq.mpr c6
   clear c6
   simp only [Option.some.injEq, Prod.mk.injEq] at H
   obtain ⟨rfl, rfl⟩ := H
   go_enter Tryz.func45, Tryz.ntmps45
   go_wp2_with (first | ((with_reducible refine gate_dst (N := 2) rfl ?_); refine box_event rfl (N := 2) rfl (cs := #[.slice A0_0 l0_0.length c0_0]) (t := 25) hr_ ?_; intro gb384 hg w7 hbox hb; have BK384 := Aside0.mk hbox; have GW384 := gwE HB hg; have GE384 := gwE HB hg; replace HB := hbS HB hb; clear hb hbox hg) | ((with_reducible refine gate_dst (N := 4) rfl ?_); refine box_event rfl (N := 4) rfl (cs := #[.slice none 0 0]) (t := 25) hr_ ?_; intro gb385 hg w8 hbox hb; have BK385 := Aside0.mk hbox; have GW385 := gwE HB hg; have GE385 := gwE HB hg; replace HB := hbS HB hb; have NB384_385 := neL BK384 hg; have NB385_384 := neG BK384 hg; replace BK384 := bkB BK384 hb; clear hb hbox hg) | ((with_reducible refine gate_callee (f := 19) rfl ?_); refine gL (some 12) Tryz.func19 #[.string a1] ?_; (with_reducible refine (impl_LinSays.calls a1 t386 t387 true _ A3.out (EnvE.below hE (bl HB))).mono ?_); rintro e w9 ⟨rfl, hb⟩; refine ⟨_, rfl, ?_⟩; replace BK384 := bkB BK384 hb; replace BK385 := bkB BK385 hb; replace HB := hbS HB hb; (try clear hb)) | ((with_reducible refine gate_dst (N := 6) rfl ?_); refine box_event rfl (N := 6) rfl (cs := #[.int .i64 0, .int .i64 0]) (t := 34) hr_ ?_; intro gb389 hg w10 hbox hb; have BK389 := Aside0.mk hbox; have GW389 := gwE HB hg; have GE389 := gwE HB hg; replace HB := hbS HB hb; have NB384_389 := neL BK384 hg; have NB389_384 := neG BK384 hg; replace BK384 := bkB BK384 hb; have NB385_389 := neL BK385 hg; have NB389_385 := neG BK385 hg; replace BK385 := bkB BK385 hb; clear hb hbox hg; have hnb11 := NB389_384.out; have hnc11 := NB384_389.out; have hnb12 := NB389_385.out; have hnc12 := NB385_389.out; have hcz13_0 := bcell BK389 0; have hcz13_1 := bcell BK389 1; have hfz13_0 := blk_frozen BK389.out 0; have hfz13_1 := blk_frozen BK389.out 1; have hnb14 := NB384_385.out; have hnc14 := NB385_384.out; have hcz15_0 := bcell BK384 0; have hfz15_0 := blk_frozen BK384.out 0) | ((with_reducible refine gate_callee (f := 78) rfl ?_); refine gL (some 23) Tryz.func78 #[.agg #[.slice A0_0 l0_0.length c0_0], .agg #[.int .i64 t386, .int .i64 t387]] ?_; (with_reducible refine (impl_MapTab_put.calls _ _ l0_0 t386 t387 t393 t396 _ ?side1 ?side2 A5.out).mono ?_); (case side1 => exact Kd.C_below HR0_0.out (bl HB)); (case side2 => exact HC0_0.out); rintro e w16 ⟨v394, rfl, ho0, hb⟩; refine ⟨_, rfl, ?_⟩; have HO395 := Aside0.mk (Kd.R_lower (Kd.R_newB ho0 (g := gb389) (o := .cells #[.int .i64 t386, .int .i64 t387] 34 (0, 0)) (by (with_reducible repeat refine bu ?_); refine blk_put (cs := #[.int .i64 t386, .int .i64 0]) ?_ 1 _ rfl; (with_reducible repeat refine bu ?_); refine blk_put (cs := #[.int .i64 0, .int .i64 0]) ?_ 0 _ rfl; (with_reducible repeat refine bu ?_); exact BK389.out)) (below_size (bl HB))); replace BK384 := Aside0.mk (blk_below (g := gb384) (o := .cells #[.slice A0_0 l0_0.length c0_0] 25 (0, 0)) (by (with_reducible repeat refine bu ?_); refine blk_far ?_ NB384_389.out _; (with_reducible repeat refine bu ?_); refine blk_far ?_ NB384_389.out _; (with_reducible repeat refine bu ?_); exact BK384.out) hb); replace BK385 := Aside0.mk (blk_below (g := gb385) (o := .cells #[.slice none 0 0] 25 (0, 0)) (by (with_reducible repeat refine bu ?_); refine blk_far ?_ NB385_389.out _; (with_reducible repeat refine bu ?_); refine blk_far ?_ NB385_389.out _; (with_reducible repeat refine bu ?_); exact BK385.out) hb); replace BK389 := Aside0.mk (blk_below (g := gb389) (o := .cells #[.int .i64 t386, .int .i64 t387] 34 (0, 0)) (by (with_reducible repeat refine bu ?_); refine blk_put (cs := #[.int .i64 t386, .int .i64 0]) ?_ 1 _ rfl; (with_reducible repeat refine bu ?_); refine blk_put (cs := #[.int .i64 0, .int .i64 0]) ?_ 0 _ rfl; (with_reducible repeat refine bu ?_); exact BK389.out) hb); replace HB := hbS HB hb; (try clear hb); (try clear ho0)) | ((with_reducible refine gate_dst (N := 8) rfl ?_); refine box_event rfl (N := 8) rfl (cs := #[.slice none 0 0]) (t := 25) hr_ ?_; intro gb397 hg w17 hbox hb; replace HO395 := Aside0.mk (Kd.R_below (rs HO395) hb); have BK397 := Aside0.mk hbox; have GW397 := gwE HB hg; have GE397 := gwE HB hg; replace HB := hbS HB hb; have NB384_397 := neL BK384 hg; have NB397_384 := neG BK384 hg; replace BK384 := bkB BK384 hb; have NB385_397 := neL BK385 hg; have NB397_385 := neG BK385 hg; replace BK385 := bkB BK385 hb; have NB389_397 := neL BK389 hg; have NB397_389 := neG BK389 hg; replace BK389 := bkB BK389 hb; clear hb hbox hg; obtain ⟨Ao18, co18, eo18⟩ := Kd.R_slice HO395.out; subst eo18; have hnb19 := NB397_384.out; have hnc19 := NB384_397.out; have hnb20 := NB397_385.out; have hnc20 := NB385_397.out; have hnb21 := NB397_389.out; have hnc21 := NB389_397.out; have hcz22_0 := bcell BK397 0; have hfz22_0 := blk_frozen BK397.out 0; have hcz23_0 := bcell BK385 0; have hfz23_0 := blk_frozen BK385.out 0))
   refine bodyPost_ret (results_ct rfl _ _ gb385 25 #[.slice Ao18 t393.length co18] (0, 0) _ rfl (by (with_reducible repeat refine bu ?_); refine blk_put (cs := #[.slice none 0 0]) ?_ 0 _ rfl; (with_reducible repeat refine bu ?_); refine blk_far ?_ NB385_397.out _; (with_reducible repeat refine bu ?_); exact BK385.out) Tryz.underlying25 rfl (by kernel_rfl)) rfl ?_
   exact ⟨_, fi_, by (with_reducible repeat apply ru); exact Kd.R_mono (Kd.R_far (p := ⟨gb385, 0, none⟩) (Kd.R_far (p := ⟨gb397, 0, none⟩) (Kd.R_types (Kd.R_types HO395.out BK397.out (by decide)) BK385.out (by decide)) (fun _ hk => hk.1.2) (.slice Ao18 t393.length co18)) (fun _ hk => hk.2) (.slice Ao18 t393.length co18)) (fun _ hk => trivial), m2_⟩
  ·rw [if_neg c6] at H
   have c6b0 : (t396 == 0) = false := beq_eq_false_iff_ne.mpr c6
   have c6b1 : (t396 != 0) = true := bne_iff_ne.mpr c6
   replace H := Option.bind_eq_some_iff.mp H
   obtain ⟨t398, A240, H⟩ := H
   try dsimp only at H
   have A24 := Aside0.mk A240
   clear A240
   simp only [Option.some.injEq, Prod.mk.injEq] at H
   obtain ⟨rfl, rfl⟩ := H
   go_enter Tryz.func45, Tryz.ntmps45
   try go_wp2_with (first | ((with_reducible refine gate_dst (N := 2) rfl ?_); refine box_event rfl (N := 2) rfl (cs := #[.slice A0_0 l0_0.length c0_0]) (t := 25) hr_ ?_; intro gb384 hg w25 hbox hb; have BK384 := Aside0.mk hbox; have GW384 := gwE HB hg; have GE384 := gwE HB hg; replace HB := hbS HB hb; clear hb hbox hg) | ((with_reducible refine gate_dst (N := 4) rfl ?_); refine box_event rfl (N := 4) rfl (cs := #[.slice none 0 0]) (t := 25) hr_ ?_; intro gb385 hg w26 hbox hb; have BK385 := Aside0.mk hbox; have GW385 := gwE HB hg; have GE385 := gwE HB hg; replace HB := hbS HB hb; have NB384_385 := neL BK384 hg; have NB385_384 := neG BK384 hg; replace BK384 := bkB BK384 hb; clear hb hbox hg) | ((with_reducible refine gate_callee (f := 19) rfl ?_); refine gL (some 12) Tryz.func19 #[.string a1] ?_; (with_reducible refine (impl_LinSays.calls a1 t386 t387 true _ A3.out (EnvE.below hE (bl HB))).mono ?_); rintro e w27 ⟨rfl, hb⟩; refine ⟨_, rfl, ?_⟩; replace BK384 := bkB BK384 hb; replace BK385 := bkB BK385 hb; replace HB := hbS HB hb; (try clear hb)) | ((with_reducible refine gate_dst (N := 6) rfl ?_); refine box_event rfl (N := 6) rfl (cs := #[.int .i64 0, .int .i64 0]) (t := 34) hr_ ?_; intro gb389 hg w28 hbox hb; have BK389 := Aside0.mk hbox; have GW389 := gwE HB hg; have GE389 := gwE HB hg; replace HB := hbS HB hb; have NB384_389 := neL BK384 hg; have NB389_384 := neG BK384 hg; replace BK384 := bkB BK384 hb; have NB385_389 := neL BK385 hg; have NB389_385 := neG BK385 hg; replace BK385 := bkB BK385 hb; clear hb hbox hg; have hnb29 := NB389_384.out; have hnc29 := NB384_389.out; have hnb30 := NB389_385.out; have hnc30 := NB385_389.out; have hcz31_0 := bcell BK389 0; have hcz31_1 := bcell BK389 1; have hfz31_0 := blk_frozen BK389.out 0; have hfz31_1 := blk_frozen BK389.out 1; have hnb32 := NB384_385.out; have hnc32 := NB385_384.out; have hcz33_0 := bcell BK384 0; have hfz33_0 := blk_frozen BK384.out 0) | ((with_reducible refine gate_callee (f := 78) rfl ?_); refine gL (some 23) Tryz.func78 #[.agg #[.slice A0_0 l0_0.length c0_0], .agg #[.int .i64 t386, .int .i64 t387]] ?_; (with_reducible refine (impl_MapTab_put.calls _ _ l0_0 t386 t387 t393 t396 _ ?side1 ?side2 A5.out).mono ?_); (case side1 => exact Kd.C_below HR0_0.out (bl HB)); (case side2 => exact HC0_0.out); rintro e w34 ⟨v394, rfl, ho0, hb⟩; refine ⟨_, rfl, ?_⟩; have HO395 := Aside0.mk (Kd.R_lower (Kd.R_newB ho0 (g := gb389) (o := .cells #[.int .i64 t386, .int .i64 t387] 34 (0, 0)) (by (with_reducible repeat refine bu ?_); refine blk_put (cs := #[.int .i64 t386, .int .i64 0]) ?_ 1 _ rfl; (with_reducible repeat refine bu ?_); refine blk_put (cs := #[.int .i64 0, .int .i64 0]) ?_ 0 _ rfl; (with_reducible repeat refine bu ?_); exact BK389.out)) (below_size (bl HB))); replace BK384 := Aside0.mk (blk_below (g := gb384) (o := .cells #[.slice A0_0 l0_0.length c0_0] 25 (0, 0)) (by (with_reducible repeat refine bu ?_); refine blk_far ?_ NB384_389.out _; (with_reducible repeat refine bu ?_); refine blk_far ?_ NB384_389.out _; (with_reducible repeat refine bu ?_); exact BK384.out) hb); replace BK385 := Aside0.mk (blk_below (g := gb385) (o := .cells #[.slice none 0 0] 25 (0, 0)) (by (with_reducible repeat refine bu ?_); refine blk_far ?_ NB385_389.out _; (with_reducible repeat refine bu ?_); refine blk_far ?_ NB385_389.out _; (with_reducible repeat refine bu ?_); exact BK385.out) hb); replace BK389 := Aside0.mk (blk_below (g := gb389) (o := .cells #[.int .i64 t386, .int .i64 t387] 34 (0, 0)) (by (with_reducible repeat refine bu ?_); refine blk_put (cs := #[.int .i64 t386, .int .i64 0]) ?_ 1 _ rfl; (with_reducible repeat refine bu ?_); refine blk_put (cs := #[.int .i64 0, .int .i64 0]) ?_ 0 _ rfl; (with_reducible repeat refine bu ?_); exact BK389.out) hb); replace HB := hbS HB hb; (try clear hb); (try clear ho0)) | ((with_reducible refine gate_dst (N := 8) rfl ?_); refine box_event rfl (N := 8) rfl (cs := #[.slice none 0 0]) (t := 25) hr_ ?_; intro gb397 hg w35 hbox hb; replace HO395 := Aside0.mk (Kd.R_below (rs HO395) hb); have BK397 := Aside0.mk hbox; have GW397 := gwE HB hg; have GE397 := gwE HB hg; replace HB := hbS HB hb; have NB384_397 := neL BK384 hg; have NB397_384 := neG BK384 hg; replace BK384 := bkB BK384 hb; have NB385_397 := neL BK385 hg; have NB397_385 := neG BK385 hg; replace BK385 := bkB BK385 hb; have NB389_397 := neL BK389 hg; have NB397_389 := neG BK389 hg; replace BK389 := bkB BK389 hb; clear hb hbox hg; obtain ⟨Ao36, co36, eo36⟩ := Kd.R_slice HO395.out; subst eo36; have hnb37 := NB397_384.out; have hnc37 := NB384_397.out; have hnb38 := NB397_385.out; have hnc38 := NB385_397.out; have hnb39 := NB397_389.out; have hnc39 := NB389_397.out; have hcz40_0 := bcell BK397 0; have hfz40_0 := blk_frozen BK397.out 0))
   have n0_ : Aside0 (Kd.R k34 34 (w35.setCell ⟨gb397, 0, none⟩ (.slice Ao36 t393.length co36)) w.heap.size (fun k_ => k_ ≠ gb389) (.slice Ao36 t393.length co36) t393) := ⟨by (with_reducible repeat apply ru); exact Kd.R_mono (Kd.R_far (p := ⟨gb397, 0, none⟩) (Kd.R_types HO395.out BK397.out (by decide)) (fun _ hk => hk.2) (.slice Ao36 t393.length co36)) (fun _ hk => hk.1.2)⟩
   have n1_ : Aside0 ((w35.setCell ⟨gb397, 0, none⟩ (.slice Ao36 t393.length co36)).heap[gb384]? = some (.cells #[.slice A0_0 l0_0.length c0_0] 25 (0, 0))) := ⟨by (with_reducible repeat refine bu ?_); refine blk_far ?_ NB384_397.out _; (with_reducible repeat refine bu ?_); exact BK384.out⟩
   have n2_ : Aside0 ((w35.setCell ⟨gb397, 0, none⟩ (.slice Ao36 t393.length co36)).heap[gb385]? = some (.cells #[.slice none 0 0] 25 (0, 0))) := ⟨by (with_reducible repeat refine bu ?_); refine blk_far ?_ NB385_397.out _; (with_reducible repeat refine bu ?_); exact BK385.out⟩
   have n3_ : Aside0 ((w35.setCell ⟨gb397, 0, none⟩ (.slice Ao36 t393.length co36)).heap[gb389]? = some (.cells #[.int .i64 t386, .int .i64 t387] 34 (0, 0))) := ⟨by (with_reducible repeat refine bu ?_); refine blk_far ?_ NB389_397.out _; (with_reducible repeat refine bu ?_); exact BK389.out⟩
   have n4_ : Aside0 ((w35.setCell ⟨gb397, 0, none⟩ (.slice Ao36 t393.length co36)).heap[gb397]? = some (.cells #[.slice Ao36 t393.length co36] 25 (0, 0))) := ⟨by (with_reducible repeat refine bu ?_); refine blk_put (cs := #[.slice none 0 0]) ?_ 0 _ rfl; (with_reducible repeat refine bu ?_); exact BK397.out⟩
   have n5_ : Aside0 (Below w.heap.size w (w35.setCell ⟨gb397, 0, none⟩ (.slice Ao36 t393.length co36))) := ⟨m2_⟩
   (try clear HO395)
   (try clear BK384)
   (try clear BK385)
   (try clear BK389)
   (try clear BK397)
   (try clear HB)
   generalize (w35.setCell ⟨gb397, 0, none⟩ (.slice Ao36 t393.length co36)) = w41 at n0_ n1_ n2_ n3_ n4_ n5_ ⊢
   have HO395 := n0_
   have BK384 := n1_
   have BK385 := n2_
   have BK389 := n3_
   have BK397 := n4_
   have HB := n5_
   clear n0_ n1_ n2_ n3_ n4_ n5_
   replace HO395 := Aside0.mk (Kd.R_drew HO395.out)
   replace BK384 := Aside0.mk (blk_drew BK384.out)
   replace BK385 := Aside0.mk (blk_drew BK385.out)
   replace BK389 := Aside0.mk (blk_drew BK389.out)
   replace BK397 := Aside0.mk (blk_drew BK397.out)
   replace HB := Aside0.mk (below_drew1 HB.out)
   refine start_ (n := 6) (S := fun w' => w'.cell? ⟨gb397, 0, none⟩ = some (.slice Ao36 t393.length co36)) (ds := []) #[false, false, false, false, false, false] (by kernel_rfl) rfl rfl (bcell BK397 0) (fun hHeld => ?_)
   generalize w41.drew = w42 at HO395 BK384 BK385 BK389 BK397 HB hHeld ⊢
   refine pu_ 1 (some 30) #[false, true, false, false, false, false] ?_
   refine pu_ 2 (some 31) #[false, true, true, false, false, false] ?_
   refine take_ (i := 0) (N := some 29) (v := ?_) (a' := ?_) #[true, true, true, false, false, false] rfl rfl (by kernel_rfl) (fun _ _ _ h => h) (Or.inl ⟨by rfl, ?_⟩) hHeld ?_ ?_
   rotate_left
   ·intro w' s0
    go_simp
    with_reducible rfl
   rotate_left
   ·simp only [Act.put, List.setIfInBounds_toArray, List.set_cons_zero, List.set_cons_succ, i64_w, i32_w]
    rfl
   refine one_ (i := 3) (N := some 32) #[true, true, true, true, false, false] rfl rfl (by kernel_rfl) (by decide) (fun K hK => ?_)
   refine gR Tryz.func24 #[.agg #[.int .i64 50, .int .i64 t396]] ?_
   with_reducible refine (impl_LinPort.calls 50 t396 t398 _ A24.out (EnvT.below hE.e.t (bl HB))).mono ?_
   rintro e w43 ⟨rfl, hb⟩
   refine ⟨_, rfl, ?_⟩
   replace HO395 := Aside0.mk (Kd.R_below (rs HO395) hb)
   replace BK384 := bkB BK384 hb
   replace BK385 := bkB BK385 hb
   replace BK389 := bkB BK389 hb
   replace BK397 := bkB BK397 hb
   replace HB := hbS HB hb
   (try clear hb)
   (try clear hb2)
   (try clear hk)
   (try clear hi)
   refine hK.out _ _ (bcell BK397 0) (fun hHeld => ?_)
   clear hK K
   refine nm_ ?_
   refine one_ (i := 4) (N := none) #[true, true, true, true, true, false] rfl rfl (by kernel_rfl) (by decide) (fun K hK => ?_)
   have hs44 : w43.cell? ⟨gb385, 0, none⟩ = some (.slice none 0 0) := bcell BK385 0
   have hfs44 := blk_frozen BK385.out 0
   have hns44_0 := NB384_385.out
   have hns44_2 := NB389_385.out
   have hns44_3 := NB397_385.out
   have hms44_0 := NB385_384.out
   have hms44_2 := NB385_389.out
   have hms44_3 := NB385_397.out
   refine skip_ (w1 := ?_) (by rfl) rfl ?_ ?_
   rotate_left
   ·go_simp
    rfl
   refine hK.out _ _ (((cell_far (p := ⟨gb385, _, none⟩) NB397_385.out _).trans (hHeld))) (fun hHeld => ?_)
   clear hK K
   refine pu_ 5 (some 5) #[true, true, true, true, true, true] ?_
   refine done_ (by kernel_rfl) ?_
   try go_wp2
   refine bodyPost_ret (results_ct rfl _ _ gb385 25 #[.slice Ao36 t393.length co36] (0, 0) _ rfl (by (with_reducible repeat refine bu ?_); refine blk_put (cs := #[.slice none 0 0]) ?_ 0 _ rfl; (with_reducible repeat refine bu ?_); exact BK385.out) Tryz.underlying25 rfl (by kernel_rfl)) rfl ?_
   exact ⟨_, fi_, by (with_reducible repeat apply ru); exact Kd.R_mono (Kd.R_far (p := ⟨gb385, 0, none⟩) (Kd.R_types HO395.out BK385.out (by decide)) (fun _ hk => hk.2) (.slice Ao36 t393.length co36)) (fun _ hk => trivial), m2_⟩
 ·replace c4 := Bool.eq_false_iff.mpr c4
  subst c4
  have H1 : ((impl_MapTab_copied.f l0_0).bind fun t390 => (some (t390, a1))) = some (r1, r2) := by rw [if_neg (show ¬ (false = true) by decide)] at H; exact H
  clear H
  have H := H1
  clear H1
  replace H := Option.bind_eq_some_iff.mp H
  obtain ⟨t390, A450, H⟩ := H
  try dsimp only at H
  have A45 := Aside0.mk A450
  clear A450
  simp only [Option.some.injEq, Prod.mk.injEq] at H
  obtain ⟨rfl, rfl⟩ := H
  go_enter Tryz.func45, Tryz.ntmps45
  go_wp2_with (first | ((with_reducible refine gate_dst (N := 2) rfl ?_); refine box_event rfl (N := 2) rfl (cs := #[.slice A0_0 l0_0.length c0_0]) (t := 25) hr_ ?_; intro gb384 hg w46 hbox hb; have BK384 := Aside0.mk hbox; have GW384 := gwE HB hg; have GE384 := gwE HB hg; replace HB := hbS HB hb; clear hb hbox hg) | ((with_reducible refine gate_dst (N := 4) rfl ?_); refine box_event rfl (N := 4) rfl (cs := #[.slice none 0 0]) (t := 25) hr_ ?_; intro gb385 hg w47 hbox hb; have BK385 := Aside0.mk hbox; have GW385 := gwE HB hg; have GE385 := gwE HB hg; replace HB := hbS HB hb; have NB384_385 := neL BK384 hg; have NB385_384 := neG BK384 hg; replace BK384 := bkB BK384 hb; clear hb hbox hg) | ((with_reducible refine gate_callee (f := 19) rfl ?_); refine gL (some 12) Tryz.func19 #[.string a1] ?_; (with_reducible refine (impl_LinSays.calls a1 t386 t387 false _ A3.out (EnvE.below hE (bl HB))).mono ?_); rintro e w48 ⟨rfl, hb⟩; refine ⟨_, rfl, ?_⟩; replace BK384 := bkB BK384 hb; replace BK385 := bkB BK385 hb; replace HB := hbS HB hb; (try clear hb)) | ((with_reducible refine gate_dst (N := 6) rfl ?_); refine box_event rfl (N := 6) rfl (cs := #[.int .i64 0, .int .i64 0]) (t := 34) hr_ ?_; intro gb389 hg w49 hbox hb; have BK389 := Aside0.mk hbox; have GW389 := gwE HB hg; have GE389 := gwE HB hg; replace HB := hbS HB hb; have NB384_389 := neL BK384 hg; have NB389_384 := neG BK384 hg; replace BK384 := bkB BK384 hb; have NB385_389 := neL BK385 hg; have NB389_385 := neG BK385 hg; replace BK385 := bkB BK385 hb; clear hb hbox hg; have hnb50 := NB389_384.out; have hnc50 := NB384_389.out; have hnb51 := NB389_385.out; have hnc51 := NB385_389.out; have hcz52_0 := bcell BK389 0; have hcz52_1 := bcell BK389 1; have hfz52_0 := blk_frozen BK389.out 0; have hfz52_1 := blk_frozen BK389.out 1; have hnb53 := NB384_385.out; have hnc53 := NB385_384.out; have hcz54_0 := bcell BK384 0; have hfz54_0 := blk_frozen BK384.out 0) | ((with_reducible refine gate_callee (f := 77) rfl ?_); refine gL (some 18) Tryz.func77 #[.agg #[.slice A0_0 l0_0.length c0_0]] ?_; (with_reducible refine (impl_MapTab_copied.calls _ _ l0_0 t390 _ ?side1 ?side2 A45.out).mono ?_); (case side1 => exact Kd.C_below HR0_0.out (bl HB)); (case side2 => exact HC0_0.out); rintro e w55 ⟨v391, rfl, ho0, hb⟩; refine ⟨_, rfl, ?_⟩; have HO392 := Aside0.mk (Kd.R_lower (Kd.R_newB ho0 (g := gb389) (o := .cells #[.int .i64 t386, .int .i64 t387] 34 (0, 0)) (by (with_reducible repeat refine bu ?_); refine blk_put (cs := #[.int .i64 t386, .int .i64 0]) ?_ 1 _ rfl; (with_reducible repeat refine bu ?_); refine blk_put (cs := #[.int .i64 0, .int .i64 0]) ?_ 0 _ rfl; (with_reducible repeat refine bu ?_); exact BK389.out)) (below_size (bl HB))); replace BK384 := Aside0.mk (blk_below (g := gb384) (o := .cells #[.slice A0_0 l0_0.length c0_0] 25 (0, 0)) (by (with_reducible repeat refine bu ?_); refine blk_far ?_ NB384_389.out _; (with_reducible repeat refine bu ?_); refine blk_far ?_ NB384_389.out _; (with_reducible repeat refine bu ?_); exact BK384.out) hb); replace BK385 := Aside0.mk (blk_below (g := gb385) (o := .cells #[.slice none 0 0] 25 (0, 0)) (by (with_reducible repeat refine bu ?_); refine blk_far ?_ NB385_389.out _; (with_reducible repeat refine bu ?_); refine blk_far ?_ NB385_389.out _; (with_reducible repeat refine bu ?_); exact BK385.out) hb); replace BK389 := Aside0.mk (blk_below (g := gb389) (o := .cells #[.int .i64 t386, .int .i64 t387] 34 (0, 0)) (by (with_reducible repeat refine bu ?_); refine blk_put (cs := #[.int .i64 t386, .int .i64 0]) ?_ 1 _ rfl; (with_reducible repeat refine bu ?_); refine blk_put (cs := #[.int .i64 0, .int .i64 0]) ?_ 0 _ rfl; (with_reducible repeat refine bu ?_); exact BK389.out) hb); replace HB := hbS HB hb; (try clear hb); (try clear ho0); obtain ⟨Ao56, co56, eo56⟩ := Kd.R_slice HO392.out; subst eo56; have hcz57_0 := bcell BK385 0; have hfz57_0 := blk_frozen BK385.out 0))
  refine bodyPost_ret (results_ct rfl _ _ gb385 25 #[.slice Ao56 t390.length co56] (0, 0) _ rfl (by (with_reducible repeat refine bu ?_); refine blk_put (cs := #[.slice none 0 0]) ?_ 0 _ rfl; (with_reducible repeat refine bu ?_); exact BK385.out) Tryz.underlying25 rfl (by kernel_rfl)) rfl ?_
  exact ⟨_, fi_, by (with_reducible repeat apply ru); exact Kd.R_mono (Kd.R_far (p := ⟨gb385, 0, none⟩) (Kd.R_types HO392.out BK385.out (by decide)) (fun _ hk => hk.2) (.slice Ao56 t390.length co56)) (fun _ hk => trivial), m2_⟩
def impl_lineByte.f (a0 : Int) : Option (Bool) := if a0 ≥ 97 then (if a0 ≤ 122 then (some true) else (if a0 ≥ 48 then (if a0 ≤ 57 then (some true) else (some (a0 == 32))) else (some (a0 == 32)))) else (if a0 ≥ 48 then (if a0 ≤ 57 then (some true) else (some (a0 == 32))) else (some (a0 == 32)))
set_option maxHeartbeats 8000000 in
set_option maxRecDepth 100000 in
theorem impl_lineByte.calls (a0 : Int) (r : Bool) (w : World) (h : impl_lineByte.f a0 = some r) :
  Calls Tryz.prog 54 #[.int .u8 a0] w fun e w' => e = .returned (.bool r) ∧ Drawn0 w w' := by
 have H : (if a0 ≥ 97 then (if a0 ≤ 122 then (some true) else (if a0 ≥ 48 then (if a0 ≤ 57 then (some true) else (some (a0 == 32))) else (some (a0 == 32)))) else (if a0 ≥ 48 then (if a0 ≤ 57 then (some true) else (some (a0 == 32))) else (some (a0 == 32)))) = some r := h
 clear h
 by_cases c2 : a0 ≥ 97
 ·rw [if_pos c2] at H
  have c2b0 : decide (97 ≤ a0) = true := decide_eq_true c2
  clear c2
  by_cases c3 : a0 ≤ 122
  ·rw [if_pos c3] at H
   have c3b0 : decide (a0 ≤ 122) = true := decide_eq_true c3
   clear c3
   obtain rfl := Option.some.inj H
   go_enter Tryz.func54, Tryz.ntmps54
   go_wp2
   go_ret
   exact ⟨by first | rfl | (simp; done) | (simp [*]; done), by repeat (first | exact Drawn0.refl _ | apply Drawn0.step)⟩
  ·rw [if_neg c3] at H
   have c3b0 : decide (a0 ≤ 122) = false := decide_eq_false c3
   clear c3
   by_cases c4 : a0 ≥ 48
   ·rw [if_pos c4] at H
    have c4b0 : decide (48 ≤ a0) = true := decide_eq_true c4
    clear c4
    by_cases c5 : a0 ≤ 57
    ·rw [if_pos c5] at H
     have c5b0 : decide (a0 ≤ 57) = true := decide_eq_true c5
     clear c5
     obtain rfl := Option.some.inj H
     go_enter Tryz.func54, Tryz.ntmps54
     go_wp2
     go_ret
     exact ⟨by first | rfl | (simp; done) | (simp [*]; done), by repeat (first | exact Drawn0.refl _ | apply Drawn0.step)⟩
    ·rw [if_neg c5] at H
     have c5b0 : decide (a0 ≤ 57) = false := decide_eq_false c5
     clear c5
     obtain rfl := Option.some.inj H
     go_enter Tryz.func54, Tryz.ntmps54
     go_wp2
     go_ret
     exact ⟨by first | rfl | (simp; done) | (simp [*]; done), by repeat (first | exact Drawn0.refl _ | apply Drawn0.step)⟩
   ·rw [if_neg c4] at H
    have c4b0 : decide (48 ≤ a0) = false := decide_eq_false c4
    clear c4
    obtain rfl := Option.some.inj H
    go_enter Tryz.func54, Tryz.ntmps54
    go_wp2
    go_ret
    exact ⟨by first | rfl | (simp; done) | (simp [*]; done), by repeat (first | exact Drawn0.refl _ | apply Drawn0.step)⟩
 ·rw [if_neg c2] at H
  have c2b0 : decide (97 ≤ a0) = false := decide_eq_false c2
  clear c2
  by_cases c6 : a0 ≥ 48
  ·rw [if_pos c6] at H
   have c6b0 : decide (48 ≤ a0) = true := decide_eq_true c6
   clear c6
   by_cases c7 : a0 ≤ 57
   ·rw [if_pos c7] at H
    have c7b0 : decide (a0 ≤ 57) = true := decide_eq_true c7
    clear c7
    obtain rfl := Option.some.inj H
    go_enter Tryz.func54, Tryz.ntmps54
    go_wp2
    go_ret
    exact ⟨by first | rfl | (simp; done) | (simp [*]; done), by repeat (first | exact Drawn0.refl _ | apply Drawn0.step)⟩
   ·rw [if_neg c7] at H
    have c7b0 : decide (a0 ≤ 57) = false := decide_eq_false c7
    clear c7
    obtain rfl := Option.some.inj H
    go_enter Tryz.func54, Tryz.ntmps54
    go_wp2
    go_ret
    exact ⟨by first | rfl | (simp; done) | (simp [*]; done), by repeat (first | exact Drawn0.refl _ | apply Drawn0.step)⟩
  ·rw [if_neg c6] at H
   have c6b0 : decide (48 ≤ a0) = false := decide_eq_false c6
   clear c6
   obtain rfl := Option.some.inj H
   go_enter Tryz.func54, Tryz.ntmps54
   go_wp2
   go_ret
   exact ⟨by first | rfl | (simp; done) | (simp [*]; done), by repeat (first | exact Drawn0.refl _ | apply Drawn0.step)⟩
end Go.Proofs.YtffmbccgcaghjaaGreatDoor.P
namespace Go.Proofs.YtffmbccgcaghjaaGreatDoor.P
open Go.RowKit Go.Proofs.YtffmbccgcaghjaaGreatDoorUFnBakRwr.PrintWords Go.Proofs.YtffmbccgcaghjaaGreatDoorUFnBakRwr.PrintLast Go.Proofs.YtffmbccgcaghjaaGreatDoorUFnBakRwr.PrintMore
set_option linter.unusedVariables false
set_option linter.unusedSimpArgs false
def lb (b : Int) : Bool := (97 ≤ b && b ≤ 122) || ((48 ≤ b && b ≤ 57) || b == 32)
theorem lb_f (b : Int) : impl_lineByte.f b = some (lb b) := by
  unfold impl_lineByte.f lb
  by_cases h1 : 97 ≤ b <;> by_cases h2 : b ≤ 122 <;> by_cases h3 : 48 ≤ b <;> by_cases h4 : b ≤ 57 <;> simp [h1, h2, h3, h4]
def bys (s : ByteArray) : List Int := s.data.toList.map fun b => (b.toNat : Int)
def linOk (s : ByteArray) : Bool := (bys s).all lb && decide (s.size ≤ 16)
def impl_LinOk.f (s : ByteArray) : Option Bool := if s.size ≤ 140737488351232 then some (linOk s) else none
theorem bys_get (s : ByteArray) (k : Nat) (h : k < s.size) : ((s.data.toList.getD k 0).toNat : Int) = (bys s)[k]'(by simpa [bys] using h) := by
  have h' : k < s.data.toList.length := by simpa using h
  simp [bys, List.getD, List.getElem?_eq_getElem h']
theorem below_bytes (w : World) (e : TypeId) (s : ByteArray) : Below w.heap.size w (Lib.bytesWorld w e s) :=
  ⟨rfl, rfl, rfl, by rw [Lib.bytesWorld_size]; omega, fun i hi => Lib.bytesWorld_at_old w e s i hi⟩
set_option maxHeartbeats 1000000 in
set_option maxRecDepth 100000 in
theorem impl_LinOk.calls (a0 : ByteArray) (r : Bool) (w : World) (h : impl_LinOk.f a0 = some r) :
    Calls Tryz.prog 22 #[.string a0] w fun e w' => e = .returned (.bool r) ∧ Below w.heap.size w w' := by
  have hs : a0.size ≤ 140737488351232 := by
    unfold impl_LinOk.f at h
    split at h
    · assumption
    · cases h
  have hr : r = linOk a0 := by
    unfold impl_LinOk.f at h
    rw [if_pos hs] at h
    exact (Option.some.inj h).symm
  have HR := Lib.hid hr
  clear hr h
  have hcv := fun (w : World) => Lib.run_convert_string_bytes (P := Tryz.prog) w 9 22 5 a0 Tryz.underlying9 Tryz.underlying22 Tryz.underlying5
  go_enter Tryz.func22, Tryz.ntmps22
  go_wp2_with fail
  obtain ⟨W0, hW0⟩ : ∃ W0, Lib.bytesWorld w 5 a0 = W0 := ⟨_, rfl⟩
  have hbw : Below w.heap.size w W0 := by rw [← hW0]; exact below_bytes w 5 a0
  have hcW := Lib.hid (fun k (hk : k < a0.size) => (by rw [← hW0]; exact Lib.bytesWorld_cell w 5 a0 k hk : W0.cell? ⟨w.heap.size, k, none⟩ = some (.int .u8 (a0.data.toList.getD k 0).toNat)))
  have HBW := Lib.hid hbw
  rw [hW0]
  clear hW0 hcv hbw
  go_loopw [4, 8] (fun b i wr => ∃ k : Nat, k ≤ a0.size ∧ i = .int .i64 k ∧ Aside0 (((bys a0).take k).all lb = true) ∧ Aside0 (Drawn0 W0 wr)) (fun _ i _ => a0.size - (intOf i).toNat)
  case atStart => exact ⟨0, Nat.zero_le _, rfl, ⟨by simp⟩, ⟨Drawn0.refl _⟩⟩
  case round =>
    obtain ⟨k, hk, rfl, ha, hd⟩ := hrel
    by_cases hlt : k < a0.size
    · obtain ⟨nd, hnd⟩ := hd.out.out
      subst hnd
      have hg := bys_get a0 k hlt
      have hc0 := hcW.out k hlt
      obtain ⟨x, hx⟩ : ∃ x : Int, ((a0.data.toList.getD k 0).toNat : Int) = x := ⟨_, rfl⟩
      rw [hx] at hg hc0
      have hc : (W0.drewN nd).cell? ⟨w.heap.size, k, none⟩ = some (.int .u8 x) := hc0
      have hlen : (bys a0).length = a0.size := by simp [bys]
      have htk : (bys a0).take (k + 1) = (bys a0).take k ++ [x] := by
        rw [List.take_succ_eq_append_getElem (by omega), ← hg]
      have HT := Lib.hid htk
      have HL := Lib.hid hlen
      have HG := Lib.hid hg
      clear hx hg hc0 htk hlen
      cases hb : lb x with
      | true =>
        have HL' := Lib.hid hb
        have hfb : impl_lineByte.f x = some true := by rw [lb_f, hb]
        have HF := Lib.hid hfb
        clear hb hfb
        go_wp2_with (go_at_call 54; refine (impl_lineByte.calls _ true _ HF.out).mono ?_; rintro e wq ⟨rfl, ⟨nq, rfl⟩⟩)
        go_roundw
        case rel => exact ⟨k + 1, by omega, by go_num, ⟨by rw [HT.out, List.all_append, ha.out]; simp [HL'.out]⟩, ⟨⟨⟨_, rfl⟩⟩⟩⟩
        case measure => simp [intOf]; omega
      | false =>
        have HL' := Lib.hid hb
        have hfb : impl_lineByte.f x = some false := by rw [lb_f, hb]
        have HF := Lib.hid hfb
        clear hb hfb
        go_wp2_with (go_at_call 54; refine (impl_lineByte.calls _ false _ HF.out).mono ?_; rintro e wq ⟨rfl, ⟨nq, rfl⟩⟩)
        go_ret
        have hfl : linOk a0 = false := by
          unfold linOk
          have : (bys a0).all lb = false := by
            rw [List.all_eq_false]
            exact ⟨x, by rw [HG.out]; exact List.getElem_mem _, by simp [HL'.out]⟩
          simp [this]
        exact ⟨by rw [HR.out, hfl]; rfl, HBW.out.trans ((Drawn0.below ⟨⟨_, rfl⟩⟩).mono HBW.out.size)⟩
    · obtain ⟨nd, hnd⟩ := hd.out.out
      subst hnd
      have hk2 : k = a0.size := by omega
      subst hk2
      have hlen : (bys a0).length = a0.size := by simp [bys]
      have hall : (bys a0).all lb = true := by have := ha.out; rwa [List.take_of_length_le (by omega)] at this
      have HA := Lib.hid hall
      clear hall hlen
      have hfin : linOk a0 = decide ((a0.size : Int) ≤ 16) := by
        rw [linOk, HA.out, Bool.true_and]
        exact decide_eq_decide.mpr (by omega)
      have HFIN := Lib.hid hfin
      clear hfin
      by_cases h16 : (a0.size : Int) ≤ 16
      · go_wp2
        go_ret
        exact ⟨by rw [HR.out, HFIN.out, decide_eq_true h16]; rfl, HBW.out.trans ((Drawn0.below hd.out).mono HBW.out.size)⟩
      · go_wp2
        go_ret
        exact ⟨by rw [HR.out, HFIN.out, decide_eq_false (by omega)]; rfl, HBW.out.trans ((Drawn0.below hd.out).mono HBW.out.size)⟩
end Go.Proofs.YtffmbccgcaghjaaGreatDoor.P
namespace Go.Proofs.YtffmbccgcaghjaaGreatDoor.P
open Go.RowKit Go.Proofs.YtffmbccgcaghjaaGreatDoorUFnBakRwr.PrintWords Go.Proofs.YtffmbccgcaghjaaGreatDoorUFnBakRwr.PrintLast Go.Proofs.YtffmbccgcaghjaaGreatDoorUFnBakRwr.PrintMore
attribute [local go_sem] max2_int min2_int max_two min_two max_three min_three max_four min_four
set_option linter.unusedVariables false
set_option linter.unusedSimpArgs false
def impl_RwrLine.f (k : Nat) (l0_0 : List (S34)) (a1 : ByteArray) : Option ((List (S34)) × ByteArray) := (impl_MapOk.f k l0_0).bind fun t401 => (if t401 = true then ((impl_LinOk.f a1).bind fun t402 => (if t402 = true then ((impl_MapTab_goesOut.f l0_0 a1).bind fun bt403 => (some (bt403.1, bt403.2))) else (some (([] : List (S34)), (⟨#[]⟩ : ByteArray))))) else (some (([] : List (S34)), (⟨#[]⟩ : ByteArray))))
theorem impl_RwrLine.mono : ∀ a0 a1 k, LeO (impl_RwrLine.f k a0 a1) (impl_RwrLine.f (k + 1) a0 a1) := by
 intro a0 a1 k
 unfold impl_RwrLine.f
 repeat' first | (with_reducible first | exact impl_MapOk.mono _ _ | exact LeO.refl _ | exact LeO.none _ | refine LeO.ite ?_ ?_ | refine LeO.bind ?_ (fun _ => ?_)) | exact impl_MapOk.mono _ _ | exact LeO.none _ | refine LeO.ite ?_ ?_ | refine LeO.bind ?_ (fun _ => ?_)
set_option maxHeartbeats 8000000 in
set_option maxRecDepth 100000 in
theorem impl_RwrLine.calls (k : Nat) (A0_0 : Option Addr) (c0_0 : Nat) (l0_0 : List (S34)) (a1 : ByteArray) (r1 : List (S34)) (r2 : ByteArray) (w : World) (hr0_0 : Kd.C k34 w A0_0 l0_0.length l0_0) (hc0_0 : l0_0.length ≤ c0_0) (h : impl_RwrLine.f k l0_0 a1 = some (r1, r2)) (hE : EnvE w) :
  Calls Tryz.prog 13 #[.agg #[.slice A0_0 l0_0.length c0_0], .string a1] w fun e w' => ∃ v0_ : Value, e = .returned (.tuple #[.agg #[v0_], .string r2]) ∧ Kd.R k34 34 w' w.heap.size (fun _ => True) v0_ r1 ∧ Below w.heap.size w w' := by
 have hu25 := Tryz.underlying25
 have HR0_0 := Aside0.mk hr0_0
 have HC0_0 := Aside0.mk hc0_0
 clear hr0_0 hc0_0
 have HB := Aside0.mk (Below.refl w.heap.size w)
 have H : ((impl_MapOk.f k l0_0).bind fun t401 => (if t401 = true then ((impl_LinOk.f a1).bind fun t402 => (if t402 = true then ((impl_MapTab_goesOut.f l0_0 a1).bind fun bt403 => (some (bt403.1, bt403.2))) else (some (([] : List (S34)), (⟨#[]⟩ : ByteArray))))) else (some (([] : List (S34)), (⟨#[]⟩ : ByteArray))))) = some (r1, r2) := h
 clear h
 replace H := Option.bind_eq_some_iff.mp H
 obtain ⟨t401, A30, H⟩ := H
 try dsimp only at H
 have A3 := Aside0.mk A30
 clear A30
 by_cases c4 : t401 = true
 ·subst c4
  have H1 : ((impl_LinOk.f a1).bind fun t402 => (if t402 = true then ((impl_MapTab_goesOut.f l0_0 a1).bind fun bt403 => (some (bt403.1, bt403.2))) else (some (([] : List (S34)), (⟨#[]⟩ : ByteArray))))) = some (r1, r2) := by rw [if_pos rfl] at H; exact H
  clear H
  have H := H1
  clear H1
  replace H := Option.bind_eq_some_iff.mp H
  obtain ⟨t402, A50, H⟩ := H
  try dsimp only at H
  have A5 := Aside0.mk A50
  clear A50
  by_cases c6 : t402 = true
  ·subst c6
   have H1 : ((impl_MapTab_goesOut.f l0_0 a1).bind fun bt403 => (some (bt403.1, bt403.2))) = some (r1, r2) := by rw [if_pos rfl] at H; exact H
   clear H
   have H := H1
   clear H1
   replace H := Option.bind_eq_some_iff.mp H
   obtain ⟨⟨t403, t406⟩, A70, H⟩ := H
   try dsimp only at H
   have A7 := Aside0.mk A70
   clear A70
   simp only [Option.some.injEq, Prod.mk.injEq] at H
   obtain ⟨rfl, rfl⟩ := H
   go_enter Tryz.func13, Tryz.ntmps13
   go_wp2_with (first | ((with_reducible refine gate_dst (N := 2) rfl ?_); refine box_event rfl (N := 2) rfl (cs := #[.slice A0_0 l0_0.length c0_0]) (t := 25) hr_ ?_; intro gb399 hg w8 hbox hb; have BK399 := Aside0.mk hbox; have GW399 := gwE HB hg; have GE399 := gwE HB hg; replace HB := hbS HB hb; clear hb hbox hg) | ((with_reducible refine gate_dst (N := 4) rfl ?_); refine box_event rfl (N := 4) rfl (cs := #[.slice none 0 0]) (t := 25) hr_ ?_; intro gb400 hg w9 hbox hb; have BK400 := Aside0.mk hbox; have GW400 := gwE HB hg; have GE400 := gwE HB hg; replace HB := hbS HB hb; have NB399_400 := neL BK399 hg; have NB400_399 := neG BK399 hg; replace BK399 := bkB BK399 hb; clear hb hbox hg; have hnb10 := NB399_400.out; have hnc10 := NB400_399.out; have hcz11_0 := bcell BK399 0; have hfz11_0 := blk_frozen BK399.out 0) | ((with_reducible refine gate_callee (f := 20) rfl ?_); refine gL (some 7) Tryz.func20 #[.agg #[.slice A0_0 l0_0.length c0_0]] ?_; (with_reducible refine (impl_MapOk.calls k _ _ l0_0 true _ ?side1 ?side2 A3.out).mono ?_); (case side1 => exact m4_); (case side2 => exact HC0_0.out); rintro e w12 ⟨rfl, hb⟩; refine ⟨_, rfl, ?_⟩; replace BK399 := bkB BK399 hb; replace BK400 := bkB BK400 hb; replace HB := hbS HB hb; (try clear hb)) | (go_at_call 22; (with_reducible refine (impl_LinOk.calls a1 true _ A5.out).mono ?_); rintro e w13 ⟨rfl, hb⟩; replace BK399 := bkB BK399 hb; replace BK400 := bkB BK400 hb; replace HB := hbS HB hb; (try clear hb); have hcz14_0 := bcell BK399 0; have hfz14_0 := blk_frozen BK399.out 0) | ((with_reducible refine gate_callee (f := 45) rfl ?_); refine gL (some 17) Tryz.func45 #[.agg #[.slice A0_0 l0_0.length c0_0], .string a1] ?_; (with_reducible refine (impl_MapTab_goesOut.calls _ _ l0_0 a1 t403 t406 _ ?side1 ?side2 A7.out (EnvE.below hE (bl HB))).mono ?_); (case side1 => exact m4_); (case side2 => exact HC0_0.out); rintro e w15 ⟨v404, rfl, ho0, hb⟩; refine ⟨_, rfl, ?_⟩; have HO405 := Aside0.mk (Kd.R_lower ho0 (below_size (bl HB))); replace BK399 := bkB BK399 hb; replace BK400 := bkB BK400 hb; replace HB := hbS HB hb; (try clear hb); (try clear ho0); obtain ⟨Ao16, co16, eo16⟩ := Kd.R_slice HO405.out; subst eo16; have hcz17_0 := bcell BK400 0; have hfz17_0 := blk_frozen BK400.out 0))
   refine bodyPost_ret (results_ct rfl _ _ gb400 25 #[.slice Ao16 t403.length co16] (0, 0) _ rfl (by (with_reducible repeat refine bu ?_); refine blk_put (cs := #[.slice none 0 0]) ?_ 0 _ rfl; (with_reducible repeat refine bu ?_); exact BK400.out) Tryz.underlying25 rfl (by kernel_rfl)) rfl ?_
   exact ⟨_, fi_, by (with_reducible repeat apply ru); exact Kd.R_mono (Kd.R_far (p := ⟨gb400, 0, none⟩) (Kd.R_types HO405.out BK400.out (by decide)) (fun _ hk => hk.2) (.slice Ao16 t403.length co16)) (fun _ hk => trivial), m2_⟩
  ·replace c6 := Bool.eq_false_iff.mpr c6
   subst c6
   have H1 : (some (([] : List (S34)), (⟨#[]⟩ : ByteArray))) = some (r1, r2) := by rw [if_neg (show ¬ (false = true) by decide)] at H; exact H
   clear H
   have H := H1
   clear H1
   simp only [Option.some.injEq, Prod.mk.injEq] at H
   obtain ⟨rfl, rfl⟩ := H
   go_enter Tryz.func13, Tryz.ntmps13
   go_wp2_with (first | ((with_reducible refine gate_dst (N := 2) rfl ?_); refine box_event rfl (N := 2) rfl (cs := #[.slice A0_0 l0_0.length c0_0]) (t := 25) hr_ ?_; intro gb399 hg w18 hbox hb; have BK399 := Aside0.mk hbox; have GW399 := gwE HB hg; have GE399 := gwE HB hg; replace HB := hbS HB hb; clear hb hbox hg) | ((with_reducible refine gate_dst (N := 4) rfl ?_); refine box_event rfl (N := 4) rfl (cs := #[.slice none 0 0]) (t := 25) hr_ ?_; intro gb400 hg w19 hbox hb; have BK400 := Aside0.mk hbox; have GW400 := gwE HB hg; have GE400 := gwE HB hg; replace HB := hbS HB hb; have NB399_400 := neL BK399 hg; have NB400_399 := neG BK399 hg; replace BK399 := bkB BK399 hb; clear hb hbox hg; have hnb20 := NB399_400.out; have hnc20 := NB400_399.out; have hcz21_0 := bcell BK399 0; have hfz21_0 := blk_frozen BK399.out 0) | ((with_reducible refine gate_callee (f := 20) rfl ?_); refine gL (some 7) Tryz.func20 #[.agg #[.slice A0_0 l0_0.length c0_0]] ?_; (with_reducible refine (impl_MapOk.calls k _ _ l0_0 true _ ?side1 ?side2 A3.out).mono ?_); (case side1 => exact m4_); (case side2 => exact HC0_0.out); rintro e w22 ⟨rfl, hb⟩; refine ⟨_, rfl, ?_⟩; replace BK399 := bkB BK399 hb; replace BK400 := bkB BK400 hb; replace HB := hbS HB hb; (try clear hb)) | (go_at_call 22; (with_reducible refine (impl_LinOk.calls a1 false _ A5.out).mono ?_); rintro e w23 ⟨rfl, hb⟩; replace BK399 := bkB BK399 hb; replace BK400 := bkB BK400 hb; replace HB := hbS HB hb; (try clear hb); have hcz24_0 := bcell BK400 0; have hfz24_0 := blk_frozen BK400.out 0))
   refine bodyPost_ret (results_ct rfl _ _ gb400 25 #[.slice none 0 0] (0, 0) _ rfl (by (with_reducible repeat refine bu ?_); refine blk_put (cs := #[.slice none 0 0]) ?_ 0 _ rfl; (with_reducible repeat refine bu ?_); exact BK400.out) Tryz.underlying25 rfl (by kernel_rfl)) rfl ?_
   exact ⟨_, fi_, by first | exact Kd.R_nil _ _ _ _ _ | exact Kd.N_nil _ _ _ _ _ | exact Kd.V_nil _ _ _ _ _ | exact Kd.Q_nil _ _ _ _ _ | exact Kd.S_nil _ _ _ _ _, m2_⟩
 ·replace c4 := Bool.eq_false_iff.mpr c4
  subst c4
  have H1 : (some (([] : List (S34)), (⟨#[]⟩ : ByteArray))) = some (r1, r2) := by rw [if_neg (show ¬ (false = true) by decide)] at H; exact H
  clear H
  have H := H1
  clear H1
  simp only [Option.some.injEq, Prod.mk.injEq] at H
  obtain ⟨rfl, rfl⟩ := H
  go_enter Tryz.func13, Tryz.ntmps13
  go_wp2_with (first | ((with_reducible refine gate_dst (N := 2) rfl ?_); refine box_event rfl (N := 2) rfl (cs := #[.slice A0_0 l0_0.length c0_0]) (t := 25) hr_ ?_; intro gb399 hg w25 hbox hb; have BK399 := Aside0.mk hbox; have GW399 := gwE HB hg; have GE399 := gwE HB hg; replace HB := hbS HB hb; clear hb hbox hg) | ((with_reducible refine gate_dst (N := 4) rfl ?_); refine box_event rfl (N := 4) rfl (cs := #[.slice none 0 0]) (t := 25) hr_ ?_; intro gb400 hg w26 hbox hb; have BK400 := Aside0.mk hbox; have GW400 := gwE HB hg; have GE400 := gwE HB hg; replace HB := hbS HB hb; have NB399_400 := neL BK399 hg; have NB400_399 := neG BK399 hg; replace BK399 := bkB BK399 hb; clear hb hbox hg; have hnb27 := NB399_400.out; have hnc27 := NB400_399.out; have hcz28_0 := bcell BK399 0; have hfz28_0 := blk_frozen BK399.out 0) | ((with_reducible refine gate_callee (f := 20) rfl ?_); refine gL (some 7) Tryz.func20 #[.agg #[.slice A0_0 l0_0.length c0_0]] ?_; (with_reducible refine (impl_MapOk.calls k _ _ l0_0 false _ ?side1 ?side2 A3.out).mono ?_); (case side1 => exact m4_); (case side2 => exact HC0_0.out); rintro e w29 ⟨rfl, hb⟩; refine ⟨_, rfl, ?_⟩; replace BK399 := bkB BK399 hb; replace BK400 := bkB BK400 hb; replace HB := hbS HB hb; (try clear hb); have hcz30_0 := bcell BK400 0; have hfz30_0 := blk_frozen BK400.out 0))
  refine bodyPost_ret (results_ct rfl _ _ gb400 25 #[.slice none 0 0] (0, 0) _ rfl (by (with_reducible repeat refine bu ?_); refine blk_put (cs := #[.slice none 0 0]) ?_ 0 _ rfl; (with_reducible repeat refine bu ?_); exact BK400.out) Tryz.underlying25 rfl (by kernel_rfl)) rfl ?_
  exact ⟨_, fi_, by first | exact Kd.R_nil _ _ _ _ _ | exact Kd.N_nil _ _ _ _ _ | exact Kd.V_nil _ _ _ _ _ | exact Kd.Q_nil _ _ _ _ _ | exact Kd.S_nil _ _ _ _ _, m2_⟩
def spec_l2Byte.f (a0 : Int) : Option (Bool) := if a0 ≥ 97 then (if a0 ≤ 122 then (some true) else (if a0 ≥ 48 then (if a0 ≤ 57 then (some true) else (some (a0 == 32))) else (some (a0 == 32)))) else (if a0 ≥ 48 then (if a0 ≤ 57 then (some true) else (some (a0 == 32))) else (some (a0 == 32)))
set_option maxHeartbeats 8000000 in
set_option maxRecDepth 100000 in
theorem spec_l2Byte.calls (a0 : Int) (r : Bool) (w : World) (h : spec_l2Byte.f a0 = some r) :
  Calls Tryz.prog 50 #[.int .u8 a0] w fun e w' => e = .returned (.bool r) ∧ Drawn0 w w' := by
 have H : (if a0 ≥ 97 then (if a0 ≤ 122 then (some true) else (if a0 ≥ 48 then (if a0 ≤ 57 then (some true) else (some (a0 == 32))) else (some (a0 == 32)))) else (if a0 ≥ 48 then (if a0 ≤ 57 then (some true) else (some (a0 == 32))) else (some (a0 == 32)))) = some r := h
 clear h
 by_cases c2 : a0 ≥ 97
 ·rw [if_pos c2] at H
  have c2b0 : decide (97 ≤ a0) = true := decide_eq_true c2
  clear c2
  by_cases c3 : a0 ≤ 122
  ·rw [if_pos c3] at H
   have c3b0 : decide (a0 ≤ 122) = true := decide_eq_true c3
   clear c3
   obtain rfl := Option.some.inj H
   go_enter Tryz.func50, Tryz.ntmps50
   go_wp2
   go_ret
   exact ⟨by first | rfl | (simp; done) | (simp [*]; done), by repeat (first | exact Drawn0.refl _ | apply Drawn0.step)⟩
  ·rw [if_neg c3] at H
   have c3b0 : decide (a0 ≤ 122) = false := decide_eq_false c3
   clear c3
   by_cases c4 : a0 ≥ 48
   ·rw [if_pos c4] at H
    have c4b0 : decide (48 ≤ a0) = true := decide_eq_true c4
    clear c4
    by_cases c5 : a0 ≤ 57
    ·rw [if_pos c5] at H
     have c5b0 : decide (a0 ≤ 57) = true := decide_eq_true c5
     clear c5
     obtain rfl := Option.some.inj H
     go_enter Tryz.func50, Tryz.ntmps50
     go_wp2
     go_ret
     exact ⟨by first | rfl | (simp; done) | (simp [*]; done), by repeat (first | exact Drawn0.refl _ | apply Drawn0.step)⟩
    ·rw [if_neg c5] at H
     have c5b0 : decide (a0 ≤ 57) = false := decide_eq_false c5
     clear c5
     obtain rfl := Option.some.inj H
     go_enter Tryz.func50, Tryz.ntmps50
     go_wp2
     go_ret
     exact ⟨by first | rfl | (simp; done) | (simp [*]; done), by repeat (first | exact Drawn0.refl _ | apply Drawn0.step)⟩
   ·rw [if_neg c4] at H
    have c4b0 : decide (48 ≤ a0) = false := decide_eq_false c4
    clear c4
    obtain rfl := Option.some.inj H
    go_enter Tryz.func50, Tryz.ntmps50
    go_wp2
    go_ret
    exact ⟨by first | rfl | (simp; done) | (simp [*]; done), by repeat (first | exact Drawn0.refl _ | apply Drawn0.step)⟩
 ·rw [if_neg c2] at H
  have c2b0 : decide (97 ≤ a0) = false := decide_eq_false c2
  clear c2
  by_cases c6 : a0 ≥ 48
  ·rw [if_pos c6] at H
   have c6b0 : decide (48 ≤ a0) = true := decide_eq_true c6
   clear c6
   by_cases c7 : a0 ≤ 57
   ·rw [if_pos c7] at H
    have c7b0 : decide (a0 ≤ 57) = true := decide_eq_true c7
    clear c7
    obtain rfl := Option.some.inj H
    go_enter Tryz.func50, Tryz.ntmps50
    go_wp2
    go_ret
    exact ⟨by first | rfl | (simp; done) | (simp [*]; done), by repeat (first | exact Drawn0.refl _ | apply Drawn0.step)⟩
   ·rw [if_neg c7] at H
    have c7b0 : decide (a0 ≤ 57) = false := decide_eq_false c7
    clear c7
    obtain rfl := Option.some.inj H
    go_enter Tryz.func50, Tryz.ntmps50
    go_wp2
    go_ret
    exact ⟨by first | rfl | (simp; done) | (simp [*]; done), by repeat (first | exact Drawn0.refl _ | apply Drawn0.step)⟩
  ·rw [if_neg c6] at H
   have c6b0 : decide (48 ≤ a0) = false := decide_eq_false c6
   clear c6
   obtain rfl := Option.some.inj H
   go_enter Tryz.func50, Tryz.ntmps50
   go_wp2
   go_ret
   exact ⟨by first | rfl | (simp; done) | (simp [*]; done), by repeat (first | exact Drawn0.refl _ | apply Drawn0.step)⟩
def spec_LinOk.l0 : Nat → ByteArray → Int → Option (Bool)
 | 0, _, _ => none
 | k + 1, x0, x3 => if x3 < (x0.size : Int) then (if 0 ≤ x3 then ((spec_l2Byte.f (bt x0 x3)).bind fun t407 => (if t407 = true then (spec_LinOk.l0 k x0 (wrap64 (x3 + 1))) else (some false))) else (none)) else (some true)
def spec_LinOk.f (k : Nat) (a0 : ByteArray) : Option (Bool) := if (a0.size : Int) > 16 then (some false) else (spec_LinOk.l0 k a0 0)
theorem spec_LinOk.mono_l : ∀ k, (∀ y0 y1, LeO (spec_LinOk.l0 k y0 y1) (spec_LinOk.l0 (k + 1) y0 y1))
 | 0 => fun _ _ r h => by simp [spec_LinOk.l0] at h
 | k + 1 => by
  have ih0 := spec_LinOk.mono_l k
  ·intro y0 y1
   unfold spec_LinOk.l0
   repeat' first | (with_reducible first | exact ih0 _ _ | exact LeO.refl _ | exact LeO.none _ | refine LeO.ite ?_ ?_ | refine LeO.bind ?_ (fun _ => ?_)) | exact ih0 _ _ | exact LeO.none _ | refine LeO.ite ?_ ?_ | refine LeO.bind ?_ (fun _ => ?_)
theorem spec_LinOk.mono : ∀ a0 k, LeO (spec_LinOk.f k a0) (spec_LinOk.f (k + 1) a0) := by
 intro a0 k
 have ih0 := spec_LinOk.mono_l k
 unfold spec_LinOk.f
 repeat' first | (with_reducible first | exact ih0 _ _ | exact LeO.refl _ | exact LeO.none _ | refine LeO.ite ?_ ?_ | refine LeO.bind ?_ (fun _ => ?_)) | exact ih0 _ _ | exact LeO.none _ | refine LeO.ite ?_ ?_ | refine LeO.bind ?_ (fun _ => ?_)
set_option maxHeartbeats 8000000 in
set_option maxRecDepth 100000 in
theorem spec_LinOk.calls (k : Nat) (a0 : ByteArray) (r : Bool) (w : World) (h : spec_LinOk.f k a0 = some r) :
  Calls Tryz.prog 17 #[.string a0] w fun e w' => e = .returned (.bool r) ∧ Drawn0 w w' := by
 have H : (if (a0.size : Int) > 16 then (some false) else (spec_LinOk.l0 k a0 0)) = some r := h
 clear h
 by_cases c2 : (a0.size : Int) > 16
 ·rw [if_pos c2] at H
  have c2b0 : decide (16 < (a0.size : Int)) = true := decide_eq_true c2
  have c2b1 : decide (16 < a0.size) = true := decide_eq_true (by omega)
  clear c2
  obtain rfl := Option.some.inj H
  go_enter Tryz.func17, Tryz.ntmps17
  go_wp2
  go_ret
  exact ⟨by first | rfl | (simp; done) | (simp [*]; done), by repeat (first | exact Drawn0.refl _ | apply Drawn0.step)⟩
 ·rw [if_neg c2] at H
  have c2b0 : decide (16 < (a0.size : Int)) = false := decide_eq_false c2
  have c2b1 : decide (16 < a0.size) = false := decide_eq_false (by omega)
  clear c2
  have H' := Aside0.mk H
  clear H
  go_enter Tryz.func17, Tryz.ntmps17
  go_wp2
  go_loopg [3] k (fun kq v3 w' => ∃ (x3_1 : Int), v3 = .int .i64 x3_1 ∧ Aside0 (spec_LinOk.l0 kq a0 x3_1 = some r) ∧ Aside0 (kq ≤ k) ∧ Drawn0 w w')
  case atStart => exact ⟨(0), rs_, H', ⟨Nat.le_refl _⟩, by repeat (first | exact Drawn0.refl _ | apply Drawn0.step)⟩
  case round =>
   clear H'
   try clear c1
   try clear c2
   try clear c2b0
   try clear c2b1
   try clear p2
   obtain ⟨x3_1, rfl, HA, HK1, ⟨m1, rfl⟩⟩ := hrel
   cases gk with
   | zero => exact absurd HA.out (by simp [spec_LinOk.l0])
   | succ k1 =>
    have H := HA.out
    clear HA
    simp only [spec_LinOk.l0] at H
    by_cases c3 : x3_1 < (a0.size : Int)
    ·rw [if_pos c3] at H
     have c3b0 : decide (x3_1 < (a0.size : Int)) = true := decide_eq_true c3
     clear c3
     by_cases c4 : 0 ≤ x3_1
     ·rw [if_pos c4] at H
      have c4b0 : decide (0 ≤ x3_1) = true := decide_eq_true c4
      clear c4
      replace H := Option.bind_eq_some_iff.mp H
      obtain ⟨t407, A60, H⟩ := H
      try dsimp only at H
      have A6 := Aside0.mk A60
      clear A60
      by_cases c7 : t407 = true
      ·subst c7
       have H1 : (spec_LinOk.l0 k1 a0 (wrap64 (x3_1 + 1))) = some r := by rw [if_pos rfl] at H; exact H
       clear H
       have H := H1
       clear H1
       have H' := Aside0.mk H
       clear H
       have p5 : 0 ≤ (x3_1 : Int) := of_decide_eq_true da_
       have q5 : x3_1 < (a0.size : Int) := of_decide_eq_true da_
       have hx5 := bt_at a0 x3_1
       replace p5 := eq_true p5
       replace q5 := eq_true q5
       go_wp2_with (first | ((with_reducible refine gate_callee (f := 50) rfl ?_); refine gL (some 16) Tryz.func50 #[.int .u8 (bt a0 x3_1)] ?_; (with_reducible refine (spec_l2Byte.calls (bt a0 x3_1) true _ A6.out).mono ?_); rintro e w' ⟨rfl, ⟨nd, rfl⟩⟩; refine ⟨_, rfl, ?_⟩))
       go_roundg k1
       case measure => have := HK1.out; omega
       case rel => exact ⟨(wrap64 (x3_1 + 1)), rs_, H', ⟨by have := HK1.out; omega⟩, by repeat (first | exact Drawn0.refl _ | apply Drawn0.step)⟩
      ·replace c7 := Bool.eq_false_iff.mpr c7
       subst c7
       have H1 : (some false) = some r := by rw [if_neg (show ¬ (false = true) by decide)] at H; exact H
       clear H
       have H := H1
       clear H1
       obtain rfl := Option.some.inj H
       have p5 : 0 ≤ (x3_1 : Int) := of_decide_eq_true da_
       have q5 : x3_1 < (a0.size : Int) := of_decide_eq_true da_
       have hx5 := bt_at a0 x3_1
       replace p5 := eq_true p5
       replace q5 := eq_true q5
       go_wp2_with (first | ((with_reducible refine gate_callee (f := 50) rfl ?_); refine gL (some 16) Tryz.func50 #[.int .u8 (bt a0 x3_1)] ?_; (with_reducible refine (spec_l2Byte.calls (bt a0 x3_1) false _ A6.out).mono ?_); rintro e w' ⟨rfl, ⟨nd, rfl⟩⟩; refine ⟨_, rfl, ?_⟩))
       go_ret
       exact ⟨by first | rfl | (simp; done) | (simp [*]; done), by repeat (first | exact Drawn0.refl _ | apply Drawn0.step)⟩
     ·rw [if_neg c4] at H
      exact absurd H (by simp)
    ·rw [if_neg c3] at H
     have c3b0 : decide (x3_1 < (a0.size : Int)) = false := decide_eq_false c3
     clear c3
     obtain rfl := Option.some.inj H
     go_wp2
     go_ret
     exact ⟨by first | rfl | (simp; done) | (simp [*]; done), by repeat (first | exact Drawn0.refl _ | apply Drawn0.step)⟩
def spec_l1Words.l0 : Nat → ByteArray → List ByteArray → ByteArray → Int → Option (List ByteArray)
 | 0, _, _, _, _ => none
 | k + 1, x0, x3, x4, x5 => if x5 < (x0.size : Int) then (if 0 ≤ x5 then (if (bt x0 x5) = 32 then (if x3.length < 8796093022208 then (spec_l1Words.l0 k x0 (x3 ++ [x4]) (⟨#[]⟩ : ByteArray) (wrap64 (x5 + 1))) else (none)) else (if x5 ≤ (wrap64 (x5 + 1)) then (if (wrap64 (x5 + 1)) ≤ (x0.size : Int) then (if x4.size + (x0.extract (x5 : Int).toNat ((wrap64 (x5 + 1)) : Int).toNat).size ≤ 9223372036854775807 then (spec_l1Words.l0 k x0 x3 (x4 ++ (x0.extract (x5 : Int).toNat ((wrap64 (x5 + 1)) : Int).toNat)) (wrap64 (x5 + 1))) else (none)) else (none)) else (none))) else (none)) else (if x3.length < 8796093022208 then (some (x3 ++ [x4])) else (none))
def spec_l1Words.f (k : Nat) (a0 : ByteArray) : Option (List ByteArray) := spec_l1Words.l0 k a0 (([] : List ByteArray)) (⟨#[]⟩ : ByteArray) 0
theorem spec_l1Words.mono_l : ∀ k, (∀ y0 y1 y2 y3, LeO (spec_l1Words.l0 k y0 y1 y2 y3) (spec_l1Words.l0 (k + 1) y0 y1 y2 y3))
 | 0 => fun _ _ _ _ r h => by simp [spec_l1Words.l0] at h
 | k + 1 => by
  have ih0 := spec_l1Words.mono_l k
  ·intro y0 y1 y2 y3
   unfold spec_l1Words.l0
   repeat' first | (with_reducible first | exact ih0 _ _ _ _ | exact LeO.refl _ | exact LeO.none _ | refine LeO.ite ?_ ?_ | refine LeO.bind ?_ (fun _ => ?_)) | exact ih0 _ _ _ _ | exact LeO.none _ | refine LeO.ite ?_ ?_ | refine LeO.bind ?_ (fun _ => ?_)
theorem spec_l1Words.mono : ∀ a0 k, LeO (spec_l1Words.f k a0) (spec_l1Words.f (k + 1) a0) := by
 intro a0 k
 have ih0 := spec_l1Words.mono_l k
 unfold spec_l1Words.f
 repeat' first | (with_reducible first | exact ih0 _ _ _ _ | exact LeO.refl _ | exact LeO.none _ | refine LeO.ite ?_ ?_ | refine LeO.bind ?_ (fun _ => ?_)) | exact ih0 _ _ _ _ | exact LeO.none _ | refine LeO.ite ?_ ?_ | refine LeO.bind ?_ (fun _ => ?_)
set_option maxHeartbeats 8000000 in
set_option maxRecDepth 100000 in
theorem spec_l1Words.calls (k : Nat) (a0 : ByteArray) (r : List ByteArray) (w : World) (h : spec_l1Words.f k a0 = some r) :
  Calls Tryz.prog 119 #[.string a0] w fun e w' => ∃ v0_ : Value, e = .returned (v0_) ∧ Kd.R Kd.string 9 w' w.heap.size (fun _ => True) v0_ r ∧ Below w.heap.size w w' := by
 have HB := Aside0.mk (Below.refl w.heap.size w)
 have H : (spec_l1Words.l0 k a0 (([] : List ByteArray)) (⟨#[]⟩ : ByteArray) 0) = some r := h
 clear h
 obtain ⟨y408, hy408⟩ : ∃ y_ : List ByteArray, y_ = (([] : List ByteArray)) := ⟨_, rfl⟩
 replace H : (spec_l1Words.l0 k a0 y408 (⟨#[]⟩ : ByteArray) 0) = some r := by first | (rw [hy408]; with_reducible exact H) | (have H2_ := (Option.bind_some _ _).symm.trans H; rw [hy408]; with_reducible exact H2_) | (have H2_ := (Option.bind_some _ _).symm.trans H; with_reducible exact H2_) | with_reducible exact H | (rw [hy408]; exact H) | exact H
 have Ny408 := Aside0.mk hy408
 clear hy408
 have H' := Aside0.mk H
 clear H
 go_enter Tryz.func119, Tryz.ntmps119
 go_wp2_with (first | ((with_reducible refine gate_dst (N := 6) rfl ?_); refine Kd.R_lit Kd.string _ 9 rfl (N := 6) rfl (xs := ([] : List ByteArray)) (inner := []) (ok := fun _ => True) (okp := fun _ => True) hr_ ?hp (fun _ hk => hk) trivial (Below.refl _ _) (Nat.le_refl _) (by simp) ?_; (case hp => exact (Reps.none _ _)); intro v409 w2 ho3 hb hg_ hnew_; clear hg_ hnew_; (first | rw [← Ny408.out] at ho3 | (simp only [Int.reduceToNat] at ho3; rw [← Ny408.out] at ho3)); have HO410 := Aside0.mk (Kd.R_lower ho3 (below_size (bl HB))); replace HB := hbS HB hb; clear hb ho3))
 go_loopg [3, 4, 5] k (fun kq v3 v4 v5 w' => ∃ (x3_1 : List ByteArray) (x4_1 : ByteArray) (x5_1 : Int), v4 = .string x4_1 ∧ v5 = .int .i64 x5_1 ∧ Aside0 (spec_l1Words.l0 kq a0 x3_1 x4_1 x5_1 = some r) ∧ Aside0 (kq ≤ k) ∧ Aside0 (Kd.R Kd.string 9 w' w.heap.size (fun _ => True) v3 x3_1) ∧ Aside0 (Below w.heap.size w w'))
 case atStart => exact ⟨(y408), ((⟨#[]⟩ : ByteArray)), (0), rs_, rs_, H', ⟨Nat.le_refl _⟩, ⟨by (with_reducible repeat apply ru); exact HO410.out⟩, ⟨m0_⟩⟩
 case round =>
  clear H'
  try clear c1
  try clear p2
  obtain ⟨x3_1, x4_1, x5_1, rfl, rfl, HA, HK1, HO_3, HB⟩ := hrel
  cases gk with
  | zero => exact absurd HA.out (by simp [spec_l1Words.l0])
  | succ k1 =>
   have H := HA.out
   clear HA
   simp only [spec_l1Words.l0] at H
   by_cases c4 : x5_1 < (a0.size : Int)
   ·rw [if_pos c4] at H
    have c4b0 : decide (x5_1 < (a0.size : Int)) = true := decide_eq_true c4
    clear c4
    by_cases c5 : 0 ≤ x5_1
    ·rw [if_pos c5] at H
     have c5b0 : decide (0 ≤ x5_1) = true := decide_eq_true c5
     clear c5
     by_cases c7 : (bt a0 x5_1) = 32
     ·rw [if_pos c7] at H
      have c7b0 : ((bt a0 x5_1) == 32) = true := beq_iff_eq.mpr c7
      have c7b1 : ((bt a0 x5_1) != 32) = false := bne_eq_false_iff_eq.mpr c7
      clear c7
      by_cases c8 : x3_1.length < 8796093022208
      ·rw [if_pos c8] at H
       have LMc8 := Aside0.mk c8
       clear c8
       obtain ⟨y411, hy411⟩ : ∃ y_ : List ByteArray, y_ = (x3_1 ++ [x4_1]) := ⟨_, rfl⟩
       replace H : (spec_l1Words.l0 k1 a0 y411 (⟨#[]⟩ : ByteArray) (wrap64 (x5_1 + 1))) = some r := by first | (rw [hy411]; with_reducible exact H) | (have H2_ := (Option.bind_some _ _).symm.trans H; rw [hy411]; with_reducible exact H2_) | (have H2_ := (Option.bind_some _ _).symm.trans H; with_reducible exact H2_) | with_reducible exact H | (rw [hy411]; exact H) | exact H
       have Ny411 := Aside0.mk hy411
       clear hy411
       have H' := Aside0.mk H
       clear H
       have p6 : 0 ≤ (x5_1 : Int) := of_decide_eq_true da_
       have q6 : x5_1 < (a0.size : Int) := of_decide_eq_true da_
       have hx6 := bt_at a0 x5_1
       replace p6 := eq_true p6
       replace q6 := eq_true q6
       go_wp2_with (first | ((with_reducible refine gate_builtin (b := .append) (xs := #[.tmp 17, .tmp 19]) rfl ?_); at_builtin; refine Kd.R_append Kd.string (w0 := w) w.heap.size rfl (.tmp 17) (.tmp 19) 51 9 (.string ⟨#[]⟩) 16 rfl Tryz.underlying51 info9 rfl (by decide) (by omega) u3 x3_1 x4_1 [.string x4_1] (fun _ => True) (fun _ => False) rfl rfl ?aP (fun _ hk => hk.elim) ?aF ?aO ?aB ?aS ?aL ?_; (case aP => exact rfl); (case aB => exact (bl HB)); (case aF => exact (fun _ _ => trivial)); (case aO => exact (rs HO_3)); (case aS => exact (below_size (bl HB))); (case aL => have := LMc8.out; omega); intro v412 w9 ho hb hg hat; rw [← Ny411.out] at ho; replace HB := Aside0.mk hb; have HO413 := Aside0.mk (ho); clear HO_3; clear ho hb hg hat))
       go_roundg k1
       case measure => have := HK1.out; omega
       case rel => exact ⟨(y411), ((⟨#[]⟩ : ByteArray)), (wrap64 (x5_1 + 1)), rs_, rs_, H', ⟨by have := HK1.out; omega⟩, ⟨by (with_reducible repeat apply ru); exact HO413.out⟩, ⟨m0_⟩⟩
      ·rw [if_neg c8] at H
       exact absurd H (by simp)
     ·rw [if_neg c7] at H
      have c7b0 : ((bt a0 x5_1) == 32) = false := beq_eq_false_iff_ne.mpr c7
      have c7b1 : ((bt a0 x5_1) != 32) = true := bne_iff_ne.mpr c7
      have c10b0 := eq_true (of_decide_eq_true da_ : 0 ≤ x5_1)
      by_cases c11 : x5_1 ≤ (wrap64 (x5_1 + 1))
      ·rw [if_pos c11] at H
       have c11b0 := eq_true c11
       have c11b1 : decide (x5_1 ≤ (wrap64 (x5_1 + 1))) = true := decide_eq_true c11
       by_cases c12 : (wrap64 (x5_1 + 1)) ≤ (a0.size : Int)
       ·rw [if_pos c12] at H
        have c12b0 := eq_true c12
        have c12b1 : decide ((wrap64 (x5_1 + 1)) ≤ (a0.size : Int)) = true := decide_eq_true c12
        by_cases c13 : x4_1.size + (a0.extract (x5_1 : Int).toNat ((wrap64 (x5_1 + 1)) : Int).toNat).size ≤ 9223372036854775807
        ·rw [if_pos c13] at H
         have c13b0 := eq_true c13
         have c13b1 : decide (x4_1.size + (a0.extract (x5_1 : Int).toNat ((wrap64 (x5_1 + 1)) : Int).toNat).size ≤ 9223372036854775807) = true := decide_eq_true c13
         try have c13b2 : (9223372036854775807 < x4_1.size + (a0.extract (x5_1 : Int).toNat ((wrap64 (x5_1 + 1)) : Int).toNat).size) = False := eq_false (Nat.not_lt.2 c13)
         have H' := Aside0.mk H
         clear H
         have p6 : 0 ≤ (x5_1 : Int) := of_decide_eq_true da_
         have q6 : x5_1 < (a0.size : Int) := of_decide_eq_true da_
         have hx6 := bt_at a0 x5_1
         replace p6 := eq_true p6
         replace q6 := eq_true q6
         go_wp2
         go_roundg k1
         case measure => have := HK1.out; omega
         case rel => exact ⟨(x3_1), (x4_1 ++ (a0.extract (x5_1 : Int).toNat ((wrap64 (x5_1 + 1)) : Int).toNat)), (wrap64 (x5_1 + 1)), rs_, rs_, H', ⟨by have := HK1.out; omega⟩, ⟨by (with_reducible repeat apply ru); exact HO_3.out⟩, ⟨m0_⟩⟩
        ·rw [if_neg c13] at H
         exact absurd H (by simp)
       ·rw [if_neg c12] at H
        exact absurd H (by simp)
      ·rw [if_neg c11] at H
       exact absurd H (by simp)
    ·rw [if_neg c5] at H
     exact absurd H (by simp)
   ·rw [if_neg c4] at H
    have c4b0 : decide (x5_1 < (a0.size : Int)) = false := decide_eq_false c4
    clear c4
    by_cases c14 : x3_1.length < 8796093022208
    ·rw [if_pos c14] at H
     have LMc14 := Aside0.mk c14
     clear c14
     obtain ⟨y414, hy414⟩ : ∃ y_ : List ByteArray, y_ = (x3_1 ++ [x4_1]) := ⟨_, rfl⟩
     replace H : (some y414) = some r := by first | (rw [hy414]; with_reducible exact H) | (have H2_ := (Option.bind_some _ _).symm.trans H; rw [hy414]; with_reducible exact H2_) | (have H2_ := (Option.bind_some _ _).symm.trans H; with_reducible exact H2_) | with_reducible exact H | (rw [hy414]; exact H) | exact H
     have Ny414 := Aside0.mk hy414
     clear hy414
     obtain rfl := Option.some.inj H
     go_wp2_with (first | ((with_reducible refine gate_builtin (b := .append) (xs := #[.tmp 28, .tmp 30]) rfl ?_); at_builtin; refine Kd.R_append Kd.string (w0 := w) w.heap.size rfl (.tmp 28) (.tmp 30) 51 9 (.string ⟨#[]⟩) 16 rfl Tryz.underlying51 info9 rfl (by decide) (by omega) u3 x3_1 x4_1 [.string x4_1] (fun _ => True) (fun _ => False) rfl rfl ?aP (fun _ hk => hk.elim) ?aF ?aO ?aB ?aS ?aL ?_; (case aP => exact rfl); (case aB => exact (bl HB)); (case aF => exact (fun _ _ => trivial)); (case aO => exact (rs HO_3)); (case aS => exact (below_size (bl HB))); (case aL => have := LMc14.out; omega); intro v415 w15 ho hb hg hat; rw [← Ny414.out] at ho; replace HB := Aside0.mk hb; have HO416 := Aside0.mk (ho); clear HO_3; clear ho hb hg hat))
     go_ret
     exact ⟨_, fi_, by (with_reducible repeat apply ru); exact HO416.out, m0_⟩
    ·rw [if_neg c14] at H
     exact absurd H (by simp)
mutual
def spec_l1Num.j0 : Nat → ByteArray → Bool → Option (Int)
 | 0, _, _ => none
 | k + 1, x0, x12 => if x12 = true then (some (-1)) else (spec_l1Num.l0 k x0 0 0)
def spec_l1Num.l0 : Nat → ByteArray → Int → Int → Option (Int)
 | 0, _, _, _ => none
 | k + 1, x0, x3, x4 => if x4 < (x0.size : Int) then (if 0 ≤ x4 then (if (bt x0 x4) < 48 then (some (-1)) else (if (bt x0 x4) > 57 then (some (-1)) else (spec_l1Num.l0 k x0 (wrap64 ((wrap64 (x3 * 10)) + (((bt x0 x4) - 48) % 256))) (wrap64 (x4 + 1))))) else (none)) else ((spec_l1Plain.f k x3).bind fun t417 => (if t417.toList = x0.toList then (some x3) else (some (-1))))
end
def spec_l1Num.f (k : Nat) (a0 : ByteArray) : Option (Int) := if (a0.size : Int) = 0 then (spec_l1Num.j0 k a0 true) else (spec_l1Num.j0 k a0 (decide ((a0.size : Int) > 4)))
theorem spec_l1Num.mono_l : ∀ k, (∀ y0 y1, LeO (spec_l1Num.j0 k y0 y1) (spec_l1Num.j0 (k + 1) y0 y1)) ∧ (∀ y0 y1 y2, LeO (spec_l1Num.l0 k y0 y1 y2) (spec_l1Num.l0 (k + 1) y0 y1 y2))
 | 0 => ⟨fun _ _ r h => by simp [spec_l1Num.j0] at h, fun _ _ _ r h => by simp [spec_l1Num.l0] at h⟩
 | k + 1 => by
  obtain ⟨ih0, ih1⟩ := spec_l1Num.mono_l k
  refine ⟨?_, ?_⟩
  ·intro y0 y1
   unfold spec_l1Num.j0
   repeat' first | (with_reducible first | exact ih0 _ _ | exact ih1 _ _ _ | exact spec_l1Plain.mono _ _ | exact LeO.refl _ | exact LeO.none _ | refine LeO.ite ?_ ?_ | refine LeO.bind ?_ (fun _ => ?_)) | exact ih0 _ _ | exact ih1 _ _ _ | exact spec_l1Plain.mono _ _ | exact LeO.none _ | refine LeO.ite ?_ ?_ | refine LeO.bind ?_ (fun _ => ?_)
  ·intro y0 y1 y2
   unfold spec_l1Num.l0
   repeat' first | (with_reducible first | exact ih0 _ _ | exact ih1 _ _ _ | exact spec_l1Plain.mono _ _ | exact LeO.refl _ | exact LeO.none _ | refine LeO.ite ?_ ?_ | refine LeO.bind ?_ (fun _ => ?_)) | exact ih0 _ _ | exact ih1 _ _ _ | exact spec_l1Plain.mono _ _ | exact LeO.none _ | refine LeO.ite ?_ ?_ | refine LeO.bind ?_ (fun _ => ?_)
theorem spec_l1Num.mono : ∀ a0 k, LeO (spec_l1Num.f k a0) (spec_l1Num.f (k + 1) a0) := by
 intro a0 k
 obtain ⟨ih0, ih1⟩ := spec_l1Num.mono_l k
 unfold spec_l1Num.f
 repeat' first | (with_reducible first | exact ih0 _ _ | exact ih1 _ _ _ | exact spec_l1Plain.mono _ _ | exact LeO.refl _ | exact LeO.none _ | refine LeO.ite ?_ ?_ | refine LeO.bind ?_ (fun _ => ?_)) | exact ih0 _ _ | exact ih1 _ _ _ | exact spec_l1Plain.mono _ _ | exact LeO.none _ | refine LeO.ite ?_ ?_ | refine LeO.bind ?_ (fun _ => ?_)
set_option maxHeartbeats 8000000 in
set_option maxRecDepth 100000 in
theorem spec_l1Num.calls (k : Nat) (a0 : ByteArray) (r : Int) (w : World) (h : spec_l1Num.f k a0 = some r) :
  Calls Tryz.prog 120 #[.string a0] w fun e w' => e = .returned (.int .i64 r) ∧ Below w.heap.size w w' := by
 have HB := Aside0.mk (Below.refl w.heap.size w)
 have H : (if (a0.size : Int) = 0 then (spec_l1Num.j0 k a0 true) else (spec_l1Num.j0 k a0 (decide ((a0.size : Int) > 4)))) = some r := h
 clear h
 have HC2 := Aside0.mk H
 clear H
 go_enter Tryz.func120, Tryz.ntmps120
 go_upto_region 1 with (fail)
 go_cut [12] (fun v12 wc => ∃ (kq : Nat) (x12_1 : Bool), v12 = .bool x12_1 ∧ Aside0 (spec_l1Num.j0 kq a0 x12_1 = some r) ∧ Aside0 (kq ≤ k) ∧ Aside0 (Below w.heap.size w wc))
 case first =>
  have H := HC2.out
  clear HC2
  by_cases c3 : (a0.size : Int) = 0
  ·rw [if_pos c3] at H
   have c3b0 : ((a0.size : Int) == 0) = true := beq_iff_eq.mpr c3
   have c3b1 : ((a0.size : Int) != 0) = false := bne_eq_false_iff_eq.mpr c3
   clear c3
   (first | rw [c3b0] | (simp only [i64_w, i32_w]; rw [c3b0]) | skip)
   have H' := Aside0.mk H
   clear H
   go_wp2
   go_meet
   case rel => exact ⟨_, (true), rs_, H', ⟨by first | omega | exact Nat.le_refl _⟩, ⟨m0_⟩⟩
  ·rw [if_neg c3] at H
   have c3b0 : ((a0.size : Int) == 0) = false := beq_eq_false_iff_ne.mpr c3
   have c3b1 : ((a0.size : Int) != 0) = true := bne_iff_ne.mpr c3
   (first | rw [c3b0] | (simp only [i64_w, i32_w]; rw [c3b0]) | skip)
   have H' := Aside0.mk H
   clear H
   go_wp2
   go_meet
   case rel => exact ⟨_, (decide ((a0.size : Int) > 4)), rs_, H', ⟨by first | omega | exact Nat.le_refl _⟩, ⟨m0_⟩⟩
 case rest =>
  clear HC2
  try clear c1
  try clear p2
  try clear c3
  try clear c3b0
  try clear c3b1
  obtain ⟨kq, x12_1, rfl, HA, HJ1, HB⟩ := hcut
  cases kq with
  | zero => exact absurd HA.out (by simp [spec_l1Num.j0])
  | succ kj1 =>
   have H := HA.out
   clear HA
   simp only [spec_l1Num.j0] at H
   by_cases c4 : x12_1 = true
   ·subst c4
    have H1 : (some (-1)) = some r := by rw [if_pos rfl] at H; exact H
    clear H
    have H := H1
    clear H1
    obtain rfl := Option.some.inj H
    go_wp2
    go_ret
    exact ⟨fi_, m0_⟩
   ·replace c4 := Bool.eq_false_iff.mpr c4
    subst c4
    have H1 : (spec_l1Num.l0 kj1 a0 0 0) = some r := by rw [if_neg (show ¬ (false = true) by decide)] at H; exact H
    clear H
    have H := H1
    clear H1
    have H' := Aside0.mk H
    clear H
    go_wp2
    go_loopg [3, 4] kj1 (fun kq v3 v4 w' => ∃ (x3_2 : Int) (x4_2 : Int), v3 = .int .i64 x3_2 ∧ v4 = .int .i64 x4_2 ∧ Aside0 (spec_l1Num.l0 kq a0 x3_2 x4_2 = some r) ∧ Aside0 (kq ≤ kj1) ∧ Aside0 (Below w.heap.size w w'))
    case atStart => exact ⟨(0), (0), rs_, rs_, H', ⟨Nat.le_refl _⟩, ⟨m0_⟩⟩
    case round =>
     clear H'
     try clear c1
     try clear p2
     try clear c3
     try clear c3b0
     try clear c3b1
     try clear c4
     try clear p2
     obtain ⟨x3_2, x4_2, rfl, rfl, HA, HK2, HB⟩ := hrel
     cases gk with
     | zero => exact absurd HA.out (by simp [spec_l1Num.l0])
     | succ k2 =>
      have H := HA.out
      clear HA
      simp only [spec_l1Num.l0] at H
      by_cases c5 : x4_2 < (a0.size : Int)
      ·rw [if_pos c5] at H
       have c5b0 : decide (x4_2 < (a0.size : Int)) = true := decide_eq_true c5
       clear c5
       by_cases c6 : 0 ≤ x4_2
       ·rw [if_pos c6] at H
        have c6b0 : decide (0 ≤ x4_2) = true := decide_eq_true c6
        clear c6
        by_cases c8 : (bt a0 x4_2) < 48
        ·rw [if_pos c8] at H
         have c8b0 : decide ((bt a0 x4_2) < 48) = true := decide_eq_true c8
         clear c8
         obtain rfl := Option.some.inj H
         have p7 : 0 ≤ (x4_2 : Int) := of_decide_eq_true da_
         have q7 : x4_2 < (a0.size : Int) := of_decide_eq_true da_
         have hx7 := bt_at a0 x4_2
         replace p7 := eq_true p7
         replace q7 := eq_true q7
         go_wp2
         go_ret
         exact ⟨fi_, m0_⟩
        ·rw [if_neg c8] at H
         have c8b0 : decide ((bt a0 x4_2) < 48) = false := decide_eq_false c8
         clear c8
         by_cases c10 : (bt a0 x4_2) > 57
         ·rw [if_pos c10] at H
          have c10b0 : decide (57 < (bt a0 x4_2)) = true := decide_eq_true c10
          clear c10
          obtain rfl := Option.some.inj H
          have p7 : 0 ≤ (x4_2 : Int) := of_decide_eq_true da_
          have q7 : x4_2 < (a0.size : Int) := of_decide_eq_true da_
          have hx7 := bt_at a0 x4_2
          replace p7 := eq_true p7
          replace q7 := eq_true q7
          have p9 : 0 ≤ (x4_2 : Int) := of_decide_eq_true da_
          have q9 : x4_2 < (a0.size : Int) := of_decide_eq_true da_
          have hx9 := bt_at a0 x4_2
          replace p9 := eq_true p9
          replace q9 := eq_true q9
          go_wp2
          go_ret
          exact ⟨fi_, m0_⟩
         ·rw [if_neg c10] at H
          have c10b0 : decide (57 < (bt a0 x4_2)) = false := decide_eq_false c10
          clear c10
          have H' := Aside0.mk H
          clear H
          have p7 : 0 ≤ (x4_2 : Int) := of_decide_eq_true da_
          have q7 : x4_2 < (a0.size : Int) := of_decide_eq_true da_
          have hx7 := bt_at a0 x4_2
          replace p7 := eq_true p7
          replace q7 := eq_true q7
          have p9 : 0 ≤ (x4_2 : Int) := of_decide_eq_true da_
          have q9 : x4_2 < (a0.size : Int) := of_decide_eq_true da_
          have hx9 := bt_at a0 x4_2
          replace p9 := eq_true p9
          replace q9 := eq_true q9
          have p11 : 0 ≤ (x4_2 : Int) := of_decide_eq_true da_
          have q11 : x4_2 < (a0.size : Int) := of_decide_eq_true da_
          have hx11 := bt_at a0 x4_2
          replace p11 := eq_true p11
          replace q11 := eq_true q11
          go_wp2
          go_roundg k2
          case measure => have := HJ1.out; have := HK2.out; omega
          case rel => exact ⟨(wrap64 ((wrap64 (x3_2 * 10)) + (((bt a0 x4_2) - 48) % 256))), (wrap64 (x4_2 + 1)), rs_, rs_, H', ⟨by have := HJ1.out; have := HK2.out; omega⟩, ⟨m0_⟩⟩
       ·rw [if_neg c6] at H
        exact absurd H (by simp)
      ·rw [if_neg c5] at H
       have c5b0 : decide (x4_2 < (a0.size : Int)) = false := decide_eq_false c5
       clear c5
       replace H := Option.bind_eq_some_iff.mp H
       obtain ⟨t417, A120, H⟩ := H
       try dsimp only at H
       have A12 := Aside0.mk A120
       clear A120
       by_cases c13 : t417.toList = a0.toList
       ·rw [if_pos c13] at H
        have c13b0 : (t417.toList == a0.toList) = true := beq_iff_eq.mpr c13
        have c13b1 : (t417.toList != a0.toList) = false := bne_eq_false_iff_eq.mpr c13
        clear c13
        obtain rfl := Option.some.inj H
        go_wp2_with (first | ((with_reducible refine gate_callee (f := 114) rfl ?_); refine gL (some 38) Tryz.func114 #[.int .i64 x3_2] ?_; (with_reducible refine (spec_l1Plain.calls k2 x3_2 t417 _ A12.out).mono ?_); rintro e w14 ⟨rfl, hb⟩; refine ⟨_, rfl, ?_⟩; replace HB := hbS HB hb; (try clear hb)))
        go_ret
        exact ⟨fi_, m0_⟩
       ·rw [if_neg c13] at H
        have c13b0 : (t417.toList == a0.toList) = false := beq_eq_false_iff_ne.mpr c13
        have c13b1 : (t417.toList != a0.toList) = true := bne_iff_ne.mpr c13
        obtain rfl := Option.some.inj H
        go_wp2_with (first | ((with_reducible refine gate_callee (f := 114) rfl ?_); refine gL (some 38) Tryz.func114 #[.int .i64 x3_2] ?_; (with_reducible refine (spec_l1Plain.calls k2 x3_2 t417 _ A12.out).mono ?_); rintro e w15 ⟨rfl, hb⟩; refine ⟨_, rfl, ?_⟩; replace HB := hbS HB hb; (try clear hb)))
        go_ret
        exact ⟨fi_, m0_⟩
def spec_EndRead.f (k : Nat) (a0 : ByteArray) : Option (Int × Int × Bool) := (spec_l1Words.f k a0).bind fun t419 => (if (t419.length : Int) = 2 then (if 0 < (t419.length : Int) then ((spec_l1Num.f k (rdOf ByteArray.empty t419 0)).bind fun t423 => (if 1 < (t419.length : Int) then ((spec_l1Num.f k (rdOf ByteArray.empty t419 1)).bind fun t425 => ((spec_EndOk.f t423 t425).bind fun t427 => (if t427 = true then (some (t423, t425, true)) else (some (0, 0, false))))) else (none))) else (none)) else (some (0, 0, false)))
theorem spec_EndRead.mono : ∀ a0 k, LeO (spec_EndRead.f k a0) (spec_EndRead.f (k + 1) a0) := by
 intro a0 k
 unfold spec_EndRead.f
 repeat' first | (with_reducible first | exact spec_l1Num.mono _ _ | exact spec_l1Words.mono _ _ | exact LeO.refl _ | exact LeO.none _ | refine LeO.ite ?_ ?_ | refine LeO.bind ?_ (fun _ => ?_)) | exact spec_l1Num.mono _ _ | exact spec_l1Words.mono _ _ | exact LeO.none _ | refine LeO.ite ?_ ?_ | refine LeO.bind ?_ (fun _ => ?_)
def spec_EndRead.T4 : Bool × List (List Nat × List Nat) := (true, [([], []), ([0], [0]), ([1], [1]), ([2], [2]), ([], []), ([4], [4]), ([5], [5]), ([6, 3], [6]), ([3, 7], [3, 7]), ([], []), ([9, 8, 7, 0, 1, 2, 3, 4, 5, 6, 7, 8, 9], [8, 9])])
def spec_EndRead.B4 : List Nat := [0, 1, 3, 7, 0, 16, 48, 127, 255, 0, 1023]
theorem spec_EndRead.tab4 : rtab .any (opsOf Tryz.f107 4) = spec_EndRead.T4 := by kernel_rfl
theorem spec_EndRead.bits4 : waitsOk spec_EndRead.T4.2 spec_EndRead.B4 = true := by kernel_rfl
set_option maxHeartbeats 8000000 in
set_option maxRecDepth 100000 in
theorem spec_EndRead.calls (k : Nat) (a0 : ByteArray) (r1 : Int) (r2 : Int) (r3 : Bool) (w : World) (h : spec_EndRead.f k a0 = some (r1, r2, r3)) :
  Calls Tryz.prog 107 #[.string a0] w fun e w' => e = .returned (.tuple #[.agg #[.int .i64 r1, .int .i64 r2], .bool r3]) ∧ Below w.heap.size w w' := by
 have hu34 := Tryz.underlying34
 have HB := Aside0.mk (Below.refl w.heap.size w)
 have H : ((spec_l1Words.f k a0).bind fun t419 => (if (t419.length : Int) = 2 then (if 0 < (t419.length : Int) then ((spec_l1Num.f k (rdOf ByteArray.empty t419 0)).bind fun t423 => (if 1 < (t419.length : Int) then ((spec_l1Num.f k (rdOf ByteArray.empty t419 1)).bind fun t425 => ((spec_EndOk.f t423 t425).bind fun t427 => (if t427 = true then (some (t423, t425, true)) else (some (0, 0, false))))) else (none))) else (none)) else (some (0, 0, false)))) = some (r1, r2, r3) := h
 clear h
 replace H := Option.bind_eq_some_iff.mp H
 obtain ⟨t419, A20, H⟩ := H
 try dsimp only at H
 have A2 := Aside0.mk A20
 clear A20
 by_cases c3 : (t419.length : Int) = 2
 ·rw [if_pos c3] at H
  have c3b0 : ((t419.length : Int) == 2) = true := beq_iff_eq.mpr c3
  have c3b1 : ((t419.length : Int) != 2) = false := bne_eq_false_iff_eq.mpr c3
  clear c3
  by_cases c4 : 0 < (t419.length : Int)
  ·rw [if_pos c4] at H
   have c4b0 : decide (0 < (t419.length : Int)) = true := decide_eq_true c4
   have c4b1 : decide (0 < t419.length) = true := decide_eq_true (by omega)
   clear c4
   replace H := Option.bind_eq_some_iff.mp H
   obtain ⟨t423, A50, H⟩ := H
   try dsimp only at H
   have A5 := Aside0.mk A50
   clear A50
   by_cases c6 : 1 < (t419.length : Int)
   ·rw [if_pos c6] at H
    have c6b0 : decide (1 < (t419.length : Int)) = true := decide_eq_true c6
    have c6b1 : decide (1 < t419.length) = true := decide_eq_true (by omega)
    clear c6
    replace H := Option.bind_eq_some_iff.mp H
    obtain ⟨t425, A70, H⟩ := H
    try dsimp only at H
    have A7 := Aside0.mk A70
    clear A70
    replace H := Option.bind_eq_some_iff.mp H
    obtain ⟨t427, A80, H⟩ := H
    try dsimp only at H
    have A8 := Aside0.mk A80
    clear A80
    by_cases c9 : t427 = true
    ·subst c9
     have H1 : (some (t423, t425, true)) = some (r1, r2, r3) := by rw [if_pos rfl] at H; exact H
     clear H
     have H := H1
     clear H1
     simp only [Option.some.injEq, Prod.mk.injEq] at H
     obtain ⟨rfl, rfl, rfl⟩ := H
     go_enter Tryz.func107, Tryz.ntmps107
     try go_wp2_with (first | ((with_reducible refine gate_dst (N := 2) rfl ?_); refine box_event rfl (N := 2) rfl (cs := #[.int .i64 0, .int .i64 0]) (t := 34) hr_ ?_; intro gb418 hg w10 hbox hb; have BK418 := Aside0.mk hbox; have GW418 := gwE HB hg; have GE418 := gwE HB hg; replace HB := hbS HB hb; clear hb hbox hg) | ((with_reducible refine gate_callee (f := 119) rfl ?_); refine gL (some 7) Tryz.func119 #[.string a0] ?_; (with_reducible refine (spec_l1Words.calls k a0 t419 _ A2.out).mono ?_); rintro e w11 ⟨v420, rfl, ho0, hb⟩; refine ⟨_, rfl, ?_⟩; have HO421 := Aside0.mk (Kd.R_lower ho0 (below_size (bl HB))); replace BK418 := bkB BK418 hb; replace HB := hbS HB hb; (try clear hb); (try clear ho0); obtain ⟨Ao12, co12, eo12⟩ := Kd.R_slice HO421.out; subst eo12))
     replace HO421 := Aside0.mk (Kd.R_drew HO421.out)
     replace BK418 := Aside0.mk (blk_drew BK418.out)
     replace HB := Aside0.mk (below_drew1 HB.out)
     have p422 : 0 ≤ (0 : Int) := (by omega)
     have q422 : 0 < (t419.length : Int) := of_decide_eq_true da_
     obtain ⟨ad422, e422, hx422_0⟩ := Kd.at_string (Kd.R_reads' HO421.out).2.2 0 p422 q422
     cases e422
     have qi422 : (0 < t419.length) = True := eq_true (by omega)
     (try rw [show ((0 : Int)).toNat = 0 from rfl] at hx422_0)
     (try rw [Addr.add_zero'] at hx422_0)
     replace p422 := eq_true p422
     replace q422 := eq_true q422
     have p424 : 0 ≤ (1 : Int) := (by omega)
     have q424 : 1 < (t419.length : Int) := of_decide_eq_true da_
     obtain ⟨ad424, e424, hx424_0⟩ := Kd.at_string (Kd.R_reads' HO421.out).2.2 1 p424 q424
     obtain rfl : ad422 = ad424 := (by injection e424)
     (try simp only [show (1 : Int).toNat = 1 from rfl, Nat.reduceMul, Nat.reduceEqDiff, Go.Addr.add, ↓reduceIte] at hx424_0)
     have qi424 : (1 < t419.length) = True := eq_true (by omega)
     (try rw [show ((1 : Int)).toNat = 1 from rfl] at hx424_0)
     replace p424 := eq_true p424
     replace q424 := eq_true q424
     refine start_ (n := 11) (S := fun w' => w'.cell? ad422 = some (.string (rdOf ByteArray.empty t419 0)) ∧ w'.cell? ⟨ad422.block, ad422.off + 1, none⟩ = some (.string (rdOf ByteArray.empty t419 1))) (ds := []) #[false, false, false, false, false, false, false, false, false, false, false] (by kernel_rfl) rfl rfl ⟨hx422_0, hx424_0⟩ (fun hHeld => ?_); refine with_tabW spec_EndRead.tab4 spec_EndRead.bits4 (fun HT_ HW_ => ?_)
     generalize w11.drew = w13 at HO421 BK418 HB hx422_0 hx424_0 hHeld ⊢
     refine pu_ 0 (some 12) #[true, false, false, false, false, false, false, false, false, false, false] ?_
     refine pu_ 1 (some 13) #[true, true, false, false, false, false, false, false, false, false, false] ?_
     refine pu_ 4 (some 16) #[true, true, false, false, true, false, false, false, false, false, false] ?_
     refine pu_ 5 (some 17) #[true, true, false, false, true, true, false, false, false, false, false] ?_
     refine tk_ 2 (some 14) #[true, true, true, false, true, true, false, false, false, false, false] rfl (.inl ⟨rfl, m3_⟩) ?_
     refine tk_ 6 (some 18) #[true, true, true, false, true, true, true, false, false, false, false] rfl (.inl ⟨rfl, m3_⟩) ?_
     refine join_ (σ := Nat) 1 #[true, true, true, true, true, true, true, true, true, true, false] (fun s_ => [(15, .int .i64 t423), (19, .int .i64 t425), (5, .pointer (some ⟨s_, 0, none⟩)), (20, .agg #[.int .i64 t423, .int .i64 t425])]) (fun s_ w' => (w'.cell? ad422 = some (.string (rdOf ByteArray.empty t419 0)) ∧ w'.cell? ⟨ad422.block, ad422.off + 1, none⟩ = some (.string (rdOf ByteArray.empty t419 1))) ∧ (Kd.R Kd.string 9 w' w.heap.size (fun _ => True) (.slice (some ad422) t419.length co12) t419) ∧ (w'.heap[gb418]? = some (.cells #[.int .i64 0, .int .i64 0] 34 (0, 0))) ∧ (w'.heap[s_]? = some (.cells #[.int .i64 0, .int .i64 0] 34 (0, 0))) ∧ (w.heap.size ≤ s_) ∧ (w.heap.size ≤ s_) ∧ (gb418 ≠ s_) ∧ (s_ ≠ gb418) ∧ (Below w.heap.size w w')) ?_ ?_
     rotate_left
     ·intro hCont
      refine two_ (i := 3) (j := 9) (Ni := some 15) (Nj := some 5) #[true, true, true, true, true, true, true, false, false, false, false] #[true, true, true, false, true, true, true, false, false, true, false] rfl rfl rfl rfl (two_of HT_.out (by kernel_rfl)) (by decide) (by decide) (fun K hK => ?_) (fun K hK => ?_)
      ·skip
       refine gR Tryz.func120 #[.string (rdOf ByteArray.empty t419 0)] ?_
       with_reducible refine (spec_l1Num.calls k (rdOf ByteArray.empty t419 0) t423 _ A5.out).mono ?_
       rintro e w14 ⟨rfl, hb⟩
       have HS0_ := bch hb (hHeld.1)
       have HS1_ := bch hb (hHeld.2)
       refine ⟨_, rfl, ?_⟩
       replace HO421 := Aside0.mk (Kd.R_below (rs HO421) hb)
       replace BK418 := bkB BK418 hb
       replace HB := hbS HB hb
       (try clear hb)
       (try clear hb2)
       (try clear hk)
       (try clear hi)
       refine hK.out _ _ ⟨HS0_, HS1_⟩ (fun hHeld => ?_)
       clear hK K
       refine nm_ ?_
       refine two_ (i := 7) (j := 9) (Ni := some 19) (Nj := some 5) #[true, true, true, true, true, true, true, true, false, false, false] #[true, true, true, true, true, true, true, false, false, true, false] rfl rfl rfl rfl (two_of HT_.out (by kernel_rfl)) (by decide) (by decide) (fun K hK => ?_) (fun K hK => ?_)
       ·skip
        refine gR Tryz.func120 #[.string (rdOf ByteArray.empty t419 1)] ?_
        with_reducible refine (spec_l1Num.calls k (rdOf ByteArray.empty t419 1) t425 _ A7.out).mono ?_
        rintro e w15 ⟨rfl, hb⟩
        have HS0_ := bch hb (hHeld.1)
        have HS1_ := bch hb (hHeld.2)
        refine ⟨_, rfl, ?_⟩
        replace HO421 := Aside0.mk (Kd.R_below (rs HO421) hb)
        replace BK418 := bkB BK418 hb
        replace HB := hbS HB hb
        (try clear hb)
        (try clear hb2)
        (try clear hk)
        (try clear hi)
        refine hK.out _ _ ⟨HS0_, HS1_⟩ (fun hHeld => ?_)
        clear hK K
        refine nm_ ?_
        refine pu_ 8 (some 20) #[true, true, true, true, true, true, true, true, true, false, false] ?_
        refine on_ 9 (some 5) #[true, true, true, true, true, true, true, true, true, true, false] (fun K hK => ?_)
        refine box_step rfl (N := 5) rfl (cs := #[.int .i64 0, .int .i64 0]) (t := 34) hr_ ?_
        intro gb426 hg w16 hbox hb
        have HS0_ := bch hb (hHeld.1)
        have HS1_ := bch hb (hHeld.2)
        replace HO421 := Aside0.mk (Kd.R_below (rs HO421) hb)
        have BK426 := Aside0.mk hbox
        have GW426 := gwE HB hg
        have GE426 := gwE HB hg
        replace HB := hbS HB hb
        have NB418_426 := neL BK418 hg
        have NB426_418 := neG BK418 hg
        replace BK418 := bkB BK418 hb
        clear hb hbox hg
        refine hK.out _ _ ⟨HS0_, HS1_⟩ (fun hHeld => ?_)
        clear hK K
        refine nm_ ?_
        exact norm_ (by simp only [putAll, Act.put, List.setIfInBounds_toArray, List.set_cons_zero, List.set_cons_succ]) (hCont (gb426) _ ⟨hHeld, (rs HO421), (bk BK418), (bk BK426), GW426.out, GE426.out, NB418_426.out, NB426_418.out, (bl HB)⟩)
       ·skip
        refine box_step rfl (N := 5) rfl (cs := #[.int .i64 0, .int .i64 0]) (t := 34) hr_ ?_
        intro gb426 hg w15 hbox hb
        have HS0_ := bch hb (hHeld.1)
        have HS1_ := bch hb (hHeld.2)
        replace HO421 := Aside0.mk (Kd.R_below (rs HO421) hb)
        have BK426 := Aside0.mk hbox
        have GW426 := gwE HB hg
        have GE426 := gwE HB hg
        replace HB := hbS HB hb
        have NB418_426 := neL BK418 hg
        have NB426_418 := neG BK418 hg
        replace BK418 := bkB BK418 hb
        clear hb hbox hg
        refine hK.out _ _ ⟨HS0_, HS1_⟩ (fun hHeld => ?_)
        clear hK K
        refine nm_ ?_
        refine on_ 7 (some 19) #[true, true, true, true, true, true, true, true, false, true, false] (fun K hK => ?_)
        refine gR Tryz.func120 #[.string (rdOf ByteArray.empty t419 1)] ?_
        with_reducible refine (spec_l1Num.calls k (rdOf ByteArray.empty t419 1) t425 _ A7.out).mono ?_
        rintro e w16 ⟨rfl, hb⟩
        have HS0_ := bch hb (hHeld.1)
        have HS1_ := bch hb (hHeld.2)
        refine ⟨_, rfl, ?_⟩
        replace HO421 := Aside0.mk (Kd.R_below (rs HO421) hb)
        replace BK418 := bkB BK418 hb
        replace BK426 := bkB BK426 hb
        replace HB := hbS HB hb
        (try clear hb)
        (try clear hb2)
        (try clear hk)
        (try clear hi)
        refine hK.out _ _ ⟨HS0_, HS1_⟩ (fun hHeld => ?_)
        clear hK K
        refine nm_ ?_
        refine pu_ 8 (some 20) #[true, true, true, true, true, true, true, true, true, true, false] ?_
        exact norm_ (by simp only [putAll, Act.put, List.setIfInBounds_toArray, List.set_cons_zero, List.set_cons_succ]) (hCont (gb426) _ ⟨hHeld, (rs HO421), (bk BK418), (bk BK426), GW426.out, GE426.out, NB418_426.out, NB426_418.out, (bl HB)⟩)
      ·skip
       refine box_step rfl (N := 5) rfl (cs := #[.int .i64 0, .int .i64 0]) (t := 34) hr_ ?_
       intro gb426 hg w14 hbox hb
       have HS0_ := bch hb (hHeld.1)
       have HS1_ := bch hb (hHeld.2)
       replace HO421 := Aside0.mk (Kd.R_below (rs HO421) hb)
       have BK426 := Aside0.mk hbox
       have GW426 := gwE HB hg
       have GE426 := gwE HB hg
       replace HB := hbS HB hb
       have NB418_426 := neL BK418 hg
       have NB426_418 := neG BK418 hg
       replace BK418 := bkB BK418 hb
       clear hb hbox hg
       refine hK.out _ _ ⟨HS0_, HS1_⟩ (fun hHeld => ?_)
       clear hK K
       refine nm_ ?_
       refine on_ 3 (some 15) #[true, true, true, true, true, true, true, false, false, true, false] (fun K hK => ?_)
       refine gR Tryz.func120 #[.string (rdOf ByteArray.empty t419 0)] ?_
       with_reducible refine (spec_l1Num.calls k (rdOf ByteArray.empty t419 0) t423 _ A5.out).mono ?_
       rintro e w15 ⟨rfl, hb⟩
       have HS0_ := bch hb (hHeld.1)
       have HS1_ := bch hb (hHeld.2)
       refine ⟨_, rfl, ?_⟩
       replace HO421 := Aside0.mk (Kd.R_below (rs HO421) hb)
       replace BK418 := bkB BK418 hb
       replace BK426 := bkB BK426 hb
       replace HB := hbS HB hb
       (try clear hb)
       (try clear hb2)
       (try clear hk)
       (try clear hi)
       refine hK.out _ _ ⟨HS0_, HS1_⟩ (fun hHeld => ?_)
       clear hK K
       refine nm_ ?_
       refine on_ 7 (some 19) #[true, true, true, true, true, true, true, true, false, true, false] (fun K hK => ?_)
       refine gR Tryz.func120 #[.string (rdOf ByteArray.empty t419 1)] ?_
       with_reducible refine (spec_l1Num.calls k (rdOf ByteArray.empty t419 1) t425 _ A7.out).mono ?_
       rintro e w16 ⟨rfl, hb⟩
       have HS0_ := bch hb (hHeld.1)
       have HS1_ := bch hb (hHeld.2)
       refine ⟨_, rfl, ?_⟩
       replace HO421 := Aside0.mk (Kd.R_below (rs HO421) hb)
       replace BK418 := bkB BK418 hb
       replace BK426 := bkB BK426 hb
       replace HB := hbS HB hb
       (try clear hb)
       (try clear hb2)
       (try clear hk)
       (try clear hi)
       refine hK.out _ _ ⟨HS0_, HS1_⟩ (fun hHeld => ?_)
       clear hK K
       refine nm_ ?_
       refine pu_ 8 (some 20) #[true, true, true, true, true, true, true, true, true, true, false] ?_
       exact norm_ (by simp only [putAll, Act.put, List.setIfInBounds_toArray, List.set_cons_zero, List.set_cons_succ]) (hCont (gb426) _ ⟨hHeld, (rs HO421), (bk BK418), (bk BK426), GW426.out, GE426.out, NB418_426.out, NB426_418.out, (bl HB)⟩)
     rintro gb426 w17 ⟨hS_, h0_, h1_, h2_, h3_, h4_, h5_, h6_, h7_⟩
     have n0_ : Aside0 (Kd.R Kd.string 9 w17 w.heap.size (fun _ => True) (.slice (some ad422) t419.length co12) t419) := ⟨h0_⟩
     have n1_ : Aside0 (w17.heap[gb418]? = some (.cells #[.int .i64 0, .int .i64 0] 34 (0, 0))) := ⟨h1_⟩
     have n2_ : Aside0 (w17.heap[gb426]? = some (.cells #[.int .i64 0, .int .i64 0] 34 (0, 0))) := ⟨h2_⟩
     have n3_ : Aside0 (w.heap.size ≤ gb426) := ⟨h3_⟩
     have n4_ : Aside0 (w.heap.size ≤ gb426) := ⟨h4_⟩
     have n5_ : Aside0 (gb418 ≠ gb426) := ⟨h5_⟩
     have n6_ : Aside0 (gb426 ≠ gb418) := ⟨h6_⟩
     have n7_ : Aside0 (Below w.heap.size w w17) := ⟨h7_⟩
     clear HO421
     clear BK418
     clear HB
     clear h0_ h1_ h2_ h3_ h4_ h5_ h6_ h7_
     have HO421 := n0_
     have BK418 := n1_
     have BK426 := n2_
     have GW426 := n3_
     have GE426 := n4_
     have NB418_426 := n5_
     have NB426_418 := n6_
     have HB := n7_
     clear n0_ n1_ n2_ n3_ n4_ n5_ n6_ n7_
     have hHeld : w17.cell? ad422 = some (.string (rdOf ByteArray.empty t419 0)) ∧ w17.cell? ⟨ad422.block, ad422.off + 1, none⟩ = some (.string (rdOf ByteArray.empty t419 1)) := hS_
     refine norm_ (a' := ?_) ?_ ?_
     rotate_left
     ·simp only [putAll, Act.put, List.setIfInBounds_toArray, List.set_cons_zero, List.set_cons_succ]
      rfl
     refine on_ 10 none #[true, true, true, true, true, true, true, true, true, true, true] (fun K hK => ?_)
     have hs18 : w17.cell? ⟨gb426, 0, none⟩ = some (.int .i64 0) := bcell BK426 0
     have hfs18 := blk_frozen BK426.out 0
     have hns18_0 := NB418_426.out
     have hms18_0 := NB426_418.out
     have hs19 : w17.cell? ⟨gb426, 1, none⟩ = some (.int .i64 0) := bcell BK426 1
     have hfs19 := blk_frozen BK426.out 1
     have hns19_0 := NB418_426.out
     have hms19_0 := NB426_418.out
     refine skip_ (w1 := ?_) (by rfl) rfl ?_ ?_
     rotate_left
     ·go_simp
      rfl
     refine hK.out _ _ ⟨((cell_far (p := ⟨gb426, _, none⟩) (by first | exact Kd.own_blk (Kd.R_ne HO421.out BK426.out (by decide)) | (rw [add_block]; exact Kd.own_blk (Kd.R_ne HO421.out BK426.out (by decide))) | (show (Addr.add _ _).block ≠ _; rw [add_block]; exact Kd.own_blk (Kd.R_ne HO421.out BK426.out (by decide))) | (dsimp only; exact Kd.own_blk (Kd.R_ne HO421.out BK426.out (by decide)))) _).trans (((cell_far (p := ⟨gb426, _, none⟩) (by first | exact Kd.own_blk (Kd.R_ne HO421.out BK426.out (by decide)) | (rw [add_block]; exact Kd.own_blk (Kd.R_ne HO421.out BK426.out (by decide))) | (show (Addr.add _ _).block ≠ _; rw [add_block]; exact Kd.own_blk (Kd.R_ne HO421.out BK426.out (by decide))) | (dsimp only; exact Kd.own_blk (Kd.R_ne HO421.out BK426.out (by decide)))) _).trans (hHeld.1)))), ((cell_far (p := ⟨gb426, _, none⟩) (by first | exact Kd.own_blk (Kd.R_ne HO421.out BK426.out (by decide)) | (rw [add_block]; exact Kd.own_blk (Kd.R_ne HO421.out BK426.out (by decide))) | (show (Addr.add _ _).block ≠ _; rw [add_block]; exact Kd.own_blk (Kd.R_ne HO421.out BK426.out (by decide))) | (dsimp only; exact Kd.own_blk (Kd.R_ne HO421.out BK426.out (by decide)))) _).trans (((cell_far (p := ⟨gb426, _, none⟩) (by first | exact Kd.own_blk (Kd.R_ne HO421.out BK426.out (by decide)) | (rw [add_block]; exact Kd.own_blk (Kd.R_ne HO421.out BK426.out (by decide))) | (show (Addr.add _ _).block ≠ _; rw [add_block]; exact Kd.own_blk (Kd.R_ne HO421.out BK426.out (by decide))) | (dsimp only; exact Kd.own_blk (Kd.R_ne HO421.out BK426.out (by decide)))) _).trans (hHeld.2))))⟩ (fun hHeld => ?_)
     clear hK K
     refine done_ (done_of HT_.out (by kernel_rfl)) ?_
     have hnb20 := NB426_418.out
     have hnc20 := NB418_426.out
     have hcz21_0 := bcell BK426 0
     have hcz21_1 := bcell BK426 1
     have hfz21_0 := blk_frozen BK426.out 0
     have hfz21_1 := blk_frozen BK426.out 1
     try go_wp2_with (first | ((with_reducible refine gate_callee (f := 92) rfl ?_); refine gL (some 22) Tryz.func92 #[.agg #[.int .i64 t423, .int .i64 t425]] ?_; (with_reducible refine (spec_EndOk.calls t423 t425 true _ A8.out).mono ?_); rintro e w22 ⟨rfl, hb⟩; refine ⟨_, rfl, ?_⟩; replace HO421 := Aside0.mk (Kd.R_below (by (with_reducible repeat apply ru); exact (Kd.R_mono (Kd.R_far (p := ⟨gb426, 1, none⟩) (Kd.R_far (p := ⟨gb426, 0, none⟩) (Kd.R_types HO421.out BK426.out (by decide)) (fun _ hk => hk.2) (.int .i64 t423)) (fun _ hk => hk.2) (.int .i64 t425)) (fun _ h_ => h_.1))) hb); replace BK418 := Aside0.mk (blk_below (g := gb418) (o := .cells #[.int .i64 0, .int .i64 0] 34 (0, 0)) (by (with_reducible repeat refine bu ?_); refine blk_far ?_ NB418_426.out _; (with_reducible repeat refine bu ?_); refine blk_far ?_ NB418_426.out _; (with_reducible repeat refine bu ?_); exact BK418.out) hb); replace BK426 := Aside0.mk (blk_below (g := gb426) (o := .cells #[.int .i64 t423, .int .i64 t425] 34 (0, 0)) (by (with_reducible repeat refine bu ?_); refine blk_put (cs := #[.int .i64 t423, .int .i64 0]) ?_ 1 _ rfl; (with_reducible repeat refine bu ?_); refine blk_put (cs := #[.int .i64 0, .int .i64 0]) ?_ 0 _ rfl; (with_reducible repeat refine bu ?_); exact BK426.out) hb); replace HB := hbS HB hb; (try clear hb); (try clear hk); have hcz23_0 := bcell BK426 0; have hcz23_1 := bcell BK426 1; have hfz23_0 := blk_frozen BK426.out 0; have hfz23_1 := blk_frozen BK426.out 1; have hcz24_0 := bcell BK418 0; have hcz24_1 := bcell BK418 1; have hfz24_0 := blk_frozen BK418.out 0; have hfz24_1 := blk_frozen BK418.out 1))
     refine bodyPost_ret (results_ct rfl _ _ gb418 34 #[.int .i64 t423, .int .i64 t425] (0, 0) _ rfl (by (with_reducible repeat refine bu ?_); refine blk_put (cs := #[.int .i64 t423, .int .i64 0]) ?_ 1 _ rfl; (with_reducible repeat refine bu ?_); refine blk_put (cs := #[.int .i64 0, .int .i64 0]) ?_ 0 _ rfl; (with_reducible repeat refine bu ?_); exact BK418.out) Tryz.underlying34 rfl (by kernel_rfl)) rfl ?_
     exact ⟨fi_, m2_⟩
    ·replace c9 := Bool.eq_false_iff.mpr c9
     subst c9
     have H1 : (some (0, 0, false)) = some (r1, r2, r3) := by rw [if_neg (show ¬ (false = true) by decide)] at H; exact H
     clear H
     have H := H1
     clear H1
     simp only [Option.some.injEq, Prod.mk.injEq] at H
     obtain ⟨rfl, rfl, rfl⟩ := H
     go_enter Tryz.func107, Tryz.ntmps107
     try go_wp2_with (first | ((with_reducible refine gate_dst (N := 2) rfl ?_); refine box_event rfl (N := 2) rfl (cs := #[.int .i64 0, .int .i64 0]) (t := 34) hr_ ?_; intro gb418 hg w25 hbox hb; have BK418 := Aside0.mk hbox; have GW418 := gwE HB hg; have GE418 := gwE HB hg; replace HB := hbS HB hb; clear hb hbox hg) | ((with_reducible refine gate_callee (f := 119) rfl ?_); refine gL (some 7) Tryz.func119 #[.string a0] ?_; (with_reducible refine (spec_l1Words.calls k a0 t419 _ A2.out).mono ?_); rintro e w26 ⟨v420, rfl, ho0, hb⟩; refine ⟨_, rfl, ?_⟩; have HO421 := Aside0.mk (Kd.R_lower ho0 (below_size (bl HB))); replace BK418 := bkB BK418 hb; replace HB := hbS HB hb; (try clear hb); (try clear ho0); obtain ⟨Ao27, co27, eo27⟩ := Kd.R_slice HO421.out; subst eo27))
     replace HO421 := Aside0.mk (Kd.R_drew HO421.out)
     replace BK418 := Aside0.mk (blk_drew BK418.out)
     replace HB := Aside0.mk (below_drew1 HB.out)
     have p422 : 0 ≤ (0 : Int) := (by omega)
     have q422 : 0 < (t419.length : Int) := of_decide_eq_true da_
     obtain ⟨ad422, e422, hx422_0⟩ := Kd.at_string (Kd.R_reads' HO421.out).2.2 0 p422 q422
     cases e422
     have qi422 : (0 < t419.length) = True := eq_true (by omega)
     (try rw [show ((0 : Int)).toNat = 0 from rfl] at hx422_0)
     (try rw [Addr.add_zero'] at hx422_0)
     replace p422 := eq_true p422
     replace q422 := eq_true q422
     have p424 : 0 ≤ (1 : Int) := (by omega)
     have q424 : 1 < (t419.length : Int) := of_decide_eq_true da_
     obtain ⟨ad424, e424, hx424_0⟩ := Kd.at_string (Kd.R_reads' HO421.out).2.2 1 p424 q424
     obtain rfl : ad422 = ad424 := (by injection e424)
     (try simp only [show (1 : Int).toNat = 1 from rfl, Nat.reduceMul, Nat.reduceEqDiff, Go.Addr.add, ↓reduceIte] at hx424_0)
     have qi424 : (1 < t419.length) = True := eq_true (by omega)
     (try rw [show ((1 : Int)).toNat = 1 from rfl] at hx424_0)
     replace p424 := eq_true p424
     replace q424 := eq_true q424
     refine start_ (n := 11) (S := fun w' => w'.cell? ad422 = some (.string (rdOf ByteArray.empty t419 0)) ∧ w'.cell? ⟨ad422.block, ad422.off + 1, none⟩ = some (.string (rdOf ByteArray.empty t419 1))) (ds := []) #[false, false, false, false, false, false, false, false, false, false, false] (by kernel_rfl) rfl rfl ⟨hx422_0, hx424_0⟩ (fun hHeld => ?_); refine with_tabW spec_EndRead.tab4 spec_EndRead.bits4 (fun HT_ HW_ => ?_)
     generalize w26.drew = w28 at HO421 BK418 HB hx422_0 hx424_0 hHeld ⊢
     refine pu_ 0 (some 12) #[true, false, false, false, false, false, false, false, false, false, false] ?_
     refine pu_ 1 (some 13) #[true, true, false, false, false, false, false, false, false, false, false] ?_
     refine pu_ 4 (some 16) #[true, true, false, false, true, false, false, false, false, false, false] ?_
     refine pu_ 5 (some 17) #[true, true, false, false, true, true, false, false, false, false, false] ?_
     refine tk_ 2 (some 14) #[true, true, true, false, true, true, false, false, false, false, false] rfl (.inl ⟨rfl, m3_⟩) ?_
     refine tk_ 6 (some 18) #[true, true, true, false, true, true, true, false, false, false, false] rfl (.inl ⟨rfl, m3_⟩) ?_
     refine join_ (σ := Nat) 1 #[true, true, true, true, true, true, true, true, true, true, false] (fun s_ => [(15, .int .i64 t423), (19, .int .i64 t425), (5, .pointer (some ⟨s_, 0, none⟩)), (20, .agg #[.int .i64 t423, .int .i64 t425])]) (fun s_ w' => (w'.cell? ad422 = some (.string (rdOf ByteArray.empty t419 0)) ∧ w'.cell? ⟨ad422.block, ad422.off + 1, none⟩ = some (.string (rdOf ByteArray.empty t419 1))) ∧ (Kd.R Kd.string 9 w' w.heap.size (fun _ => True) (.slice (some ad422) t419.length co27) t419) ∧ (w'.heap[gb418]? = some (.cells #[.int .i64 0, .int .i64 0] 34 (0, 0))) ∧ (w'.heap[s_]? = some (.cells #[.int .i64 0, .int .i64 0] 34 (0, 0))) ∧ (w.heap.size ≤ s_) ∧ (w.heap.size ≤ s_) ∧ (gb418 ≠ s_) ∧ (s_ ≠ gb418) ∧ (Below w.heap.size w w')) ?_ ?_
     rotate_left
     ·intro hCont
      refine two_ (i := 3) (j := 9) (Ni := some 15) (Nj := some 5) #[true, true, true, true, true, true, true, false, false, false, false] #[true, true, true, false, true, true, true, false, false, true, false] rfl rfl rfl rfl (two_of HT_.out (by kernel_rfl)) (by decide) (by decide) (fun K hK => ?_) (fun K hK => ?_)
      ·skip
       refine gR Tryz.func120 #[.string (rdOf ByteArray.empty t419 0)] ?_
       with_reducible refine (spec_l1Num.calls k (rdOf ByteArray.empty t419 0) t423 _ A5.out).mono ?_
       rintro e w29 ⟨rfl, hb⟩
       have HS0_ := bch hb (hHeld.1)
       have HS1_ := bch hb (hHeld.2)
       refine ⟨_, rfl, ?_⟩
       replace HO421 := Aside0.mk (Kd.R_below (rs HO421) hb)
       replace BK418 := bkB BK418 hb
       replace HB := hbS HB hb
       (try clear hb)
       (try clear hb2)
       (try clear hk)
       (try clear hi)
       refine hK.out _ _ ⟨HS0_, HS1_⟩ (fun hHeld => ?_)
       clear hK K
       refine nm_ ?_
       refine two_ (i := 7) (j := 9) (Ni := some 19) (Nj := some 5) #[true, true, true, true, true, true, true, true, false, false, false] #[true, true, true, true, true, true, true, false, false, true, false] rfl rfl rfl rfl (two_of HT_.out (by kernel_rfl)) (by decide) (by decide) (fun K hK => ?_) (fun K hK => ?_)
       ·skip
        refine gR Tryz.func120 #[.string (rdOf ByteArray.empty t419 1)] ?_
        with_reducible refine (spec_l1Num.calls k (rdOf ByteArray.empty t419 1) t425 _ A7.out).mono ?_
        rintro e w30 ⟨rfl, hb⟩
        have HS0_ := bch hb (hHeld.1)
        have HS1_ := bch hb (hHeld.2)
        refine ⟨_, rfl, ?_⟩
        replace HO421 := Aside0.mk (Kd.R_below (rs HO421) hb)
        replace BK418 := bkB BK418 hb
        replace HB := hbS HB hb
        (try clear hb)
        (try clear hb2)
        (try clear hk)
        (try clear hi)
        refine hK.out _ _ ⟨HS0_, HS1_⟩ (fun hHeld => ?_)
        clear hK K
        refine nm_ ?_
        refine pu_ 8 (some 20) #[true, true, true, true, true, true, true, true, true, false, false] ?_
        refine on_ 9 (some 5) #[true, true, true, true, true, true, true, true, true, true, false] (fun K hK => ?_)
        refine box_step rfl (N := 5) rfl (cs := #[.int .i64 0, .int .i64 0]) (t := 34) hr_ ?_
        intro gb426 hg w31 hbox hb
        have HS0_ := bch hb (hHeld.1)
        have HS1_ := bch hb (hHeld.2)
        replace HO421 := Aside0.mk (Kd.R_below (rs HO421) hb)
        have BK426 := Aside0.mk hbox
        have GW426 := gwE HB hg
        have GE426 := gwE HB hg
        replace HB := hbS HB hb
        have NB418_426 := neL BK418 hg
        have NB426_418 := neG BK418 hg
        replace BK418 := bkB BK418 hb
        clear hb hbox hg
        refine hK.out _ _ ⟨HS0_, HS1_⟩ (fun hHeld => ?_)
        clear hK K
        refine nm_ ?_
        exact norm_ (by simp only [putAll, Act.put, List.setIfInBounds_toArray, List.set_cons_zero, List.set_cons_succ]) (hCont (gb426) _ ⟨hHeld, (rs HO421), (bk BK418), (bk BK426), GW426.out, GE426.out, NB418_426.out, NB426_418.out, (bl HB)⟩)
       ·skip
        refine box_step rfl (N := 5) rfl (cs := #[.int .i64 0, .int .i64 0]) (t := 34) hr_ ?_
        intro gb426 hg w30 hbox hb
        have HS0_ := bch hb (hHeld.1)
        have HS1_ := bch hb (hHeld.2)
        replace HO421 := Aside0.mk (Kd.R_below (rs HO421) hb)
        have BK426 := Aside0.mk hbox
        have GW426 := gwE HB hg
        have GE426 := gwE HB hg
        replace HB := hbS HB hb
        have NB418_426 := neL BK418 hg
        have NB426_418 := neG BK418 hg
        replace BK418 := bkB BK418 hb
        clear hb hbox hg
        refine hK.out _ _ ⟨HS0_, HS1_⟩ (fun hHeld => ?_)
        clear hK K
        refine nm_ ?_
        refine on_ 7 (some 19) #[true, true, true, true, true, true, true, true, false, true, false] (fun K hK => ?_)
        refine gR Tryz.func120 #[.string (rdOf ByteArray.empty t419 1)] ?_
        with_reducible refine (spec_l1Num.calls k (rdOf ByteArray.empty t419 1) t425 _ A7.out).mono ?_
        rintro e w31 ⟨rfl, hb⟩
        have HS0_ := bch hb (hHeld.1)
        have HS1_ := bch hb (hHeld.2)
        refine ⟨_, rfl, ?_⟩
        replace HO421 := Aside0.mk (Kd.R_below (rs HO421) hb)
        replace BK418 := bkB BK418 hb
        replace BK426 := bkB BK426 hb
        replace HB := hbS HB hb
        (try clear hb)
        (try clear hb2)
        (try clear hk)
        (try clear hi)
        refine hK.out _ _ ⟨HS0_, HS1_⟩ (fun hHeld => ?_)
        clear hK K
        refine nm_ ?_
        refine pu_ 8 (some 20) #[true, true, true, true, true, true, true, true, true, true, false] ?_
        exact norm_ (by simp only [putAll, Act.put, List.setIfInBounds_toArray, List.set_cons_zero, List.set_cons_succ]) (hCont (gb426) _ ⟨hHeld, (rs HO421), (bk BK418), (bk BK426), GW426.out, GE426.out, NB418_426.out, NB426_418.out, (bl HB)⟩)
      ·skip
       refine box_step rfl (N := 5) rfl (cs := #[.int .i64 0, .int .i64 0]) (t := 34) hr_ ?_
       intro gb426 hg w29 hbox hb
       have HS0_ := bch hb (hHeld.1)
       have HS1_ := bch hb (hHeld.2)
       replace HO421 := Aside0.mk (Kd.R_below (rs HO421) hb)
       have BK426 := Aside0.mk hbox
       have GW426 := gwE HB hg
       have GE426 := gwE HB hg
       replace HB := hbS HB hb
       have NB418_426 := neL BK418 hg
       have NB426_418 := neG BK418 hg
       replace BK418 := bkB BK418 hb
       clear hb hbox hg
       refine hK.out _ _ ⟨HS0_, HS1_⟩ (fun hHeld => ?_)
       clear hK K
       refine nm_ ?_
       refine on_ 3 (some 15) #[true, true, true, true, true, true, true, false, false, true, false] (fun K hK => ?_)
       refine gR Tryz.func120 #[.string (rdOf ByteArray.empty t419 0)] ?_
       with_reducible refine (spec_l1Num.calls k (rdOf ByteArray.empty t419 0) t423 _ A5.out).mono ?_
       rintro e w30 ⟨rfl, hb⟩
       have HS0_ := bch hb (hHeld.1)
       have HS1_ := bch hb (hHeld.2)
       refine ⟨_, rfl, ?_⟩
       replace HO421 := Aside0.mk (Kd.R_below (rs HO421) hb)
       replace BK418 := bkB BK418 hb
       replace BK426 := bkB BK426 hb
       replace HB := hbS HB hb
       (try clear hb)
       (try clear hb2)
       (try clear hk)
       (try clear hi)
       refine hK.out _ _ ⟨HS0_, HS1_⟩ (fun hHeld => ?_)
       clear hK K
       refine nm_ ?_
       refine on_ 7 (some 19) #[true, true, true, true, true, true, true, true, false, true, false] (fun K hK => ?_)
       refine gR Tryz.func120 #[.string (rdOf ByteArray.empty t419 1)] ?_
       with_reducible refine (spec_l1Num.calls k (rdOf ByteArray.empty t419 1) t425 _ A7.out).mono ?_
       rintro e w31 ⟨rfl, hb⟩
       have HS0_ := bch hb (hHeld.1)
       have HS1_ := bch hb (hHeld.2)
       refine ⟨_, rfl, ?_⟩
       replace HO421 := Aside0.mk (Kd.R_below (rs HO421) hb)
       replace BK418 := bkB BK418 hb
       replace BK426 := bkB BK426 hb
       replace HB := hbS HB hb
       (try clear hb)
       (try clear hb2)
       (try clear hk)
       (try clear hi)
       refine hK.out _ _ ⟨HS0_, HS1_⟩ (fun hHeld => ?_)
       clear hK K
       refine nm_ ?_
       refine pu_ 8 (some 20) #[true, true, true, true, true, true, true, true, true, true, false] ?_
       exact norm_ (by simp only [putAll, Act.put, List.setIfInBounds_toArray, List.set_cons_zero, List.set_cons_succ]) (hCont (gb426) _ ⟨hHeld, (rs HO421), (bk BK418), (bk BK426), GW426.out, GE426.out, NB418_426.out, NB426_418.out, (bl HB)⟩)
     rintro gb426 w32 ⟨hS_, h0_, h1_, h2_, h3_, h4_, h5_, h6_, h7_⟩
     have n0_ : Aside0 (Kd.R Kd.string 9 w32 w.heap.size (fun _ => True) (.slice (some ad422) t419.length co27) t419) := ⟨h0_⟩
     have n1_ : Aside0 (w32.heap[gb418]? = some (.cells #[.int .i64 0, .int .i64 0] 34 (0, 0))) := ⟨h1_⟩
     have n2_ : Aside0 (w32.heap[gb426]? = some (.cells #[.int .i64 0, .int .i64 0] 34 (0, 0))) := ⟨h2_⟩
     have n3_ : Aside0 (w.heap.size ≤ gb426) := ⟨h3_⟩
     have n4_ : Aside0 (w.heap.size ≤ gb426) := ⟨h4_⟩
     have n5_ : Aside0 (gb418 ≠ gb426) := ⟨h5_⟩
     have n6_ : Aside0 (gb426 ≠ gb418) := ⟨h6_⟩
     have n7_ : Aside0 (Below w.heap.size w w32) := ⟨h7_⟩
     clear HO421
     clear BK418
     clear HB
     clear h0_ h1_ h2_ h3_ h4_ h5_ h6_ h7_
     have HO421 := n0_
     have BK418 := n1_
     have BK426 := n2_
     have GW426 := n3_
     have GE426 := n4_
     have NB418_426 := n5_
     have NB426_418 := n6_
     have HB := n7_
     clear n0_ n1_ n2_ n3_ n4_ n5_ n6_ n7_
     have hHeld : w32.cell? ad422 = some (.string (rdOf ByteArray.empty t419 0)) ∧ w32.cell? ⟨ad422.block, ad422.off + 1, none⟩ = some (.string (rdOf ByteArray.empty t419 1)) := hS_
     refine norm_ (a' := ?_) ?_ ?_
     rotate_left
     ·simp only [putAll, Act.put, List.setIfInBounds_toArray, List.set_cons_zero, List.set_cons_succ]
      rfl
     refine on_ 10 none #[true, true, true, true, true, true, true, true, true, true, true] (fun K hK => ?_)
     have hs33 : w32.cell? ⟨gb426, 0, none⟩ = some (.int .i64 0) := bcell BK426 0
     have hfs33 := blk_frozen BK426.out 0
     have hns33_0 := NB418_426.out
     have hms33_0 := NB426_418.out
     have hs34 : w32.cell? ⟨gb426, 1, none⟩ = some (.int .i64 0) := bcell BK426 1
     have hfs34 := blk_frozen BK426.out 1
     have hns34_0 := NB418_426.out
     have hms34_0 := NB426_418.out
     refine skip_ (w1 := ?_) (by rfl) rfl ?_ ?_
     rotate_left
     ·go_simp
      rfl
     refine hK.out _ _ ⟨((cell_far (p := ⟨gb426, _, none⟩) (by first | exact Kd.own_blk (Kd.R_ne HO421.out BK426.out (by decide)) | (rw [add_block]; exact Kd.own_blk (Kd.R_ne HO421.out BK426.out (by decide))) | (show (Addr.add _ _).block ≠ _; rw [add_block]; exact Kd.own_blk (Kd.R_ne HO421.out BK426.out (by decide))) | (dsimp only; exact Kd.own_blk (Kd.R_ne HO421.out BK426.out (by decide)))) _).trans (((cell_far (p := ⟨gb426, _, none⟩) (by first | exact Kd.own_blk (Kd.R_ne HO421.out BK426.out (by decide)) | (rw [add_block]; exact Kd.own_blk (Kd.R_ne HO421.out BK426.out (by decide))) | (show (Addr.add _ _).block ≠ _; rw [add_block]; exact Kd.own_blk (Kd.R_ne HO421.out BK426.out (by decide))) | (dsimp only; exact Kd.own_blk (Kd.R_ne HO421.out BK426.out (by decide)))) _).trans (hHeld.1)))), ((cell_far (p := ⟨gb426, _, none⟩) (by first | exact Kd.own_blk (Kd.R_ne HO421.out BK426.out (by decide)) | (rw [add_block]; exact Kd.own_blk (Kd.R_ne HO421.out BK426.out (by decide))) | (show (Addr.add _ _).block ≠ _; rw [add_block]; exact Kd.own_blk (Kd.R_ne HO421.out BK426.out (by decide))) | (dsimp only; exact Kd.own_blk (Kd.R_ne HO421.out BK426.out (by decide)))) _).trans (((cell_far (p := ⟨gb426, _, none⟩) (by first | exact Kd.own_blk (Kd.R_ne HO421.out BK426.out (by decide)) | (rw [add_block]; exact Kd.own_blk (Kd.R_ne HO421.out BK426.out (by decide))) | (show (Addr.add _ _).block ≠ _; rw [add_block]; exact Kd.own_blk (Kd.R_ne HO421.out BK426.out (by decide))) | (dsimp only; exact Kd.own_blk (Kd.R_ne HO421.out BK426.out (by decide)))) _).trans (hHeld.2))))⟩ (fun hHeld => ?_)
     clear hK K
     refine done_ (done_of HT_.out (by kernel_rfl)) ?_
     have hnb35 := NB426_418.out
     have hnc35 := NB418_426.out
     have hcz36_0 := bcell BK426 0
     have hcz36_1 := bcell BK426 1
     have hfz36_0 := blk_frozen BK426.out 0
     have hfz36_1 := blk_frozen BK426.out 1
     try go_wp2_with (first | ((with_reducible refine gate_callee (f := 92) rfl ?_); refine gL (some 22) Tryz.func92 #[.agg #[.int .i64 t423, .int .i64 t425]] ?_; (with_reducible refine (spec_EndOk.calls t423 t425 false _ A8.out).mono ?_); rintro e w37 ⟨rfl, hb⟩; refine ⟨_, rfl, ?_⟩; replace HO421 := Aside0.mk (Kd.R_below (by (with_reducible repeat apply ru); exact (Kd.R_mono (Kd.R_far (p := ⟨gb426, 1, none⟩) (Kd.R_far (p := ⟨gb426, 0, none⟩) (Kd.R_types HO421.out BK426.out (by decide)) (fun _ hk => hk.2) (.int .i64 t423)) (fun _ hk => hk.2) (.int .i64 t425)) (fun _ h_ => h_.1))) hb); replace BK418 := Aside0.mk (blk_below (g := gb418) (o := .cells #[.int .i64 0, .int .i64 0] 34 (0, 0)) (by (with_reducible repeat refine bu ?_); refine blk_far ?_ NB418_426.out _; (with_reducible repeat refine bu ?_); refine blk_far ?_ NB418_426.out _; (with_reducible repeat refine bu ?_); exact BK418.out) hb); replace BK426 := Aside0.mk (blk_below (g := gb426) (o := .cells #[.int .i64 t423, .int .i64 t425] 34 (0, 0)) (by (with_reducible repeat refine bu ?_); refine blk_put (cs := #[.int .i64 t423, .int .i64 0]) ?_ 1 _ rfl; (with_reducible repeat refine bu ?_); refine blk_put (cs := #[.int .i64 0, .int .i64 0]) ?_ 0 _ rfl; (with_reducible repeat refine bu ?_); exact BK426.out) hb); replace HB := hbS HB hb; (try clear hb); (try clear hk); have hcz38_0 := bcell BK418 0; have hcz38_1 := bcell BK418 1; have hfz38_0 := blk_frozen BK418.out 0; have hfz38_1 := blk_frozen BK418.out 1))
     refine bodyPost_ret (results_ct rfl _ _ gb418 34 #[.int .i64 0, .int .i64 0] (0, 0) _ rfl (by (with_reducible repeat refine bu ?_); refine blk_put (cs := #[.int .i64 0, .int .i64 0]) ?_ 1 _ rfl; (with_reducible repeat refine bu ?_); refine blk_put (cs := #[.int .i64 0, .int .i64 0]) ?_ 0 _ rfl; (with_reducible repeat refine bu ?_); exact BK418.out) Tryz.underlying34 rfl (by kernel_rfl)) rfl ?_
     exact ⟨fi_, m2_⟩
   ·rw [if_neg c6] at H
    exact absurd H (by simp)
  ·rw [if_neg c4] at H
   exact absurd H (by simp)
 ·rw [if_neg c3] at H
  have c3b0 : ((t419.length : Int) == 2) = false := beq_eq_false_iff_ne.mpr c3
  have c3b1 : ((t419.length : Int) != 2) = true := bne_iff_ne.mpr c3
  simp only [Option.some.injEq, Prod.mk.injEq] at H
  obtain ⟨rfl, rfl, rfl⟩ := H
  go_enter Tryz.func107, Tryz.ntmps107
  go_wp2_with (first | ((with_reducible refine gate_dst (N := 2) rfl ?_); refine box_event rfl (N := 2) rfl (cs := #[.int .i64 0, .int .i64 0]) (t := 34) hr_ ?_; intro gb418 hg w39 hbox hb; have BK418 := Aside0.mk hbox; have GW418 := gwE HB hg; have GE418 := gwE HB hg; replace HB := hbS HB hb; clear hb hbox hg) | ((with_reducible refine gate_callee (f := 119) rfl ?_); refine gL (some 7) Tryz.func119 #[.string a0] ?_; (with_reducible refine (spec_l1Words.calls k a0 t419 _ A2.out).mono ?_); rintro e w40 ⟨v420, rfl, ho0, hb⟩; refine ⟨_, rfl, ?_⟩; have HO421 := Aside0.mk (Kd.R_lower ho0 (below_size (bl HB))); replace BK418 := bkB BK418 hb; replace HB := hbS HB hb; (try clear hb); (try clear ho0); obtain ⟨Ao41, co41, eo41⟩ := Kd.R_slice HO421.out; subst eo41; have hcz42_0 := bcell BK418 0; have hcz42_1 := bcell BK418 1; have hfz42_0 := blk_frozen BK418.out 0; have hfz42_1 := blk_frozen BK418.out 1))
  refine bodyPost_ret (results_ct rfl _ _ gb418 34 #[.int .i64 0, .int .i64 0] (0, 0) _ rfl (by (with_reducible repeat refine bu ?_); refine blk_put (cs := #[.int .i64 0, .int .i64 0]) ?_ 1 _ rfl; (with_reducible repeat refine bu ?_); refine blk_put (cs := #[.int .i64 0, .int .i64 0]) ?_ 0 _ rfl; (with_reducible repeat refine bu ?_); exact BK418.out) Tryz.underlying34 rfl (by kernel_rfl)) rfl ?_
  exact ⟨fi_, m2_⟩
def spec_LinSays.j0 : Nat → ByteArray → Bool → Option (Int × Int × Bool)
 | 0, _, _ => none
 | k + 1, x0, x13 => if x13 = true then (some (0, 0, false)) else (if 5 ≤ (x0.size : Int) then ((spec_EndRead.f k (x0.extract 5 x0.size)).bind fun bt429 => (if bt429.2.2 = true then ((spec_EndInside.f bt429.1 bt429.2.1).bind fun t433 => (if t433 = true then (some (bt429.1, bt429.2.1, true)) else (some (0, 0, false)))) else (some (0, 0, false)))) else (none))
def spec_LinSays.f (k : Nat) (a0 : ByteArray) : Option (Int × Int × Bool) := if (a0.size : Int) < 5 then (spec_LinSays.j0 k a0 true) else (if 0 ≤ 5 then (if 5 ≤ (a0.size : Int) then (spec_LinSays.j0 k a0 ((a0.extract 0 5).toList != ([112, 111, 114, 116, 32] : List UInt8))) else (none)) else (none))
theorem spec_LinSays.mono_l : ∀ k, (∀ y0 y1, LeO (spec_LinSays.j0 k y0 y1) (spec_LinSays.j0 (k + 1) y0 y1))
 | 0 => fun _ _ r h => by simp [spec_LinSays.j0] at h
 | k + 1 => by
  have ih0 := spec_LinSays.mono_l k
  ·intro y0 y1
   unfold spec_LinSays.j0
   repeat' first | (with_reducible first | exact ih0 _ _ | exact spec_EndRead.mono _ _ | exact LeO.refl _ | exact LeO.none _ | refine LeO.ite ?_ ?_ | refine LeO.bind ?_ (fun _ => ?_)) | exact ih0 _ _ | exact spec_EndRead.mono _ _ | exact LeO.none _ | refine LeO.ite ?_ ?_ | refine LeO.bind ?_ (fun _ => ?_)
theorem spec_LinSays.mono : ∀ a0 k, LeO (spec_LinSays.f k a0) (spec_LinSays.f (k + 1) a0) := by
 intro a0 k
 have ih0 := spec_LinSays.mono_l k
 unfold spec_LinSays.f
 repeat' first | (with_reducible first | exact ih0 _ _ | exact spec_EndRead.mono _ _ | exact LeO.refl _ | exact LeO.none _ | refine LeO.ite ?_ ?_ | refine LeO.bind ?_ (fun _ => ?_)) | exact ih0 _ _ | exact spec_EndRead.mono _ _ | exact LeO.none _ | refine LeO.ite ?_ ?_ | refine LeO.bind ?_ (fun _ => ?_)
set_option maxHeartbeats 8000000 in
set_option maxRecDepth 100000 in
theorem spec_LinSays.calls (k : Nat) (a0 : ByteArray) (r1 : Int) (r2 : Int) (r3 : Bool) (w : World) (h : spec_LinSays.f k a0 = some (r1, r2, r3)) :
  Calls Tryz.prog 79 #[.string a0] w fun e w' => e = .returned (.tuple #[.agg #[.int .i64 r1, .int .i64 r2], .bool r3]) ∧ Below w.heap.size w w' := by
 have hu34 := Tryz.underlying34
 have HB := Aside0.mk (Below.refl w.heap.size w)
 have H : (if (a0.size : Int) < 5 then (spec_LinSays.j0 k a0 true) else (if 0 ≤ 5 then (if 5 ≤ (a0.size : Int) then (spec_LinSays.j0 k a0 ((a0.extract 0 5).toList != ([112, 111, 114, 116, 32] : List UInt8))) else (none)) else (none))) = some (r1, r2, r3) := h
 clear h
 have HC2 := Aside0.mk H
 clear H
 go_enter Tryz.func79, Tryz.ntmps79
 go_upto_region 1 with (first | ((with_reducible refine gate_dst (N := 2) rfl ?_); refine box_event rfl (N := 2) rfl (cs := #[.int .i64 0, .int .i64 0]) (t := 34) hr_ ?_; intro gb428 hg w3 hbox hb; have BK428 := Aside0.mk hbox; have GW428 := gwE HB hg; have GE428 := gwE HB hg; replace HB := hbS HB hb; clear hb hbox hg))
 (try simp only [Act.put, List.setIfInBounds_toArray, List.set_cons_zero, List.set_cons_succ])
 go_cut [13] (fun v13 wc => ∃ (kq : Nat) (x13_1 : Bool), v13 = .bool x13_1 ∧ Aside0 (spec_LinSays.j0 kq a0 x13_1 = some (r1, r2, r3)) ∧ Aside0 (kq ≤ k) ∧ Aside0 (wc.heap[gb428]? = some (.cells #[.int .i64 0, .int .i64 0] 34 (0, 0))) ∧ Aside0 (Below w.heap.size w wc))
 case first =>
  have H := HC2.out
  clear HC2
  by_cases c4 : (a0.size : Int) < 5
  ·rw [if_pos c4] at H
   have c4b0 : decide ((a0.size : Int) < 5) = true := decide_eq_true c4
   have c4b1 : decide (a0.size < 5) = true := decide_eq_true (by omega)
   clear c4
   (first | rw [c4b0] | (simp only [i64_w, i32_w]; rw [c4b0]) | skip)
   have H' := Aside0.mk H
   clear H
   go_wp2
   go_meet
   case rel => exact ⟨_, (true), rs_, H', ⟨by first | omega | exact Nat.le_refl _⟩, ⟨bk BK428⟩, ⟨m2_⟩⟩
  ·rw [if_neg c4] at H
   have c4b0 : decide ((a0.size : Int) < 5) = false := decide_eq_false c4
   have c4b1 : decide (a0.size < 5) = false := decide_eq_false (by omega)
   clear c4
   (first | rw [c4b0] | (simp only [i64_w, i32_w]; rw [c4b0]) | skip)
   by_cases c5 : 0 ≤ 5
   ·rw [if_pos c5] at H
    have c5b0 := eq_true c5
    have c5b1 : decide (0 ≤ 5) = true := decide_eq_true c5
    clear c5
    by_cases c6 : 5 ≤ (a0.size : Int)
    ·rw [if_pos c6] at H
     have c6b0 := eq_true c6
     have c6b1 : decide (5 ≤ (a0.size : Int)) = true := decide_eq_true c6
     clear c6
     have H' := Aside0.mk H
     clear H
     go_wp2
     go_meet
     case rel => exact ⟨_, (((a0.extract 0 5).toList != ([112, 111, 114, 116, 32] : List UInt8))), rs_, H', ⟨by first | omega | exact Nat.le_refl _⟩, ⟨bk BK428⟩, ⟨m2_⟩⟩
    ·rw [if_neg c6] at H
     exact absurd H (by simp)
   ·rw [if_neg c5] at H
    exact absurd H (by simp)
 case rest =>
  clear HC2
  try clear p2
  try clear c4
  try clear c4b0
  try clear c4b1
  try clear c5
  try clear c5b0
  try clear c5b1
  try clear c6
  try clear c6b0
  try clear c6b1
  obtain ⟨kq, x13_1, rfl, HA, HJ1, BK428, HB⟩ := hcut
  cases kq with
  | zero => exact absurd HA.out (by simp [spec_LinSays.j0])
  | succ kj1 =>
   have H := HA.out
   clear HA
   simp only [spec_LinSays.j0] at H
   by_cases c7 : x13_1 = true
   ·subst c7
    have H1 : (some (0, 0, false)) = some (r1, r2, r3) := by rw [if_pos rfl] at H; exact H
    clear H
    have H := H1
    clear H1
    simp only [Option.some.injEq, Prod.mk.injEq] at H
    obtain ⟨rfl, rfl, rfl⟩ := H
    have hcz8_0 := bcell BK428 0
    have hcz8_1 := bcell BK428 1
    have hfz8_0 := blk_frozen BK428.out 0
    have hfz8_1 := blk_frozen BK428.out 1
    go_wp2
    refine bodyPost_ret (results_ct rfl _ _ gb428 34 #[.int .i64 0, .int .i64 0] (0, 0) _ rfl (by (with_reducible repeat refine bu ?_); refine blk_put (cs := #[.int .i64 0, .int .i64 0]) ?_ 1 _ rfl; (with_reducible repeat refine bu ?_); refine blk_put (cs := #[.int .i64 0, .int .i64 0]) ?_ 0 _ rfl; (with_reducible repeat refine bu ?_); exact BK428.out) Tryz.underlying34 rfl (by kernel_rfl)) rfl ?_
    exact ⟨fi_, m2_⟩
   ·replace c7 := Bool.eq_false_iff.mpr c7
    subst c7
    have H1 : (if 5 ≤ (a0.size : Int) then ((spec_EndRead.f kj1 (a0.extract 5 a0.size)).bind fun bt429 => (if bt429.2.2 = true then ((spec_EndInside.f bt429.1 bt429.2.1).bind fun t433 => (if t433 = true then (some (bt429.1, bt429.2.1, true)) else (some (0, 0, false)))) else (some (0, 0, false)))) else (none)) = some (r1, r2, r3) := by rw [if_neg (show ¬ (false = true) by decide)] at H; exact H
    clear H
    have H := H1
    clear H1
    by_cases c9 : 5 ≤ (a0.size : Int)
    ·rw [if_pos c9] at H
     have c9b0 := eq_true c9
     have c9b1 : decide (5 ≤ (a0.size : Int)) = true := decide_eq_true c9
     clear c9
     replace H := Option.bind_eq_some_iff.mp H
     obtain ⟨⟨t429, t430, t431⟩, A100, H⟩ := H
     try dsimp only at H
     have A10 := Aside0.mk A100
     clear A100
     by_cases c11 : t431 = true
     ·subst c11
      have H1 : ((spec_EndInside.f t429 t430).bind fun t433 => (if t433 = true then (some (t429, t430, true)) else (some (0, 0, false)))) = some (r1, r2, r3) := by rw [if_pos rfl] at H; exact H
      clear H
      have H := H1
      clear H1
      replace H := Option.bind_eq_some_iff.mp H
      obtain ⟨t433, A120, H⟩ := H
      try dsimp only at H
      have A12 := Aside0.mk A120
      clear A120
      by_cases c13 : t433 = true
      ·subst c13
       have H1 : (some (t429, t430, true)) = some (r1, r2, r3) := by rw [if_pos rfl] at H; exact H
       clear H
       have H := H1
       clear H1
       simp only [Option.some.injEq, Prod.mk.injEq] at H
       obtain ⟨rfl, rfl, rfl⟩ := H
       go_wp2_with (first | ((with_reducible refine gate_callee (f := 107) rfl ?_); refine gL (some 18) Tryz.func107 #[.string (a0.extract 5 a0.size)] ?_; (with_reducible refine (spec_EndRead.calls kj1 (a0.extract 5 a0.size) t429 t430 true _ A10.out).mono ?_); rintro e w14 ⟨rfl, hb⟩; refine ⟨_, rfl, ?_⟩; replace BK428 := bkB BK428 hb; replace HB := hbS HB hb; (try clear hb)) | ((with_reducible refine gate_dst (N := 4) rfl ?_); refine box_event rfl (N := 4) rfl (cs := #[.int .i64 0, .int .i64 0]) (t := 34) hr_ ?_; intro gb432 hg w15 hbox hb; have BK432 := Aside0.mk hbox; have GW432 := gwE HB hg; have GE432 := gwE HB hg; replace HB := hbS HB hb; have NB428_432 := neL BK428 hg; have NB432_428 := neG BK428 hg; replace BK428 := bkB BK428 hb; clear hb hbox hg; have hnb16 := NB432_428.out; have hnc16 := NB428_432.out; have hcz17_0 := bcell BK432 0; have hcz17_1 := bcell BK432 1; have hfz17_0 := blk_frozen BK432.out 0; have hfz17_1 := blk_frozen BK432.out 1) | (go_at_call 48; (with_reducible refine (spec_EndInside.calls t429 t430 true _ A12.out).mono ?_); rintro e w18 ⟨rfl, hb⟩; replace BK428 := Aside0.mk (blk_below (g := gb428) (o := .cells #[.int .i64 0, .int .i64 0] 34 (0, 0)) (by (with_reducible repeat refine bu ?_); refine blk_far ?_ NB428_432.out _; (with_reducible repeat refine bu ?_); refine blk_far ?_ NB428_432.out _; (with_reducible repeat refine bu ?_); exact BK428.out) hb); replace BK432 := Aside0.mk (blk_below (g := gb432) (o := .cells #[.int .i64 t429, .int .i64 t430] 34 (0, 0)) (by (with_reducible repeat refine bu ?_); refine blk_put (cs := #[.int .i64 t429, .int .i64 0]) ?_ 1 _ rfl; (with_reducible repeat refine bu ?_); refine blk_put (cs := #[.int .i64 0, .int .i64 0]) ?_ 0 _ rfl; (with_reducible repeat refine bu ?_); exact BK432.out) hb); replace HB := hbS HB hb; (try clear hb); have hcz19_0 := bcell BK432 0; have hcz19_1 := bcell BK432 1; have hfz19_0 := blk_frozen BK432.out 0; have hfz19_1 := blk_frozen BK432.out 1; have hcz20_0 := bcell BK428 0; have hcz20_1 := bcell BK428 1; have hfz20_0 := blk_frozen BK428.out 0; have hfz20_1 := blk_frozen BK428.out 1))
       refine bodyPost_ret (results_ct rfl _ _ gb428 34 #[.int .i64 t429, .int .i64 t430] (0, 0) _ rfl (by (with_reducible repeat refine bu ?_); refine blk_put (cs := #[.int .i64 t429, .int .i64 0]) ?_ 1 _ rfl; (with_reducible repeat refine bu ?_); refine blk_put (cs := #[.int .i64 0, .int .i64 0]) ?_ 0 _ rfl; (with_reducible repeat refine bu ?_); exact BK428.out) Tryz.underlying34 rfl (by kernel_rfl)) rfl ?_
       exact ⟨fi_, m2_⟩
      ·replace c13 := Bool.eq_false_iff.mpr c13
       subst c13
       have H1 : (some (0, 0, false)) = some (r1, r2, r3) := by rw [if_neg (show ¬ (false = true) by decide)] at H; exact H
       clear H
       have H := H1
       clear H1
       simp only [Option.some.injEq, Prod.mk.injEq] at H
       obtain ⟨rfl, rfl, rfl⟩ := H
       go_wp2_with (first | ((with_reducible refine gate_callee (f := 107) rfl ?_); refine gL (some 18) Tryz.func107 #[.string (a0.extract 5 a0.size)] ?_; (with_reducible refine (spec_EndRead.calls kj1 (a0.extract 5 a0.size) t429 t430 true _ A10.out).mono ?_); rintro e w21 ⟨rfl, hb⟩; refine ⟨_, rfl, ?_⟩; replace BK428 := bkB BK428 hb; replace HB := hbS HB hb; (try clear hb)) | ((with_reducible refine gate_dst (N := 4) rfl ?_); refine box_event rfl (N := 4) rfl (cs := #[.int .i64 0, .int .i64 0]) (t := 34) hr_ ?_; intro gb432 hg w22 hbox hb; have BK432 := Aside0.mk hbox; have GW432 := gwE HB hg; have GE432 := gwE HB hg; replace HB := hbS HB hb; have NB428_432 := neL BK428 hg; have NB432_428 := neG BK428 hg; replace BK428 := bkB BK428 hb; clear hb hbox hg; have hnb23 := NB432_428.out; have hnc23 := NB428_432.out; have hcz24_0 := bcell BK432 0; have hcz24_1 := bcell BK432 1; have hfz24_0 := blk_frozen BK432.out 0; have hfz24_1 := blk_frozen BK432.out 1) | (go_at_call 48; (with_reducible refine (spec_EndInside.calls t429 t430 false _ A12.out).mono ?_); rintro e w25 ⟨rfl, hb⟩; replace BK428 := Aside0.mk (blk_below (g := gb428) (o := .cells #[.int .i64 0, .int .i64 0] 34 (0, 0)) (by (with_reducible repeat refine bu ?_); refine blk_far ?_ NB428_432.out _; (with_reducible repeat refine bu ?_); refine blk_far ?_ NB428_432.out _; (with_reducible repeat refine bu ?_); exact BK428.out) hb); replace BK432 := Aside0.mk (blk_below (g := gb432) (o := .cells #[.int .i64 t429, .int .i64 t430] 34 (0, 0)) (by (with_reducible repeat refine bu ?_); refine blk_put (cs := #[.int .i64 t429, .int .i64 0]) ?_ 1 _ rfl; (with_reducible repeat refine bu ?_); refine blk_put (cs := #[.int .i64 0, .int .i64 0]) ?_ 0 _ rfl; (with_reducible repeat refine bu ?_); exact BK432.out) hb); replace HB := hbS HB hb; (try clear hb); have hcz26_0 := bcell BK428 0; have hcz26_1 := bcell BK428 1; have hfz26_0 := blk_frozen BK428.out 0; have hfz26_1 := blk_frozen BK428.out 1))
       refine bodyPost_ret (results_ct rfl _ _ gb428 34 #[.int .i64 0, .int .i64 0] (0, 0) _ rfl (by (with_reducible repeat refine bu ?_); refine blk_put (cs := #[.int .i64 0, .int .i64 0]) ?_ 1 _ rfl; (with_reducible repeat refine bu ?_); refine blk_put (cs := #[.int .i64 0, .int .i64 0]) ?_ 0 _ rfl; (with_reducible repeat refine bu ?_); exact BK428.out) Tryz.underlying34 rfl (by kernel_rfl)) rfl ?_
       exact ⟨fi_, m2_⟩
     ·replace c11 := Bool.eq_false_iff.mpr c11
      subst c11
      have H1 : (some (0, 0, false)) = some (r1, r2, r3) := by rw [if_neg (show ¬ (false = true) by decide)] at H; exact H
      clear H
      have H := H1
      clear H1
      simp only [Option.some.injEq, Prod.mk.injEq] at H
      obtain ⟨rfl, rfl, rfl⟩ := H
      go_wp2_with (first | ((with_reducible refine gate_callee (f := 107) rfl ?_); refine gL (some 18) Tryz.func107 #[.string (a0.extract 5 a0.size)] ?_; (with_reducible refine (spec_EndRead.calls kj1 (a0.extract 5 a0.size) t429 t430 false _ A10.out).mono ?_); rintro e w27 ⟨rfl, hb⟩; refine ⟨_, rfl, ?_⟩; replace BK428 := bkB BK428 hb; replace HB := hbS HB hb; (try clear hb)) | ((with_reducible refine gate_dst (N := 4) rfl ?_); refine box_event rfl (N := 4) rfl (cs := #[.int .i64 0, .int .i64 0]) (t := 34) hr_ ?_; intro gb432 hg w28 hbox hb; have BK432 := Aside0.mk hbox; have GW432 := gwE HB hg; have GE432 := gwE HB hg; replace HB := hbS HB hb; have NB428_432 := neL BK428 hg; have NB432_428 := neG BK428 hg; replace BK428 := bkB BK428 hb; clear hb hbox hg; have hnb29 := NB432_428.out; have hnc29 := NB428_432.out; have hcz30_0 := bcell BK432 0; have hcz30_1 := bcell BK432 1; have hfz30_0 := blk_frozen BK432.out 0; have hfz30_1 := blk_frozen BK432.out 1; have hcz31_0 := bcell BK428 0; have hcz31_1 := bcell BK428 1; have hfz31_0 := blk_frozen BK428.out 0; have hfz31_1 := blk_frozen BK428.out 1))
      refine bodyPost_ret (results_ct rfl _ _ gb428 34 #[.int .i64 0, .int .i64 0] (0, 0) _ rfl (by (with_reducible repeat refine bu ?_); refine blk_put (cs := #[.int .i64 0, .int .i64 0]) ?_ 1 _ rfl; (with_reducible repeat refine bu ?_); refine blk_put (cs := #[.int .i64 0, .int .i64 0]) ?_ 0 _ rfl; (with_reducible repeat refine bu ?_); refine blk_far ?_ NB428_432.out _; (with_reducible repeat refine bu ?_); refine blk_far ?_ NB428_432.out _; (with_reducible repeat refine bu ?_); exact BK428.out) Tryz.underlying34 rfl (by kernel_rfl)) rfl ?_
      exact ⟨fi_, m2_⟩
    ·rw [if_neg c9] at H
     exact absurd H (by simp)
end Go.Proofs.YtffmbccgcaghjaaGreatDoor.P
