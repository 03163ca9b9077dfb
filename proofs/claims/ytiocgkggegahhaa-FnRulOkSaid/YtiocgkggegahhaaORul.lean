/- The contract of impl.rulesOk: whether rules are ok, each by itself, and not too many. -/
import Derived.Test.YtiocgkggegahhaaOMath1
import Derived.Lib.Hide
namespace Go.Proofs.Ytiocgkggegahhaa.P
open Go.RowKit Go.Proofs.YtiocgkggegahhaaW.PrintWords Go.Proofs.YtiocgkggegahhaaW.PrintLast Go.Proofs.YtiocgkggegahhaaW.PrintMore
set_option linter.unusedVariables false
set_option linter.unusedSimpArgs false

def impl_rulesOk.f (l : List S24) : Option Bool := some (decide ((l.length : Int) ≤ 5) && l.all ruleOk)

set_option maxRecDepth 100000 in
theorem rulesOk_cl (x : S24) (w : World) :
    Calls Try.prog 85 #[.agg #[.bool x.f0, .int .i64 x.f1, .int .i64 x.f2, .int .i64 x.f3, .int .i64 x.f4, .int .i64 x.f5, .int .i64 x.f6]] w fun e w' => e = .returned (.bool (!(ruleOk x))) ∧ Below w.heap.size w w' := by
  have HF := Lib.hid (RulOk_f x)
  go_enter Try.func85, Try.ntmps85
  go_wp2_with (go_at_call 12; refine (impl_RulOk.calls _ _ _ _ _ _ _ _ _ HF.out).mono ?_; rintro e w' ⟨rfl, hb⟩)
  go_ret
  exact ⟨rfl, ((Below.refl _ _).alloc (Nat.le_refl _) _).trans (hb.mono (by simp))⟩

def IdxPost (b : Bool) (w : World) (e : Ending) (w' : World) : Prop := ∃ n : Int, e = .returned (.int .i64 n) ∧ decide (0 ≤ n) = b ∧ Below w.heap.size w w'
set_option maxRecDepth 100000 in
set_option maxHeartbeats 1000000 in
theorem rulesOk_idx (A0 : Option Addr) (c0 : Nat) (l0 : List S24) (w : World) (hr0 : Kd.C k24 w A0 l0.length l0) :
    Calls Try.prog 100 #[.slice A0 l0.length c0, .func (.func 85) #[] #[]] w (IdxPost (!(l0.all ruleOk)) w) := by
  have hlen : l0.length ≤ 9223372036854775807 := hr0.2.1
  have HR := Lib.hid hr0
  clear hr0
  go_enter Try.func100, Try.ntmps100
  go_wp2
  go_loopw [8] (fun i wr => ∃ k : Nat, k ≤ l0.length ∧ i = .int .i64 k ∧ Aside0 ((l0.take k).all ruleOk = true) ∧ Aside0 (Below w.heap.size w wr)) (fun i _ => l0.length - (intOf i).toNat)
  case atStart => exact ⟨0, Nat.zero_le _, rfl, ⟨by simp⟩, ⟨Below.refl _ _⟩⟩
  case round =>
    obtain ⟨k, hk, rfl, ha, hb⟩ := hrel
    by_cases hlt : k < l0.length
    · obtain ⟨ad, e, h0, h1, h2, h3, h4, h5, h6⟩ := at_T24 (Kd.C_below HR.out hb.out) k (by omega) (by omega)
      have hx : rd_T24 l0 k = l0[k] := by simp [rd_T24, List.getD_eq_getElem?_getD, hlt]
      have htk := List.take_succ_eq_append_getElem hlt
      rw [← hx] at htk
      obtain ⟨x, hxx⟩ : ∃ x, rd_T24 l0 k = x := ⟨_, rfl⟩
      rw [hxx] at h0 h1 h2 h3 h4 h5 h6 hx htk
      have hmem : x ∈ l0 := by rw [hx]; exact List.getElem_mem _
      have HT := Lib.hid htk
      have HM := Lib.hid hmem
      clear hxx hx htk hmem
      cases e
      rw [Int.toNat_natCast] at h0 h1 h2 h3 h4 h5 h6
      cases hok : ruleOk x with
      | true =>
        have HO := Lib.hid hok
        clear hok
        go_wp2_with (go_at_call 85; refine (rulesOk_cl x _).mono ?_; rw [HO.out]; rintro e w' ⟨rfl, hb1⟩)
        go_roundw
        case rel => exact ⟨k + 1, by omega, by go_num, ⟨by rw [HT.out, List.all_append, ha.out]; simp [HO.out]⟩, ⟨hb.out.trans (hb1.mono hb.out.size)⟩⟩
        case measure => simp [intOf]; omega
      | false =>
        have HO := Lib.hid hok
        clear hok
        go_wp2_with (go_at_call 85; refine (rulesOk_cl x _).mono ?_; rw [HO.out]; rintro e w' ⟨rfl, hb1⟩)
        go_ret
        refine ⟨k, rfl, ?_, hb.out.trans (hb1.mono hb.out.size)⟩
        have : l0.all ruleOk = false := by
          rw [List.all_eq_false]
          exact ⟨x, HM.out, by simp [HO.out]⟩
        simp [this]
    · have hk2 : k = l0.length := by omega
      subst hk2
      go_wp2
      go_ret
      refine ⟨-1, rfl, ?_, hb.out⟩
      have := ha.out
      rw [List.take_length] at this
      simp [this]

def BoolPost (b : Bool) (w : World) (e : Ending) (w' : World) : Prop := e = .returned (.bool b) ∧ Below w.heap.size w w'
set_option maxRecDepth 100000 in
theorem rulesOk_has (A0 : Option Addr) (c0 : Nat) (l0 : List S24) (w : World) (hr0 : Kd.C k24 w A0 l0.length l0) :
    Calls Try.prog 84 #[.slice A0 l0.length c0, .func (.func 85) #[] #[]] w (BoolPost (!(l0.all ruleOk)) w) := by
  have HR := Lib.hid hr0
  clear hr0
  go_enter Try.func84, Try.ntmps84
  go_wp2_with (go_at_call 100; refine (rulesOk_idx A0 c0 l0 _ HR.out).mono ?_; rintro e w' ⟨n, rfl, hn, hb⟩; have HN := Lib.hid hn; clear hn)
  go_ret
  exact ⟨by rw [← HN.out]; rfl, hb⟩

set_option maxRecDepth 100000 in
theorem impl_rulesOk.calls (A0 : Option Addr) (c0 : Nat) (l0 : List (S24)) (r : Bool) (w : World) (hr0 : Kd.C k24 w A0 l0.length l0) (hc0 : l0.length ≤ c0) (h : impl_rulesOk.f l0 = some r) :
    Calls Try.prog 51 #[.slice A0 l0.length c0] w fun e w' => e = .returned (.bool r) ∧ Below w.heap.size w w' := by
  have hlen : l0.length ≤ 9223372036854775807 := hr0.2.1
  have HH := Lib.hid (Option.some.inj h)
  have HR := Lib.hid hr0
  clear hr0 h hc0
  by_cases h5 : (l0.length : Int) ≤ 5
  · have h5' : decide ((l0.length : Int) ≤ 5) = true := decide_eq_true h5
    have H5 := Lib.hid h5'
    clear h5'
    go_enter Try.func51, Try.ntmps51
    go_wp2_with (go_at_call 84; refine (rulesOk_has A0 c0 l0 _ HR.out).mono ?_; rintro e w' ⟨rfl, hb⟩)
    go_ret
    exact ⟨by rw [← HH.out, H5.out]; simp, hb⟩
  · have h5' : decide ((l0.length : Int) ≤ 5) = false := decide_eq_false h5
    have H5 := Lib.hid h5'
    clear h5'
    go_enter Try.func51, Try.ntmps51
    go_wp2_with fail
    go_ret
    exact ⟨by rw [← HH.out, H5.out]; simp, Below.refl _ _⟩
end Go.Proofs.Ytiocgkggegahhaa.P
