import Derived.Test.YtakfmcpjnkagmaaGreatDoorGLawFnExactPosOutx3
import Derived.Lib.CutLaws
import Derived.Lib.CountLaws
import Derived.Lib.SplitLaws
import Derived.Lib.LastIndexByte
import Derived.RangeFuncNested
import Derived.RangeFuncBound
import Derived.RangeFuncCalls
import Derived.RangeFuncLeaves
import Derived.Shelf.Abstract
import Derived.OwnWalkIn
import Derived.TacticsInMore
import Derived.LoopNIn
import Derived.LoopIn
import Derived.Lib.Hide
import Derived.Laws.EntriesVeiled
import Derived.Shelf.Strings.BuilderK
import Derived.Shelf.LaysM
import Derived.Shelf.LaysC
import Derived.Shelf.Strings.Count
import Derived.Shelf.Strings.LastIndex
import Derived.Test.YtakfmcpjnkagmaaGreatDoorProg
import Derived.Shelf.Vars
import Derived.Shelf.Lays
import Derived.RangeFuncBox
import Derived.Maps.AppendAt
import Derived.Test.YtakfmcpjnkagmaaGreatDoorUFnExactPosOutOwn
namespace Go.Proofs.YtakfmcpjnkagmaaGreatDoor.P
open Go.Proofs.YtakfmcpjnkagmaaGreatDoorUFnExactPosOut.PrintLast Go.Proofs.YtakfmcpjnkagmaaGreatDoorUFnExactPosOut.PrintMore Go.Proofs.YtakfmcpjnkagmaaGreatDoorUFnExactPosOut.PrintWords Go.RowKit
set_option linter.unusedVariables false
set_option linter.unusedSimpArgs false
theorem specEndOk_f (a p : Int) : spec_EndOk.f a p = some (endOkB a p) := by
  unfold spec_EndOk.f endOkB
  rw [specEndInside_f, specEndOutside_f, l1In_f]
  unfold endIn endOut
  by_cases h3 : a = 50 <;> cases inB a 1 9 <;> cases inB a 100 109 <;> cases inB p 1 999 <;> simp [h3]
theorem specEndRead_a (s : ByteArray) (hs : s.size ≤ 1048576) : Ans (fun k => spec_EndRead.f k s) (fun r => r = match readEndW s with | some (a, p) => (a, p, true) | none => (0, 0, false)) := by
  unfold spec_EndRead.f
  refine Ans.bind (words_a s hs) ?_
  rintro v rfl
  by_cases h2 : (wordsB s).length = 2
  · obtain ⟨b1, b2, hw⟩ : ∃ b1 b2, wordsB s = [b1, b2] := by
      generalize wordsB s = l at h2
      match l, h2 with
      | [b1, b2], _ => exact ⟨b1, b2, rfl⟩
    rw [hw]
    refine Ans.pos (by simp) (Ans.pos (by simp) ?_)
    refine Ans.bind (num_a _) ?_
    intro x1 h1
    refine Ans.pos (by simp) (Ans.bind (num_a _) ?_)
    intro x2 h2
    rw [specEndOk_f]
    have hk := endW_key hw (x1 := x1) (x2 := x2) h1 h2
    refine Ans.bsome ?_
    cases hb : endOkB x1 x2 with
    | true => rw [hb] at hk; refine Ans.pos rfl (Ans.pure ?_); rw [hk]; rfl
    | false => rw [hb] at hk; refine Ans.neg (by simp) (Ans.pure ?_); rw [hk]; rfl
  · refine Ans.neg (by omega) (Ans.pure ?_)
    rw [endW_len h2]
def saysW (s : ByteArray) : Option (Int × Int) := if Lib.hasPrefix s.data.toList portL = true then (match readEndW (trimW s) with | some (a, p) => if endIn a p then some (a, p) else none | none => none) else none
def saysT (s : ByteArray) : Int × Int × Bool := match saysW s with | some (a, p) => (a, p, true) | none => (0, 0, false)
theorem pre_split (s : ByteArray) : Lib.hasPrefix s.data.toList portL = true ↔ (5 ≤ s.size ∧ (s.extract 0 5).toList = [112, 111, 114, 116, 32]) := by
  have hl : s.data.toList.length = s.size := by rw [Array.length_toList]; rfl
  unfold Lib.hasPrefix portL
  rw [List.isPrefixOf_iff_prefix, List.prefix_iff_eq_take]
  rw [ByteArray.toList_eq, Lib.extract_data]
  simp only [List.drop_zero, List.length_cons, List.length_nil]
  constructor
  · intro h
    have := congrArg List.length h
    simp only [List.length_take, List.length_cons, List.length_nil] at this
    exact ⟨by omega, h.symm⟩
  · rintro ⟨_, h⟩; exact h.symm
theorem trim_extract {s : ByteArray} (h : Lib.hasPrefix s.data.toList portL = true) : s.extract 5 s.size = trimW s := by
  have hl : s.data.toList.length = s.size := by rw [Array.length_toList]; rfl
  apply ba_ext
  unfold trimW Lib.trimPrefix
  rw [if_pos h, Lib.extract_data]
  simp only [portL, List.length_cons, List.length_nil]
  rw [List.take_of_length_le (by rw [List.length_drop]; omega)]
theorem implLinSays_f {s : ByteArray} (hs : s.size ≤ 1048576) : impl_LinSays.f s = some (saysT s) := by
  unfold impl_LinSays.f impl_said.f
  rw [if_pos (by omega), Option.bind_some]
  unfold saysT saysW saidW
  cases hr : readEndW (trimW s) with
  | none => simp
  | some r =>
    obtain ⟨a, p⟩ := r
    simp only
    cases hp : Lib.hasPrefix s.data.toList portL with
    | false => simp
    | true =>
      simp only [if_true]
      rw [EndInside_f, Option.bind_some]
      cases hi : endIn a p <;> simp
theorem specLinSays_a (s : ByteArray) (hs : s.size ≤ 1048576) : Ans (fun k => spec_LinSays.f k s) (fun r => r = saysT s) := by
  unfold spec_LinSays.f
  have J : ∀ (c : Bool), (c = true → Lib.hasPrefix s.data.toList portL = false) → (c = false → Lib.hasPrefix s.data.toList portL = true) → Ans (fun k => spec_LinSays.j0 k s c) (fun r => r = saysT s) := by
    intro c h1 h2
    refine Ans.succ ?_
    unfold spec_LinSays.j0
    cases c with
    | true =>
      refine Ans.pos rfl (Ans.pure ?_)
      unfold saysT saysW
      rw [h1 rfl]; rfl
    | false =>
      have hp := h2 rfl
      have h5 := ((pre_split s).mp hp).1
      refine Ans.neg (by simp) (Ans.pos (by omega) ?_)
      rw [trim_extract hp]
      refine Ans.bind (specEndRead_a (trimW s) (Nat.le_trans (trim_size s) hs)) ?_
      rintro v rfl
      unfold saysT saysW
      rw [if_pos hp]
      cases hr : readEndW (trimW s) with
      | none => exact Ans.neg (by simp) (Ans.pure rfl)
      | some r =>
        obtain ⟨a, p⟩ := r
        simp only
        rw [specEndInside_f]
        cases hi : endIn a p with
        | true => exact Ans.pos (by simp) (Ans.bsome (Ans.pos rfl (Ans.pure (by simp [hi]))))
        | false => exact Ans.pos (by simp) (Ans.bsome (Ans.neg (by simp) (Ans.pure (by simp [hi]))))
  refine Ans.ite (fun h => ?_) (fun h => ?_)
  · refine J true (fun _ => ?_) (fun h => by cases h)
    cases hp : Lib.hasPrefix s.data.toList portL with
    | false => rfl
    | true => have := ((pre_split s).mp hp).1; omega
  · refine Ans.pos (by omega) (Ans.pos (by omega) (J _ (fun hc => ?_) (fun hc => ?_)))
    · cases hp : Lib.hasPrefix s.data.toList portL with
      | false => rfl
      | true => rw [((pre_split s).mp hp).2] at hc; simp at hc
    · exact (pre_split s).mpr ⟨by omega, bne_eq_false_iff_eq.mp hc⟩
def lportW (a p : Int) : ByteArray := if endOkB a p then (⟨#[112, 111, 114, 116, 32]⟩ : ByteArray) ++ etext a p else ⟨#[]⟩
theorem etext_size (a p : Int) : (etext a p).size ≤ 7 := by
  unfold etext
  cases hk : endOkB a p with
  | false => exact Nat.zero_le _
  | true =>
    have hb := endOkB_le hk
    have h1 := numB_size (n := a) (by omega) (by omega)
    have h2 := numB_size (n := p) (by omega) (by omega)
    have h3 : ((⟨#[32]⟩ : ByteArray)).size = 1 := rfl
    simp only [if_true, ByteArray.size_append]
    omega
theorem implLinPort_f (a p : Int) : impl_LinPort.f a p = some (lportW a p) := by
  unfold impl_LinPort.f lportW
  rw [EndOk_f, Option.bind_some]
  have hz := etext_size a p
  cases hk : endOkB a p with
  | false => simp
  | true =>
    simp only [if_true]
    rw [EndText_f, Option.bind_some, if_pos (by omega)]
theorem specEndText_a (a p : Int) : Ans (fun k => spec_EndText.f k a p) (fun r => r = etext a p) := by
  unfold spec_EndText.f etext
  rw [specEndOk_f]
  refine Ans.bsome ?_
  cases hk : endOkB a p with
  | false => exact Ans.neg (by simp) (Ans.pure (by simp))
  | true =>
    have hb := endOkB_le hk
    obtain ⟨m, rfl⟩ : ∃ m : Nat, a = m := ⟨a.toNat, by omega⟩
    obtain ⟨n, rfl⟩ : ∃ n : Nat, p = n := ⟨p.toNat, by omega⟩
    have h1 := numB_size (n := (m : Int)) (by omega) (by omega)
    have h2 := numB_size (n := (n : Int)) (by omega) (by omega)
    have h3 : ((⟨#[32]⟩ : ByteArray)).size = 1 := rfl
    refine Ans.pos rfl (Ans.bind (plain_a (n := m) (by omega)) ?_)
    rintro v rfl
    refine Ans.pos (by omega) (Ans.bind (plain_a (n := n) (by omega)) ?_)
    rintro v rfl
    exact Ans.pos (by rw [ByteArray.size_append]; omega) (Ans.pure (by simp))
theorem specLinPort_a (a p : Int) : Ans (fun k => spec_LinPort.f k a p) (fun r => r = lportW a p) := by
  unfold spec_LinPort.f lportW
  rw [specEndOk_f]
  refine Ans.bsome ?_
  have hz := etext_size a p
  cases hk : endOkB a p with
  | false => exact Ans.neg (by simp) (Ans.pure (by simp))
  | true =>
    refine Ans.pos rfl (Ans.bind (specEndText_a a p) ?_)
    rintro v rfl
    exact Ans.pos (by omega) (Ans.pure (by simp))
def noneB : ByteArray := ⟨#[110, 111, 110, 101]⟩
def lineW (l : List S55) (s : ByteArray) : List S55 × ByteArray := match saysW s with
  | none => (l, s)
  | some (a, p) => if (putV l a p).2 = 0 then ((putV l a p).1, noneB) else ((putV l a p).1, lportW 50 (putV l a p).2)
theorem saysW_in {s : ByteArray} {a p : Int} (h : saysW s = some (a, p)) : endIn a p = true := by
  unfold saysW at h
  cases hp : Lib.hasPrefix s.data.toList portL with
  | false => rw [hp] at h; simp at h
  | true =>
    rw [hp] at h
    simp only [if_true] at h
    cases hr : readEndW (trimW s) with
    | none => rw [hr] at h; cases h
    | some r =>
      obtain ⟨a', p'⟩ := r
      rw [hr] at h
      simp only at h
      cases hi : endIn a' p' with
      | false => rw [hi] at h; simp at h
      | true => rw [hi] at h; simp at h; obtain ⟨rfl, rfl⟩ := h; exact hi
theorem implGoesOut_f {l : List S55} (c : okT l = true) {s : ByteArray} (hs : s.size ≤ 1048576) : impl_MapTab_goesOut.f l s = some (lineW l s) := by
  have hl := okT_le c
  unfold impl_MapTab_goesOut.f
  rw [implLinSays_f hs, Option.bind_some]
  unfold saysT lineW
  cases hr : saysW s with
  | none =>
    simp only
    have e : impl_MapTab_copied.f l = some l := by
      unfold impl_MapTab_copied.f impl_EndPoint_103.f impl_EndPoint_102.f
      rw [if_pos (by omega)]; rfl
    rw [e]
    simp
  | some r =>
    obtain ⟨a, p⟩ := r
    simp only
    rw [implPut_f c (saysW_in hr), Option.bind_some]
    simp only [if_true]
    by_cases h0 : (putV l a p).2 = 0
    · simp [h0, noneB]
    · simp only [h0, if_false]
      rw [implLinPort_f, Option.bind_some]
theorem specLine_a {l : List S55} (hl : l.length ≤ 2000000) {s : ByteArray} (hs : s.size ≤ 1048576) : Ans (fun k => spec_l3Line.f k l s) (fun r => r = lineW l s) := by
  unfold spec_l3Line.f
  refine Ans.bind (specLinSays_a s hs) ?_
  rintro v rfl
  unfold saysT lineW
  cases hr : saysW s with
  | none => exact Ans.neg (by simp) (Ans.pure rfl)
  | some r =>
    obtain ⟨a, p⟩ := r
    simp only
    refine Ans.pos (by simp) (Ans.bind (l3Put_a l hl a p) ?_)
    rintro v rfl
    refine Ans.ite (fun h => Ans.pure ?_) (fun h => ?_)
    · simp [h, noneB]
    · refine Ans.bind (specLinPort_a 50 (putV l a p).2) ?_
      rintro v rfl
      exact Ans.pure (by simp [h])
theorem specLinOk_a (s : ByteArray) : Ans (fun k => spec_LinOk.f k s) (fun r => r = linOk s) := by
  have hb : ∀ b : Int, spec_l2Byte.f b = some (lb b) := by
    intro b
    unfold spec_l2Byte.f lb
    by_cases h1 : 97 ≤ b <;> by_cases h2 : b ≤ 122 <;> by_cases h3 : 48 ≤ b <;> by_cases h4 : b ≤ 57 <;> simp [h1, h2, h3, h4]
  have L : s.size ≤ 16 → ∀ (m i : Nat), s.size - i = m → i ≤ s.size → Ans (fun k => spec_LinOk.l0 k s i) (fun r => r = ((bys s).drop i).all lb) := by
    intro hs m
    induction m with
    | zero =>
      intro i hm hi
      refine Ans.succ ?_
      unfold spec_LinOk.l0
      refine Ans.neg (by omega) (Ans.pure ?_)
      have hl : (bys s).length = s.size := by unfold bys; rw [List.length_map]; exact len_size s
      rw [List.drop_eq_nil_of_le (by omega)]; rfl
    | succ m ih =>
      intro i hm hi
      have hlt : i < s.size := by omega
      have hl : (bys s).length = s.size := by unfold bys; rw [List.length_map]; exact len_size s
      have hw : wrap64 ((i : Int) + 1) = ((i + 1 : Nat) : Int) := w64 _ (by omega)
      have hd : (bys s).drop i = (bys s)[i]'(by omega) :: (bys s).drop (i + 1) := List.drop_eq_getElem_cons (by omega)
      have hbt : bt s i = (bys s)[i]'(by omega) := by rw [bt_get s i hlt]; simp [bys]
      refine Ans.succ ?_
      unfold spec_LinOk.l0
      refine Ans.pos (by omega) (Ans.pos (by omega) ?_)
      rw [hbt, hb, hw]
      refine Ans.bsome ?_
      cases hq : lb ((bys s)[i]'(by omega)) with
      | true => exact Ans.pos rfl ((ih (i + 1) (by omega) (by omega)).mono (by rintro v rfl; rw [hd, List.all_cons, hq, Bool.true_and]))
      | false => exact Ans.neg (by simp) (Ans.pure (by rw [hd, List.all_cons, hq, Bool.false_and]))
  unfold spec_LinOk.f linOk
  refine Ans.ite (fun h => Ans.pure ?_) (fun h => ?_)
  · have : ¬ s.size ≤ 16 := by omega
    simp [this]
  · have hs : s.size ≤ 16 := by omega
    refine (L hs _ 0 rfl (Nat.zero_le _)).mono ?_
    rintro v rfl
    simp [hs]
theorem linOk_size {s : ByteArray} (h : linOk s = true) : s.size ≤ 16 := by
  unfold linOk at h; simp at h; exact h.2
theorem lportW_size (a p : Int) : (lportW a p).size ≤ 12 := by
  have hz := etext_size a p
  have h5 : ((⟨#[112, 111, 114, 116, 32]⟩ : ByteArray)).size = 5 := rfl
  unfold lportW
  split
  · rw [ByteArray.size_append]; omega
  · exact Nat.zero_le _
theorem trim_port (t : ByteArray) : trimW ((⟨#[112, 111, 114, 116, 32]⟩ : ByteArray) ++ t) = t := by
  apply ba_ext
  unfold trimW Lib.trimPrefix
  have e : ((⟨#[112, 111, 114, 116, 32]⟩ : ByteArray) ++ t).data.toList = portL ++ t.data.toList := by
    rw [ByteArray.data_append, Array.toList_append]; rfl
  rw [e]
  have hp : Lib.hasPrefix (portL ++ t.data.toList) portL = true := by
    unfold Lib.hasPrefix; rw [List.isPrefixOf_iff_prefix]; exact List.prefix_append _ _
  rw [if_pos hp, List.drop_left]
theorem pre_port (t : ByteArray) : Lib.hasPrefix ((⟨#[112, 111, 114, 116, 32]⟩ : ByteArray) ++ t).data.toList portL = true := by
  have e : ((⟨#[112, 111, 114, 116, 32]⟩ : ByteArray) ++ t).data.toList = portL ++ t.data.toList := by
    rw [ByteArray.data_append, Array.toList_append]; rfl
  rw [e]
  unfold Lib.hasPrefix; rw [List.isPrefixOf_iff_prefix]; exact List.prefix_append _ _
theorem says_lport {a p : Int} (h : endOkB a p = true) : saysW (lportW a p) = if endIn a p then some (a, p) else none := by
  unfold saysW lportW
  rw [if_pos h, if_pos (pre_port _), trim_port, readEndW_of h]
theorem says_port {q : Int} (h : 1 ≤ q ∧ q ≤ 999) : saysW (lportW 50 q) = none := by
  have e : endOkB 50 q = true := by unfold endOkB inB; simp [h.1, h.2]
  rw [says_lport e]
  have : endIn 50 q = false := by unfold endIn inB; simp
  rw [this]; rfl
theorem says_none : saysW noneB = none := by
  unfold saysW
  rw [if_neg (by decide)]
theorem lport_linOk (a p : Int) : linOk (lportW a p) = true := by
  have hz := lportW_size a p
  unfold linOk
  simp only [Bool.and_eq_true, decide_eq_true_eq]
  refine ⟨?_, by omega⟩
  unfold bys
  rw [List.all_map, List.all_eq_true]
  intro c hc
  show lb (c.toNat : Int) = true
  unfold lportW at hc
  by_cases hk : endOkB a p = true
  · have hb := endOkB_le hk
    obtain ⟨m, rfl⟩ : ∃ m : Nat, a = m := ⟨a.toNat, by omega⟩
    obtain ⟨n, rfl⟩ : ∃ n : Nat, p = n := ⟨p.toNat, by omega⟩
    rw [if_pos hk] at hc
    unfold etext at hc
    rw [if_pos hk] at hc
    simp only [ByteArray.data_append, Array.toList_append, List.mem_append] at hc
    have dg : ∀ (k : Nat), c ∈ (numB (k : Int)).data.toList → lb (c.toNat : Int) = true := by
      intro k h
      have := (numB_dg (k + 1) k (by omega)).1 c h
      unfold isDg at this
      unfold lb
      have h1 : (48 : Int) ≤ (c.toNat : Int) := by omega
      have h2 : (c.toNat : Int) ≤ 57 := by omega
      simp [h1, h2]
    rcases hc with hc | (hc | hc) | hc
    · have : c = 112 ∨ c = 111 ∨ c = 114 ∨ c = 116 ∨ c = 32 := by simpa using hc
      rcases this with rfl | rfl | rfl | rfl | rfl <;> decide
    · exact dg m hc
    · have : c = 32 := by simpa using hc
      subst this; decide
    · exact dg n hc
  · rw [if_neg hk] at hc
    simp at hc
theorem put_facts {l : List S55} {a p : Int} (c : okT l = true) (he : endIn a p = true) :
    okT (putV l a p).1 = true ∧ (∃ t, (putV l a p).1 = l ++ t) ∧ (putV l a p).2 = portV (putV l a p).1 a p ∧
      ((putV l a p).2 = 0 → (putV l a p).1.length = 6) ∧ ((putV l a p).2 ≠ 0 → ∃ i : Nat, i < 6 ∧ (putV l a p).2 = 500 + (i : Int)) := by
  have hl := okT_le c
  refine ⟨put_ok c he, ?_, ?_, ?_, ?_⟩
  · unfold putV
    split
    · exact ⟨[], by simp⟩
    · split
      · exact ⟨[], by simp⟩
      · exact ⟨_, rfl⟩
  · unfold putV
    split
    · rfl
    · rename_i h0
      have h0' : portV l a p = 0 := by simpa using h0
      split
      · exact h0'.symm
      · have hn := fnd_none h0'
        dsimp only
        unfold portV
        rw [fnd_snoc, hn]
        simp
  · unfold putV
    split
    · rename_i h0; intro h; exact absurd h h0
    · split
      · rename_i h6; intro _; exact h6
      · intro h; dsimp only at h; omega
  · unfold putV
    split
    · rename_i h0
      intro _
      have hr := portV_range (l := l) (by omega) a p
      rcases hr with hr | hr
      · exact absurd hr h0
      · refine ⟨(portV l a p - 500).toNat, by omega, ?_⟩
        dsimp only; omega
    · split
      · intro h; exact absurd rfl h
      · intro _; exact ⟨l.length, by omega, rfl⟩
end Go.Proofs.YtakfmcpjnkagmaaGreatDoor.P
namespace Go.Proofs.YtakfmcpjnkagmaaGreatDoor.P
open Go Go.RowKit
set_option linter.unusedVariables false
set_option linter.unusedSimpArgs false
theorem bax {a b : ByteArray} (h : a.data.toList = b.data.toList) : a = b := by
  cases a; cases b; simp at h; rw [h]
theorem len_data (s : ByteArray) : s.data.toList.length = s.size := by rw [Array.length_toList]; rfl
def lineL : ByteArray → List UInt8 → List ByteArray
  | _, [] => []
  | w, c :: r => if c = 59 then w :: lineL ⟨#[]⟩ r else lineL (w ++ ⟨#[c]⟩) r
def restL : ByteArray → List UInt8 → ByteArray
  | w, [] => w
  | w, c :: r => if c = 59 then restL ⟨#[]⟩ r else restL (w ++ ⟨#[c]⟩) r
def linesB (s : ByteArray) : List ByteArray := lineL ⟨#[]⟩ s.data.toList
def restB (s : ByteArray) : ByteArray := restL ⟨#[]⟩ s.data.toList
def cutS (s : ByteArray) : ByteArray × ByteArray × Bool := (⟨(Lib.cut s.data.toList [59]).1.toArray⟩, ⟨(Lib.cut s.data.toList [59]).2.1.toArray⟩, (Lib.cut s.data.toList [59]).2.2)
theorem line_index : ∀ (l : List UInt8) (w : ByteArray), (Lib.index l [59] = -1 → lineL w l = [] ∧ restL w l = w ++ ⟨l.toArray⟩) ∧
    (∀ i : Nat, Lib.index l [59] = i → lineL w l = (w ++ ⟨(l.take i).toArray⟩) :: lineL ⟨#[]⟩ (l.drop (i + 1)) ∧ restL w l = restL ⟨#[]⟩ (l.drop (i + 1)) ∧ i < l.length)
  | [], w => ⟨fun _ => ⟨rfl, bax (by simp [restL])⟩, fun i h => by simp [Lib.index] at h⟩
  | b :: l, w => by
    by_cases hb : b = 59
    · subst hb
      have hix : Lib.index (59 :: l) [59] = 0 := by rw [Lib.index]; simp [List.isPrefixOf]
      refine ⟨fun h => by omega, fun i h => ?_⟩
      have hi : i = 0 := by omega
      subst hi
      refine ⟨?_, ?_, by simp⟩
      · simp only [lineL, if_true, List.take_zero, Nat.zero_add, List.drop_succ_cons, List.drop_zero]
        congr 1; exact bax (by simp)
      · simp [restL]
    · have hp : ([59] : List UInt8).isPrefixOf (b :: l) = false := by simp [List.isPrefixOf, Ne.symm hb]
      have hix : Lib.index (b :: l) [59] = if Lib.index l [59] == -1 then -1 else Lib.index l [59] + 1 := by rw [Lib.index, hp]; simp
      obtain ⟨i1, i2⟩ := line_index l (w ++ ⟨#[b]⟩)
      have hge := Lib.index_ge l [59]
      refine ⟨fun h => ?_, fun i h => ?_⟩
      · have hm : Lib.index l [59] = -1 := by
          rw [hix] at h
          by_cases hm : Lib.index l [59] = -1
          · exact hm
          · rw [if_neg (fun e => hm (beq_iff_eq.1 e))] at h; omega
        obtain ⟨a1, a2⟩ := i1 hm
        simp only [lineL, restL, if_neg hb]
        exact ⟨a1, by rw [a2]; exact bax (by simp)⟩
      · have hm : Lib.index l [59] ≠ -1 := fun hm => by rw [hix, if_pos (beq_iff_eq.2 hm)] at h; omega
        rw [hix, if_neg (fun e => hm (beq_iff_eq.1 e))] at h
        obtain ⟨j, hj⟩ : ∃ j : Nat, Lib.index l [59] = j := ⟨(Lib.index l [59]).toNat, by omega⟩
        have hi : i = j + 1 := by omega
        subst hi
        obtain ⟨a1, a2, a3⟩ := i2 j hj
        simp only [lineL, restL, if_neg hb, List.take_succ_cons, List.drop_succ_cons]
        refine ⟨?_, a2, by simp; omega⟩
        rw [a1]; congr 1; exact bax (by simp)
theorem lines_hit {s : ByteArray} (h : (cutS s).2.2 = true) : linesB s = (cutS s).1 :: linesB (cutS s).2.1 ∧ restB s = restB (cutS s).2.1 ∧ (cutS s).2.1.size < s.size := by
  have hge := Lib.index_ge s.data.toList [59]
  have hc : 0 ≤ Lib.index s.data.toList [59] := by
    unfold cutS Lib.cut at h
    by_cases hc : 0 ≤ Lib.index s.data.toList [59]
    · exact hc
    · rw [if_neg hc] at h; cases h
  obtain ⟨i, hi⟩ : ∃ i : Nat, Lib.index s.data.toList [59] = i := ⟨(Lib.index s.data.toList [59]).toNat, by omega⟩
  obtain ⟨a1, a2, a3⟩ := (line_index s.data.toList ⟨#[]⟩).2 i hi
  have e : Lib.cut s.data.toList [59] = (s.data.toList.take i, s.data.toList.drop (i + 1), true) := by
    unfold Lib.cut; rw [hi, if_pos (by omega)]; simp
  unfold cutS linesB restB
  rw [e]
  refine ⟨?_, a2, ?_⟩
  · rw [a1]
    have e1 : (⟨#[]⟩ : ByteArray) ++ ⟨(s.data.toList.take i).toArray⟩ = ⟨(s.data.toList.take i).toArray⟩ := bax (by simp)
    rw [e1]
  · have := len_data s
    show (s.data.toList.drop (i + 1)).toArray.size < s.size
    rw [List.size_toArray, List.length_drop]
    omega
theorem lines_miss {s : ByteArray} (h : (cutS s).2.2 = false) : linesB s = [] ∧ restB s = s := by
  have hge := Lib.index_ge s.data.toList [59]
  have hc : Lib.index s.data.toList [59] = -1 := by
    unfold cutS Lib.cut at h
    by_cases hc : 0 ≤ Lib.index s.data.toList [59]
    · rw [if_pos hc] at h; cases h
    · omega
  obtain ⟨a1, a2⟩ := (line_index s.data.toList ⟨#[]⟩).1 hc
  exact ⟨a1, by unfold restB; rw [a2]; exact bax (by simp)⟩
theorem lineL_count : ∀ (l : List UInt8) (w : ByteArray), (lineL w l).length = l.count 59
  | [], _ => rfl
  | c :: l, w => by
    unfold lineL
    by_cases h : c = 59
    · subst h; simp [lineL_count l]
    · rw [if_neg h, lineL_count l, List.count_cons_of_ne (by simpa using h)]
theorem linesB_count (s : ByteArray) : (linesB s).length = Lib.countByte s.data.toList 59 := lineL_count _ _
theorem restL_no : ∀ (l : List UInt8) (w : ByteArray), (∀ c ∈ l, c ≠ 59) → restL w l = w ++ ⟨l.toArray⟩
  | [], w, _ => bax (by simp [restL])
  | c :: l, w, h => by
    unfold restL
    rw [if_neg (h c (by simp)), restL_no l _ (fun x hx => h x (by simp [hx]))]
    exact bax (by simp)
theorem restL_at : ∀ (x y : List UInt8) (w : ByteArray), restL w (x ++ 59 :: y) = restL ⟨#[]⟩ y
  | [], y, w => by simp [restL]
  | c :: x, y, w => by
    rw [List.cons_append, restL]
    by_cases h : c = 59
    · rw [if_pos h]; exact restL_at x y _
    · rw [if_neg h]; exact restL_at x y _
theorem byte_get (s : ByteArray) (j : Nat) (h : j < s.size) : s.data[j]! = s.data.toList[j]'(by rw [len_data]; exact h) := by
  have : j < s.data.size := h
  rw [getElem!_pos s.data j this]
  simp
theorem restB_last (s : ByteArray) : -1 ≤ Lib.lastIndexByte s 59 ∧ Lib.lastIndexByte s 59 < s.size ∧ restB s = s.extract (Lib.lastIndexByte s 59 + 1).toNat s.size := by
  have hl := len_data s
  rcases Lib.lastIdx_spec s 59 s.size with ⟨e, hno⟩ | ⟨i, hi, e, hc, hno⟩
  · have e' : Lib.lastIndexByte s 59 = -1 := e
    rw [e']
    refine ⟨by omega, by omega, ?_⟩
    unfold restB
    rw [restL_no _ _ (fun c hc => by
      obtain ⟨j, hj, rfl⟩ := List.getElem_of_mem hc
      intro e2
      have := hno j (by omega)
      rw [byte_get s j (by omega), e2] at this
      exact this rfl)]
    apply bax
    rw [Lib.extract_data]
    simp
    rw [List.take_of_length_le (by simp)]
  · have e' : Lib.lastIndexByte s 59 = i := e
    rw [e']
    refine ⟨by omega, by omega, ?_⟩
    have hli : i < s.data.toList.length := by omega
    have hsp : s.data.toList = s.data.toList.take i ++ 59 :: s.data.toList.drop (i + 1) := by
      have h59 : s.data.toList[i] = 59 := by
        rw [byte_get s i hi] at hc
        exact UInt8.toNat_inj.mp (by have : ((59 : UInt8).toNat : Int) = 59 := rfl; omega)
      have hd : s.data.toList.drop i = s.data.toList[i] :: s.data.toList.drop (i + 1) := List.drop_eq_getElem_cons hli
      rw [h59] at hd
      rw [← hd, List.take_append_drop]
    unfold restB
    rw [hsp, restL_at, restL_no _ _ (fun c hc => by
      obtain ⟨j, hj, rfl⟩ := List.getElem_of_mem hc
      intro e2
      simp only [List.length_drop] at hj
      have h1 := hno (i + 1 + j) (by omega) (by omega)
      rw [byte_get s (i + 1 + j) (by omega)] at h1
      rw [List.getElem_drop] at e2
      rw [e2] at h1
      exact h1 rfl)]
    apply bax
    rw [Lib.extract_data]
    have e3 : ((i : Int) + 1).toNat = i + 1 := by omega
    rw [e3]
    simp
    rw [List.take_of_length_le (by simp)]
end Go.Proofs.YtakfmcpjnkagmaaGreatDoor.P
namespace Go.Proofs.YtakfmcpjnkagmaaGreatDoor.P
open Go.Proofs.YtakfmcpjnkagmaaGreatDoorUFnExactPosOut.PrintLast Go.Proofs.YtakfmcpjnkagmaaGreatDoorUFnExactPosOut.PrintMore Go.Proofs.YtakfmcpjnkagmaaGreatDoorUFnExactPosOut.PrintWords Go.RowKit
set_option linter.unusedVariables false
set_option linter.unusedSimpArgs false
section
attribute [local go_sem] max2_int min2_int max_two min_two max_three min_three max_four min_four
def spec_StrOk.l0 : Nat → List ByteArray → ByteArray → Int → Option (Bool)
 | 0,_,_,_=>none
 | k + 1,x3,x4,x5=>if x5 < (x3.length : Int) then (if 0 ≤ x5 then ((spec_LinOk.f k (rdOf ByteArray.empty x3 x5)).bind fun t130=>(if t130 = true then (spec_StrOk.l0 k x3 x4 (wrap64 (x5 + 1))) else (some false))) else (none)) else ((spec_LinOk.f k x4).bind fun t131=>(some t131))
def spec_StrOk.f (k : Nat) (a0 : ByteArray) : Option (Bool):=if (a0.size : Int) > 120 then (some false) else ((spec_StrLines.f k a0).bind fun bt125=>(spec_StrOk.l0 k bt125.1 bt125.2 0))
set_option maxHeartbeats 8000000 in
set_option maxRecDepth 100000 in
theorem spec_StrOk.calls (k : Nat) (a0 : ByteArray) (r : Bool) (w : World) (h : spec_StrOk.f k a0 = some r) :
  Calls Tryz.prog 27 #[.string a0] w fun e w'=>e = .returned (.bool r) ∧ Below w.heap.size w w':=by
 have HB:=am (Below.refl w.heap.size w)
 have H : (if (a0.size : Int) > 120 then (some false) else ((spec_StrLines.f k a0).bind fun bt125=>(spec_StrOk.l0 k bt125.1 bt125.2 0))) = some r:=h
 clear h
 by_cases c2 : (a0.size : Int) > 120
 ·rw [if_pos c2] at H
  have c2b0 : decide (120 < (a0.size : Int)) = true:=decide_eq_true c2
  have c2b1 : decide (120 < a0.size) = true:=decide_eq_true (by omega)
  clear c2
  obtain rfl:=Option.some.inj H
  go_enter Tryz.func27,Tryz.ntmps27
  go_wp2
  go_ret
  exact ⟨fi_,m0_⟩
 ·rw [if_neg c2] at H
  have c2b0 : decide (120 < (a0.size : Int)) = false:=decide_eq_false c2
  have c2b1 : decide (120 < a0.size) = false:=decide_eq_false (by omega)
  clear c2
  obtain ⟨⟨t125,t126⟩,A3,H⟩:=bse H
  try dsimp only at H
  have H':=am H
  clear H
  go_enter Tryz.func27,Tryz.ntmps27
  go_wp2_with (first | ((with_reducible refine gC 48 rfl ?_);refine gL (some 11) Tryz.func48 #[.string a0] ?_;(with_reducible refine (spec_StrLines.calls k a0 t125 t126 _ A3.out).mono ?_);rintro e w4 ⟨v127,rfl,ho0,hb⟩;refine ⟨_,rfl,?_⟩;have HO128:=am (Kd.R_lower ho0 (below_size (bl HB)));replace HB:=hbS HB hb;(try clear hb);(try clear ho0)))
  go_loopg [5] k (fun kq v5 w'=>∃ (x5_1 : Int),v5 = .int .i64 x5_1 ∧ Aside0 (spec_StrOk.l0 kq t125 t126 x5_1 = some r) ∧ Aside0 (kq ≤ k) ∧ Aside0 (Kd.R Kd.string 9 w' w.heap.size (fun _=>True) v127 t125) ∧ Aside0 (Below w.heap.size w w'))
  case atStart=>exact ⟨(0),rs_,H',⟨Nat.le_refl _⟩,⟨by (with_reducible repeat apply ru);exact HO128.out⟩,⟨m0_⟩⟩
  case round=>
   clear H'
   try clear c2
   try clear c2b0
   try clear c2b1
   try clear p2
   try clear c4
   obtain ⟨x5_1,rfl,HA,HK1,HO_3,HB⟩:=hrel
   cases gk with
   | zero=>exact absurd HA.out (by simp [spec_StrOk.l0])
   | succ k1=>
    have H:=HA.out
    clear HA
    simp only [spec_StrOk.l0] at H
    by_cases c5 : x5_1 < (t125.length : Int)
    ·rw [if_pos c5] at H
     have c5b0 : decide (x5_1 < (t125.length : Int)) = true:=decide_eq_true c5
     clear c5
     by_cases c6 : 0 ≤ x5_1
     ·rw [if_pos c6] at H
      have c6b0 : decide (0 ≤ x5_1) = true:=decide_eq_true c6
      clear c6
      obtain ⟨t130,A7,H⟩:=bse H
      try dsimp only at H
      by_cases c8 : t130 = true
      ·subst c8
       have H1 : (spec_StrOk.l0 k1 t125 t126 (wrap64 (x5_1 + 1))) = some r:=by rw [if_pos rfl] at H;exact H
       clear H
       have H:=H1
       clear H1
       have H':=am H
       clear H
       obtain ⟨Ao9,co9,eo9⟩:=Kd.R_slice HO_3.out
       subst eo9
       have p129 : 0 ≤ (x5_1 : Int):=of_decide_eq_true da_
       have q129 : x5_1 < (t125.length : Int):=of_decide_eq_true da_
       obtain ⟨ad129,e129,hx129_0⟩:=Kd.at_string (Kd.R_reads' HO_3.out).2.2 x5_1 p129 q129
       cases e129
       replace p129:=eq_true p129
       replace q129:=eq_true q129
       go_wp2_with (first | ((with_reducible refine gC 49 rfl ?_);refine gL (some 24) Tryz.func49 #[.string (rdOf ByteArray.empty t125 x5_1)] ?_;(with_reducible refine (spec_LinOk.calls k1 (rdOf ByteArray.empty t125 x5_1) true _ A7.out).mono ?_);rintro e w' ⟨rfl,⟨nd,rfl⟩⟩;refine ⟨_,rfl,?_⟩))
       go_roundg k1
       case measure=>have:=HK1.out;omega
       case rel=>exact ⟨(wrap64 (x5_1 + 1)),rs_,H',⟨by have:=HK1.out;omega⟩,⟨by (with_reducible repeat apply ru);exact HO_3.out⟩,⟨m0_⟩⟩
      ·replace c8:=Bool.eq_false_iff.mpr c8
       subst c8
       have H1 : (some false) = some r:=by rw [if_neg (show ¬ (false = true) by decide)] at H;exact H
       clear H
       have H:=H1
       clear H1
       obtain rfl:=Option.some.inj H
       obtain ⟨Ao10,co10,eo10⟩:=Kd.R_slice HO_3.out
       subst eo10
       have p129 : 0 ≤ (x5_1 : Int):=of_decide_eq_true da_
       have q129 : x5_1 < (t125.length : Int):=of_decide_eq_true da_
       obtain ⟨ad129,e129,hx129_0⟩:=Kd.at_string (Kd.R_reads' HO_3.out).2.2 x5_1 p129 q129
       cases e129
       replace p129:=eq_true p129
       replace q129:=eq_true q129
       go_wp2_with (first | ((with_reducible refine gC 49 rfl ?_);refine gL (some 24) Tryz.func49 #[.string (rdOf ByteArray.empty t125 x5_1)] ?_;(with_reducible refine (spec_LinOk.calls k1 (rdOf ByteArray.empty t125 x5_1) false _ A7.out).mono ?_);rintro e w' ⟨rfl,⟨nd,rfl⟩⟩;refine ⟨_,rfl,?_⟩))
       go_ret
       exact ⟨fi_,m0_⟩
     ·rw [if_neg c6] at H
      exact absurd H (by simp)
    ·rw [if_neg c5] at H
     have c5b0 : decide (x5_1 < (t125.length : Int)) = false:=decide_eq_false c5
     clear c5
     obtain ⟨t131,A11,H⟩:=bse H
     try dsimp only at H
     obtain rfl:=Option.some.inj H
     obtain ⟨Ao12,co12,eo12⟩:=Kd.R_slice HO_3.out
     subst eo12
     go_wp2_with (first | ((with_reducible refine gC 49 rfl ?_);refine gL (some 27) Tryz.func49 #[.string t126] ?_;(with_reducible refine (spec_LinOk.calls k1 t126 t131 _ A11.out).mono ?_);rintro e w' ⟨rfl,⟨nd,rfl⟩⟩;refine ⟨_,rfl,?_⟩))
     go_ret
     exact ⟨fi_,m0_⟩
end
theorem ext_step (s : ByteArray) (j i : Nat) (hj : j ≤ i) (h : i < s.size) : s.extract j (i + 1) = s.extract j i ++ ⟨#[s.data.toList[i]'(by rw [len_size]; exact h)]⟩ := by
  apply ba_ext
  have hl : i < s.data.toList.length := by rw [len_size]; exact h
  rw [ByteArray.data_append, Array.toList_append, Lib.extract_data, Lib.extract_data]
  have hd : i - j < (s.data.toList.drop j).length := by rw [List.length_drop]; omega
  rw [show i + 1 - j = (i - j) + 1 by omega, List.take_add_one, List.getElem?_eq_getElem hd, List.getElem_drop]
  simp only [Option.toList_some]
  congr 3
  omega
theorem ext_nil (s : ByteArray) (i : Nat) : s.extract i i = ⟨#[]⟩ := by
  apply ba_ext
  rw [Lib.extract_data]
  simp
theorem specStrLines_a (s : ByteArray) (hs : s.size ≤ 1048576) : Ans (fun k => spec_StrLines.f k s) (fun r => r = (linesB s, restB s)) := by
  have L : ∀ (m i : Nat), s.size - i = m → i ≤ s.size → ∀ (j : Nat) (x4 : List ByteArray), j ≤ i → x4.length ≤ i → x4 ++ lineL (s.extract j i) (s.data.toList.drop i) = linesB s → restL (s.extract j i) (s.data.toList.drop i) = restB s →
      Ans (fun k => spec_StrLines.l0 k s x4 (j : Int) (i : Int)) (fun r => r = (linesB s, restB s)) := by
    intro m
    induction m with
    | zero =>
      intro i hm hi j x4 hj h4 h1 h2
      refine Ans.succ ?_
      unfold spec_StrLines.l0
      refine Ans.neg (by omega) (Ans.pos (by omega) (Ans.pos (by omega) (Ans.pure ?_)))
      have hii : i = s.size := by omega
      subst hii
      rw [List.drop_eq_nil_of_le (by rw [len_size]; omega)] at h1 h2
      rw [lineL, List.append_nil] at h1
      rw [restL] at h2
      rw [h1, Int.toNat_natCast, h2]
    | succ m ih =>
      intro i hm hi j x4 hj h4 h1 h2
      have hlt : i < s.size := by omega
      have hl : i < s.data.toList.length := by rw [len_size]; exact hlt
      have hw : wrap64 ((i : Int) + 1) = ((i + 1 : Nat) : Int) := w64 _ (by omega)
      have e : s.data.toList.drop i = s.data.toList[i] :: s.data.toList.drop (i + 1) := List.drop_eq_getElem_cons hl
      refine Ans.succ ?_
      unfold spec_StrLines.l0
      refine Ans.pos (by omega) (Ans.pos (by omega) ?_)
      rw [bt_get s i hlt, hw]
      rw [e] at h1 h2
      by_cases hc : s.data.toList[i] = 59
      · refine Ans.pos (by rw [hc]; rfl) (Ans.pos (by omega) (Ans.pos (by omega) (Ans.pos (by omega) (Ans.pos (by omega) ?_))))
        simp only [Int.toNat_natCast]
        rw [lineL, if_pos hc] at h1
        rw [restL, if_pos hc] at h2
        refine ih (i + 1) (by omega) (by omega) (i + 1) _ (Nat.le_refl _) (by simp; omega) ?_ ?_
        · rw [ext_nil]; simpa using h1
        · rw [ext_nil]; exact h2
      · refine Ans.neg (fun h => hc (UInt8.toNat_inj.mp (by have : ((59 : UInt8).toNat : Int) = 59 := rfl; omega))) ?_
        rw [lineL, if_neg hc] at h1
        rw [restL, if_neg hc] at h2
        refine ih (i + 1) (by omega) (by omega) j x4 (by omega) (by omega) ?_ ?_
        · rw [ext_step s j i hj hlt]; exact h1
        · rw [ext_step s j i hj hlt]; exact h2
  unfold spec_StrLines.f
  exact L s.size 0 (by omega) (Nat.zero_le _) 0 [] (Nat.le_refl _) (Nat.zero_le _) (by rw [ext_nil]; rfl) (by rw [ext_nil]; rfl)
theorem lineL_size : ∀ (l : List UInt8) (w : ByteArray), (lineL w l).length ≤ l.length ∧ (∀ x ∈ lineL w l, x.size ≤ w.size + l.length) ∧ (restL w l).size ≤ w.size + l.length
  | [], w => ⟨Nat.le_refl _, fun x hx => by simp [lineL] at hx, by simp [restL]⟩
  | c :: l, w => by
    have h1 : (⟨#[c]⟩ : ByteArray).size = 1 := rfl
    have h0 : (⟨#[]⟩ : ByteArray).size = 0 := rfl
    unfold lineL restL
    by_cases h : c = 59
    · rw [if_pos h, if_pos h]
      obtain ⟨a, b, d⟩ := lineL_size l ⟨#[]⟩
      refine ⟨by simp; omega, ?_, by simp; omega⟩
      intro x hx
      rcases List.mem_cons.mp hx with rfl | hx
      · omega
      · have := b x hx; simp; omega
    · rw [if_neg h, if_neg h]
      obtain ⟨a, b, d⟩ := lineL_size l (w ++ ⟨#[c]⟩)
      rw [ByteArray.size_append, h1] at b d
      refine ⟨by simp; omega, ?_, by simp; omega⟩
      intro x hx
      have := b x hx; simp; omega
theorem linesB_size (s : ByteArray) : (linesB s).length ≤ s.size ∧ (∀ x ∈ linesB s, x.size ≤ s.size) ∧ (restB s).size ≤ s.size := by
  have := lineL_size s.data.toList ⟨#[]⟩
  have h0 : (⟨#[]⟩ : ByteArray).size = 0 := rfl
  rw [len_size, h0] at this
  simpa [linesB, restB] using this
def strOkW (s : ByteArray) : Bool := decide (s.size ≤ 120) && ((linesB s).all linOk && linOk (restB s))
theorem rdOf_get {l : List ByteArray} {i : Nat} (h : i < l.length) : rdOf ByteArray.empty l (i : Int) = l[i] := by
  unfold rdOf
  simp [List.getD, h]
theorem specStrOk_a (s : ByteArray) (hs : s.size ≤ 1048576) : Ans (fun k => spec_StrOk.f k s) (fun r => r = strOkW s) := by
  unfold spec_StrOk.f strOkW
  refine Ans.ite (fun h => Ans.pure ?_) (fun h => ?_)
  · have : ¬ s.size ≤ 120 := by omega
    simp [this]
  · have h120 : s.size ≤ 120 := by omega
    obtain ⟨z1, z2, z3⟩ := linesB_size s
    refine Ans.bind (specStrLines_a s hs) ?_
    rintro _ rfl
    dsimp only
    have L : ∀ (m i : Nat), (linesB s).length - i = m → i ≤ (linesB s).length → Ans (fun k => spec_StrOk.l0 k (linesB s) (restB s) (i : Int)) (fun r => r = (((linesB s).drop i).all linOk && linOk (restB s))) := by
      intro m
      induction m with
      | zero =>
        intro i hm hi
        refine Ans.succ ?_
        unfold spec_StrOk.l0
        refine Ans.neg (by omega) (Ans.bind (specLinOk_a _) ?_)
        rintro _ rfl
        rw [List.drop_eq_nil_of_le (by omega)]
        exact Ans.pure (by simp)
      | succ m ih =>
        intro i hm hi
        have hlt : i < (linesB s).length := by omega
        have hw : wrap64 ((i : Int) + 1) = ((i + 1 : Nat) : Int) := w64 _ (by omega)
        refine Ans.succ ?_
        unfold spec_StrOk.l0
        refine Ans.pos (by omega) (Ans.pos (by omega) ?_)
        rw [rdOf_get hlt, hw]
        refine Ans.bind (specLinOk_a _) ?_
        rintro _ rfl
        have e : (linesB s).drop i = (linesB s)[i] :: (linesB s).drop (i + 1) := List.drop_eq_getElem_cons hlt
        rw [e, List.all_cons]
        cases hq : linOk (linesB s)[i] with
        | true => exact Ans.pos rfl ((ih (i + 1) (by omega) (by omega)).mono (by rintro v rfl; simp))
        | false => exact Ans.neg (by simp) (Ans.pure (by simp))
    refine (L _ 0 rfl (Nat.zero_le _)).mono ?_
    rintro v rfl
    simp [h120]
def strW : List S55 → List ByteArray → ByteArray → List S55 × ByteArray
  | l, [], o => (l, o)
  | l, x :: r, o => strW (lineW l x).1 r ((o ++ (lineW l x).2) ++ (⟨#[59]⟩ : ByteArray))
theorem lineW_ok {l : List S55} {s : ByteArray} (c : okT l = true) (cs : linOk s = true) : okT (lineW l s).1 = true ∧ (lineW l s).2.size ≤ 16 ∧ linOk (lineW l s).2 = true := by
  unfold lineW
  cases hr : saysW s with
  | none => exact ⟨c, linOk_size cs, cs⟩
  | some r =>
    obtain ⟨a, p⟩ := r
    have h1 := put_ok c (saysW_in hr)
    have h2 := lportW_size 50 (putV l a p).2
    dsimp only
    split
    · exact ⟨h1, by show noneB.size ≤ 16; decide, by show linOk noneB = true; decide⟩
    · exact ⟨h1, by show (lportW 50 (putV l a p).2).size ≤ 16; omega, lport_linOk _ _⟩
theorem specStream_a {l : List S55} {s : ByteArray} (c : okT l = true) (cs : strOkW s = true) : Ans (fun k => spec_l3Stream.f k l s) (fun r => r = strW l (linesB s) ⟨#[]⟩) := by
  unfold strOkW at cs
  simp only [Bool.and_eq_true, decide_eq_true_eq] at cs
  obtain ⟨h120, hall, _⟩ := cs
  obtain ⟨z1, z2, z3⟩ := linesB_size s
  unfold spec_l3Stream.f
  refine Ans.bind (specStrLines_a s (by omega)) ?_
  rintro _ rfl
  dsimp only
  have L : ∀ (m i : Nat), (linesB s).length - i = m → i ≤ (linesB s).length → ∀ (o : ByteArray) (l : List S55), okT l = true → o.size ≤ 17 * i →
      Ans (fun k => spec_l3Stream.l0 k (linesB s) o (i : Int) l) (fun r => r = strW l ((linesB s).drop i) o) := by
    intro m
    induction m with
    | zero =>
      intro i hm hi o l hl ho
      refine Ans.succ ?_
      unfold spec_l3Stream.l0
      rw [List.drop_eq_nil_of_le (by omega)]
      exact Ans.neg (by omega) (Ans.pure rfl)
    | succ m ih =>
      intro i hm hi o l hl ho
      have hlt : i < (linesB s).length := by omega
      have hw : wrap64 ((i : Int) + 1) = ((i + 1 : Nat) : Int) := w64 _ (by omega)
      have hx : linOk (linesB s)[i] = true := List.all_eq_true.mp hall _ (List.getElem_mem hlt)
      obtain ⟨g1, g2, g3⟩ := lineW_ok hl hx
      have h6 := okT_le hl
      refine Ans.succ ?_
      unfold spec_l3Stream.l0
      refine Ans.pos (by omega) (Ans.pos (by omega) ?_)
      rw [rdOf_get hlt, hw]
      refine Ans.bind (specLine_a (l := l) (by omega) (by have := linOk_size hx; omega)) ?_
      rintro _ rfl
      have e : (linesB s).drop i = (linesB s)[i] :: (linesB s).drop (i + 1) := List.drop_eq_getElem_cons hlt
      rw [e]
      refine Ans.pos (by omega) (Ans.pos (by rw [ByteArray.size_append]; omega) ?_)
      refine ih (i + 1) (by omega) (by omega) _ _ g1 ?_
      have h1 : (⟨#[59]⟩ : ByteArray).size = 1 := rfl
      simp only [ByteArray.size_append, h1]
      omega
  exact L _ 0 rfl (Nat.zero_le _) _ _ c (Nat.le_refl _)
def rwrStreamW (l : List S55) (s : ByteArray) : List S55 × ByteArray := if okT l && strOkW s then strW l (linesB s) ⟨#[]⟩ else ([], ⟨#[]⟩)
theorem strW_facts : ∀ (xs : List ByteArray) (l : List S55) (o : ByteArray), okT l = true → xs.all linOk = true → okT (strW l xs o).1 = true ∧ (strW l xs o).2.size ≤ o.size + 17 * xs.length
  | [], l, o, c, _ => ⟨c, by simp [strW]⟩
  | x :: r, l, o, c, h => by
    simp only [List.all_cons, Bool.and_eq_true] at h
    obtain ⟨g1, g2, g3⟩ := lineW_ok c h.1
    obtain ⟨q1, q2⟩ := strW_facts r (lineW l x).1 ((o ++ (lineW l x).2) ++ (⟨#[59]⟩ : ByteArray)) g1 h.2
    have h1 : (⟨#[59]⟩ : ByteArray).size = 1 := rfl
    simp only [ByteArray.size_append, h1] at q2
    exact ⟨q1, by unfold strW; simp; omega⟩
theorem rwrStream_facts (l : List S55) (s : ByteArray) : (rwrStreamW l s).1.length ≤ 6 ∧ (rwrStreamW l s).2.size ≤ 2040 := by
  unfold rwrStreamW
  cases c : okT l && strOkW s with
  | false => exact ⟨Nat.zero_le _, Nat.zero_le _⟩
  | true =>
    simp only [Bool.and_eq_true] at c
    have c2 := c.2
    unfold strOkW at c2
    simp only [Bool.and_eq_true, decide_eq_true_eq] at c2
    obtain ⟨q1, q2⟩ := strW_facts (linesB s) l ⟨#[]⟩ c.1 c2.2.1
    have z := linesB_size s
    have h0 : (⟨#[]⟩ : ByteArray).size = 0 := rfl
    simp only [if_true]
    exact ⟨okT_le q1, by omega⟩
end Go.Proofs.YtakfmcpjnkagmaaGreatDoor.P
namespace Go.Proofs.YtakfmcpjnkagmaaGreatDoor.P
open Go Go.RowKit
set_option linter.unusedVariables false
variable {F : Fence} {n : Nat} {P : Program}
def SeqRuns {α : Type} (F : Fence) (n : Nat) (P : Program) (g : Nat) (lb : Array Value) (encs : α → Array Value) (Kp T : World → World → Prop) (S : List α → Prop) (Nx : List α → α → Prop) (w : World) : Prop :=
  ∀ (l : Nat) (J : List α → World → Prop) (W : World), Below w.heap.size w W → AbidesFrom W.heap.size J → (∀ s A B, J s A → T A B → J s B) →
    (∀ pre x W1, J pre W1 → Nx pre x → YieldAt F (n - 1) P l (encs x) W1 fun e W' => e = .returned (.bool true) ∧ J (pre ++ [x]) W' ∧ Kp W1 W') →
    J [] W → CallsIn F n P g (#[.func (.yield l) #[] #[]] ++ lb) W fun e W' => (∃ v, e = .returned v) ∧ ∃ xs, S xs ∧ J xs W'
theorem wpIn_rangeFunc_runs {α : Type} {g : Operand} {ps : Array Tmp} {assign body : Code} {Q : Exit → Act → World → Prop} {a : Act} {w : World}
    (hro : F.round = none) (h1 : 1 ≤ n) {gf : Nat} {lb : Array Value} (hg : a.eval g = .func (.func gf) #[] lb) (hFg : F.fn gf) (eg : ∀ args w, (callFunc gf args).run P w = .ok (.enter gf args) w)
    {encs : α → Array Value} {Kp T : World → World → Prop} {S : List α → Prop} {Nx : List α → α → Prop} {w0 : World} (hseq : SeqRuns F (n - 1) P gf lb encs Kp T S Nx w0)
    (hKt : ∀ {A B C : World}, Kp A B → Kp B C → Kp A C) (hKb : ∀ (W : World) (l : Nat) (o o' : Obj), w.heap.size ≤ l → W.heap[l]? = some o → o.isCells = false → o.isWalk = false → Kp W (W.putObj l o'))
    (hTk : ∀ A B, T A B → ∀ k, w.heap.size ≤ k → B.heap[k]? = A.heap[k]?)
    (hb0 : Below w0.heap.size w0 w) (hps : ∀ x, (encs x).size = ps.size)
    (I : List α → World → Prop) (hI : OwnFrom w.heap.size I) (hIT : ∀ s A B, I s A → T A B → I s B) (h0 : I [] w) (a₁ : α → Act)
    (hassign : ∀ (l : Nat) (x : α) (W : World) (K : Act → World → Prop), K (a₁ x) W →
      assign.wpIn (F.inRound l) (n - 1 - 1) P (Exit.then K (fun _ _ _ => False)) { tmps := (ps.zip (encs x)).foldl (fun t (p, v) => t.setIfInBounds p v) a.tmps, defers := [] } W)
    (hbody : ∀ (l : Nat) (pre : List α) (x : α) (W : World), I pre W → Nx pre x → body.wpIn (F.inRound l) (n - 1 - 1) P (ownPostK Kp I (fun _ _ _ => False) (pre ++ [x]) W) (a₁ x) W)
    (hdone : ∀ (D : Nat) (xs : List α) (W : World), w.heap.size ≤ D → S xs → I xs W → W.heap[D]? = some (.deferred (some [])) → Q .normal { a with defers := { target := .collected D, args := #[] } :: a.defers } W) :
    (Code.rangeFunc g ps assign body).wpIn F n P Q a w := by
  refine wpIn_rangeFunc fun fn hfn => ?_
  rw [hro]
  -- the loop's record L st, at block w.heap.size + 1; the block for the rounds' deferred calls ahead of it
  obtain ⟨L, hL⟩ : ∃ L : LoopState → Option Code → Loop, L = fun st pe => { state := st, pending := pe, fn, tmps := a.tmps, params := ps, assign, body, defers := w.heap.size } := ⟨_, rfl⟩
  obtain ⟨V, hV⟩ : ∃ V, (w.alloc (.deferred (some []))).alloc (.loop (L .ready none)) = V := ⟨_, rfl⟩
  have vsz : V.heap.size = w.heap.size + 2 := by rw [← hV]; simp
  have vl : V.heap[w.heap.size + 1]? = some (.loop (L .ready none)) := by
    have := World.alloc_heap_new (w.alloc (.deferred (some []))) (.loop (L .ready none))
    rw [World.size_alloc, hV] at this
    exact this
  have vd : V.heap[w.heap.size]? = some (.deferred (some [])) := by
    rw [← hV]; exact (Below.heap_alloc _ _ _ (by simp)).trans (World.alloc_heap_new w _)
  have vi : I [] V := by rw [← hV]; exact hI.alloc _ (hI.alloc _ h0)
  have vb : Below w0.heap.size w0 V := by
    rw [← hV]; exact hb0.trans ((((Below.refl _ w).alloc (Nat.le_refl _) _).alloc (by simp) _).mono hb0.size)
  refine ⟨w.heap.size + 1, [{ target := .collected w.heap.size, args := #[] }], V, { target := .fn (.func gf) lb, args := #[.func (.yield (w.heap.size + 1)) #[] #[]] }, V, gf,
    #[.func (.yield (w.heap.size + 1)) #[] #[]] ++ lb, V, ?_, ?_, ?_, ?_, fun _ => h1, ?_⟩
  · rw [← hV, hL]; exact run_enterLoop_outer _ _ _ _ _
  · simp only [resolve, hg]; simp [go_sem]
  · intro f' hf'; simp [Target.leads] at hf'; subst hf'; exact hFg
  · simp [invoke, go_sem, eg]
  have keep : ∀ {A B : World} {row : Option Nat} {k : Nat} {o : Obj}, A.grownBy B row → (∀ r, row = some r → V.heap.size ≤ r ∧ ∃ o : Obj, A.heap[r]? = some o ∧ o.isWalk = true) → A.heap[k]? = some o → o.isWalk = false → B.heap[k]? = some o :=
    fun hg' hr hk ho => (grownBy_keeps hg' (fun r e => (hr r e).2) hk ho).trans hk
  refine (hseq (w.heap.size + 1) (fun pre W => I pre W ∧ W.heap[w.heap.size + 1]? = some (.loop (L .ready none)) ∧ W.heap[w.heap.size]? = some (.deferred (some []))) V vb ?abide ?turn ?round ⟨vi, vl, vd⟩).mono ?after
  case abide =>
    rintro s A B row ⟨i1, i2, i3⟩ hg' hr
    exact ⟨hI s A B row i1 hg' (fun r e => by obtain ⟨q1, o, q2, q3⟩ := hr r e; exact ⟨by omega, o, q2, Obj.not_cells_of_walk q3⟩), keep hg' hr i2 rfl, keep hg' hr i3 rfl⟩
  case turn =>
    rintro s A B ⟨i1, i2, i3⟩ ht
    exact ⟨hIT s A B i1 ht, (hTk A B ht _ (by omega)).trans i2, (hTk A B ht _ (Nat.le_refl _)).trans i3⟩
  case round =>
    rintro pre x W ⟨i1, i2, i3⟩ hlen
    have lt := (Array.getElem?_eq_some_iff.1 i2).1
    have hy := run_yield (P := P) (args := encs x) i2 (by rw [hL]; exact hps x)
    rw [hL] at hy
    refine ⟨fn, _, assign, body, hy, roundIn_of_wpIn hfn (hassign _ x W _ ⟨_, run_beginRound i2 (by rw [hL]), ?_⟩)⟩
    obtain ⟨R, hR⟩ : ∃ R, W.putObj (w.heap.size + 1) (.loop { L .ready none with state := .busy }) = R := ⟨_, rfl⟩
    have r2 : R.heap[w.heap.size + 1]? = some (.loop { L .ready none with state := .busy }) := by rw [← hR]; exact World.putObj_heap_same lt
    have r3 : R.heap[w.heap.size]? = some (.deferred (some [])) := by rw [← hR]; exact (World.putObj_heap_other (by omega)).trans i3
    have rk : Kp W R := by rw [← hR]; exact hKb _ _ _ _ (by omega) i2 rfl rfl
    have ri : I pre R := by rw [← hR]; exact hI.putObj _ i1 (by omega) i2 rfl
    rw [hR]
    refine wpIn_mono (hbody _ pre x R ri hlen) ?_
    rintro e a3 X hp
    cases e with
    | normal =>
      obtain ⟨k1, k2, k3⟩ := hp
      have x2 := k1.same _ _ r2 rfl
      have x3 := k1.same _ _ r3 rfl
      have hend := run_endRound (P := P) none x2
      rw [hL] at hend
      refine ⟨_, _, hend, rfl, ⟨hI.putObj _ k3 (by omega) x2 rfl, ?_, (World.putObj_heap_other (by omega)).trans x3⟩, hKt (hKt rk k2) (hKb _ _ _ _ (by omega) x2 rfl rfl)⟩
      have := World.putObj_heap_same (w := X) (o := .loop (L .ready none)) (Array.getElem?_eq_some_iff.1 x2).1
      rw [hL] at this ⊢
      exact this
    | ret => exact hp.2.elim
    | exit id => exact hp.2.elim
    | goto t => exact hp.2.elim
    | panic ch => exact hp.elim
    | outgrown => exact hp.elim
  case after =>
    rintro e X ⟨⟨v, rfl⟩, xs, hS, i1, i2, i3⟩
    refine ⟨none, _, by have := run_endLoop (P := P) i2 (by rw [hL]; simp); rw [hL] at this; exact this, hdone _ xs _ (Nat.le_refl _) hS (hI.putObj _ i1 (by omega) i2 rfl) ((World.putObj_heap_other (by omega)).trans i3)⟩
end Go.Proofs.YtakfmcpjnkagmaaGreatDoor.P
namespace Go.Proofs.YtakfmcpjnkagmaaGreatDoor.P
open Go.Proofs.YtakfmcpjnkagmaaGreatDoorUFnExactPosOut.PrintLast Go.Proofs.YtakfmcpjnkagmaaGreatDoorUFnExactPosOut.PrintMore Go.Proofs.YtakfmcpjnkagmaaGreatDoorUFnExactPosOut.PrintWords Go.RowKit Go.Shelf
set_option linter.unusedVariables false
set_option linter.unusedSimpArgs false
section
attribute [local go_sem] Oper.semAt_some
theorem linesOf0 (s : ByteArray) (w : World) :
    Calls Tryz.prog 52 #[.string s] w fun e w' => e = .returned (.func (.func 77) #[] #[.pointer (some ⟨w.heap.size, 0, none⟩)]) ∧ w' = w.alloc (.cells #[.string s] 9) := by
  go_enter Tryz.func52, Tryz.ntmps52
  go_wp2
  go_ret
  exact ⟨rfl, rfl⟩
theorem cutS_calls (s : ByteArray) (hs : s.size < 4294967281) (w : World) (hE : Env w) :
    Calls Tryz.prog 78 #[.string s, .string (⟨#[59]⟩ : ByteArray)] w fun e w' => e = .returned (.tuple #[.string (cutS s).1, .string (cutS s).2.1, .bool (cutS s).2.2]) ∧ ∃ n, w' = w.drewN n := by
  obtain ⟨m, hm⟩ := hE.max
  refine (Tryz.strings_Cut s _ m w hs hm).mono ?_
  rintro e w' ⟨rfl, n, rfl⟩
  exact ⟨rfl, n, rfl⟩
def KpL (n₀ b : Nat) (W W' : World) : Prop := Below n₀ W W' ∧ W'.heap[b]? = W.heap[b]?
theorem KpL.trans {n₀ b : Nat} {A B C : World} (h : KpL n₀ b A B) (k : KpL n₀ b B C) : KpL n₀ b A C := ⟨h.1.trans k.1, k.2.trans h.2⟩
def TuL (b : Nat) (A B : World) : Prop := ∃ v, B = A.setCell ⟨b, 0, none⟩ v
def leftL (b : Nat) (w : World) : Nat := match w.cell? ⟨b, 0, none⟩ with | some (.string s) => s.size | _ => 0
theorem leftL_of {b : Nat} {w : World} {s : ByteArray} (h : w.cell? ⟨b, 0, none⟩ = some (.string s)) : leftL b w = s.size := by unfold leftL; rw [h]
theorem abide_below {B : Nat} {β : Type} {J : β → World → Prop} (hA : AbidesFrom B J) {s : β} {A A' : World} (h : Below A.heap.size A A') (hj : J s A) : J s A' :=
  hA s A A' none hj (grown_of_below h none) (fun r e => by cases e)
set_option maxHeartbeats 4000000 in
set_option maxRecDepth 100000 in
theorem lines_runs (Bs n₀ : Nat) (s0 : ByteArray) (w0 w : World) (hn : w0.heap.size = n₀) (hw : Below n₀ w0 w) (hB : n₀ ≤ Bs) (hc : w.heap[Bs]? = some (.cells #[.string s0] 9 (0, 0))) (hs : s0.size < 4294967281) (hE : Env w0) :
    SeqRuns Fence.wide 8 Tryz.prog 77 #[.pointer (some ⟨Bs, 0, none⟩)] (fun x : ByteArray => #[.string x]) (KpL n₀ Bs) (TuL Bs) (fun xs => xs = linesB s0) (fun pre x => ∃ r, pre ++ x :: r = linesB s0) w := by
  intro l J W hW hA hT hY h0
  have HW0 := Lib.hid (show Below w0.heap.size w0 W from by rw [hn]; exact hw.trans (hW.mono (by rw [← hn]; exact hw.size)))
  have HE := Lib.hid hE
  have HN := Lib.hid hn
  have HA := Lib.hid hA
  have HT := Lib.hid hT
  have HY := Lib.hid hY
  have HBs := Lib.hid hB
  have hlt : Bs < w.heap.size := (Array.getElem?_eq_some_iff.1 hc).1
  have hbs : W.heap[Bs]? = some (.cells #[.string s0] 9 (0, 0)) := (hW.block _ hlt).trans hc
  have HS := Lib.hid hs
  have H0 := Lib.hid h0
  clear hn hE hA hT hw hc hY hs h0 hW hB
  refine callsIn_of_wp Tryz.func77 rfl trivial ?_ rfl
  simp only [Tryz.ntmps77, List.size_toArray, List.length_cons, List.length_nil, Nat.reduceAdd, Nat.reduceSub, Array.replicate_succ, Array.replicate_zero, List.push_toArray, List.append_toArray, List.nil_append, List.cons_append]
  have HB := Lib.hid hbs
  clear hbs hlt
  gi_wp2
  gi_loopw [] (fun wr => ∃ (pre : List ByteArray) (s : ByteArray), Hid (wr.heap[Bs]? = some (.cells #[.string s] 9 (0, 0))) ∧ Hid (pre ++ linesB s = linesB s0) ∧ Hid (s.size ≤ s0.size) ∧ Hid (J pre wr) ∧ Hid (Below n₀ W wr)) (fun wr => leftL Bs wr)
  case atStart => exact ⟨[], s0, HB, Lib.hid (by simp), Lib.hid (Nat.le_refl _), H0, Lib.hid (Below.refl _ _)⟩
  case round =>
    obtain ⟨pre, s, hb, hp, hz, hj, hw⟩ := hrel
    have hcell := (blk_cell hb.out 0).trans rfl
    have hEw : Env wr := HE.out.below (HW0.out.trans (by rw [HN.out]; exact hw.out))
    have HEW := Lib.hid hEw
    clear hEw
    have HAx : Hid (AbidesFrom wr.heap.size J) := Lib.hid (fun s A B row h hg hr => HA.out s A B row h hg (fun r e => ⟨Nat.le_trans hw.out.size (hr r e).1, (hr r e).2⟩))
    cases hc : (cutS s).2.2 with
    | false =>
      gi_wp2_with (refine ⟨trivial, ?_⟩; gi_at_call 78; refine (callsIn_wide.2 (cutS_calls s (by have := hz.out; have := HS.out; omega) _ HEW.out)).mono ?_; rintro e w' ⟨rfl, nq, rfl⟩)
      refine ⟨fun _ h => (by cases h), ?_⟩
      gi_wp2
      refine bodyPost_ret (results_none rfl _ _ _) rfl ?_
      exact ⟨⟨_, rfl⟩, pre, by rw [← hp.out, (lines_miss hc).1, List.append_nil], abide_below HAx.out (pw_below_drewN (Below.refl _ _) nq) hj.out⟩
    | true =>
      obtain ⟨l1, l2, l3⟩ := lines_hit hc
      have hlen : ∃ r, pre ++ (cutS s).1 :: r = linesB s0 := ⟨_, by rw [← l1]; exact hp.out⟩
      have HL := Lib.hid hlen
      have L1 := Lib.hid l1
      have L3 := Lib.hid l3
      clear hlen l1 l2 l3
      gi_wp2_with (first | (refine ⟨trivial, ?_⟩; gi_at_call 78; refine (callsIn_wide.2 (cutS_calls s (by have := hz.out; have := HS.out; omega) _ HEW.out)).mono ?_; rintro e w' ⟨rfl, nq, rfl⟩; obtain ⟨fn, tmps, assign, body, hy, hR⟩ := HY.out pre (cutS s).1 (wr.drewN nq) (abide_below HAx.out (pw_below_drewN (Below.refl _ _) nq) hj.out) HL.out))
      clear hcell
      refine hR.mono ?_
      rintro e W3 ⟨rfl, hJ3, hk3⟩
      have hb3 : W3.heap[Bs]? = some (.cells #[.string s] 9 (0, 0)) := hk3.2.trans hb.out
      have c3 : W3.cell? ⟨Bs, 0, none⟩ = some (.string s) := (blk_cell hb3 0).trans rfl
      have f3 := blk_frozen hb3 0
      have HB3 := Lib.hid hb3
      have HJ3 := Lib.hid hJ3
      have HK3 := Lib.hid hk3
      clear hb3 hJ3 hk3 hR hy
      gi_wp2
      have hb4 : (W3.setCell ⟨Bs, 0, none⟩ (.string (cutS s).2.1)).heap[Bs]? = some (.cells #[.string (cutS s).2.1] 9 (0, 0)) := blk_set HB3.out 0 _
      go_roundw
      case rel => exact ⟨pre ++ [(cutS s).1], (cutS s).2.1, Lib.hid hb4, Lib.hid (by rw [List.append_assoc, ← hp.out, L1.out]; rfl), Lib.hid (by have := L3.out; have := hz.out; omega), Lib.hid (HT.out _ _ _ HJ3.out ⟨_, rfl⟩), Lib.hid (((hw.out.trans (pw_below_drewN (Below.refl _ _) nq)).trans HK3.out.1).setCell (p := ⟨Bs, 0, none⟩) HBs.out _)⟩
      case measure =>
        rw [leftL_of ((blk_cell hb4 0).trans rfl), leftL_of ((blk_cell hb.out 0).trans rfl)]
        exact L3.out
end
end Go.Proofs.YtakfmcpjnkagmaaGreatDoor.P
namespace Go.Proofs
open Go.Shelf
def Tryz.lays169_ren : Go.Shelf.Ren := ⟨fun | 169 => 85 | n => n, fun | 70 => 93 | 9 => 9 | 0 => 0 | 72 => 95 | 37 => 39 | 127 => 121 | 3 => 3 | 5 => 5 | n => n, fun | n => n⟩
theorem Tryz.lays169 : Go.Proofs.Lays.n169 Tryz.prog Tryz.lays169_ren := {
  mixed := by kernel_rfl
  f169 := Tryz.func85.trans (congrArg some (by kernel_rfl))
  t0 := Tryz.underlying0
  a0 := Tryz.isAgg0
  z0 := Tryz.sizeOf0
  v0 := Tryz.zeroValue0
  t3 := Tryz.underlying3
  a3 := Tryz.isAgg3
  z3 := Tryz.sizeOf3
  v3 := Tryz.zeroValue3
  t9 := Tryz.underlying9
  a9 := Tryz.isAgg9
  z9 := Tryz.sizeOf9
  v9 := Tryz.zeroValue9
  t37 := Tryz.underlying39
  a37 := Tryz.isAgg39
  z37 := Tryz.sizeOf39
  v37 := Tryz.zeroValue39
  t70 := Tryz.underlying93
  a70 := Tryz.isAgg93
  z70 := Tryz.sizeOf93
  v70 := Tryz.zeroValue93
  t72 := Tryz.underlying95
  a72 := Tryz.isAgg95
  z72 := Tryz.sizeOf95
  v72 := Tryz.zeroValue95
  t127 := Tryz.underlying121
  a127 := Tryz.isAgg121
  z127 := Tryz.sizeOf121
  v127 := Tryz.zeroValue121 }
theorem Tryz.Builder_Extra_169 : Builder.Extra Tryz.prog Tryz.lays169_ren := {
  sizeBuilder := by kernel_rfl
  liesBuilder := by kernel_rfl
  t5 := Tryz.underlying5
  a5 := Tryz.isAgg5
  z5 := Tryz.sizeOf5
  v5 := Tryz.zeroValue5
  infoByte := by kernel_rfl
  cellsByte := by kernel_rfl
  sizeByte := by kernel_rfl
  neB5 := by decide }
open Go.RowKit in
theorem Tryz.Builder_String_any_k (B b : Nat) (l : List UInt8) (w : World) (h : Lib.IsBuilderF 95 5 B b (Lib.byteCells l) w) (hBw : B ≤ w.heap.size) :
    Calls Tryz.prog 85 #[.pointer (some ⟨b, 0, none⟩)] w fun e w' => e = .returned (.string ⟨l.toArray⟩) ∧ (Lib.IsBuilderF 95 5 B b (Lib.byteCells l) w' ∧ Below B w w' ∧ Lib.OthersKept 5 (some b) w w') := Any.Builder_String_any_k Tryz.lays169 Tryz.Builder_Extra_169 B b l w h hBw
def Tryz.lays138_ren : Go.Shelf.Ren := ⟨fun | 138 => 51 | 195 => 74 | 218 => 75 | 143 => 76 | 219 => 98 | 217 => 116 | 225 => 117 | 224 => 118 | 267 => 119 | 266 => 131 | 314 => 132 | n => n, fun | 9 => 9 | 3 => 3 | 4 => 4 | 5 => 5 | 0 => 0 | 46 => 107 | 146 => 115 | 51 => 114 | n => n, fun | 1 => 0 | n => n⟩
theorem Tryz.lays138 : Go.Proofs.Lays.n138 Tryz.prog Tryz.lays138_ren := {
  mixed := by kernel_rfl
  f138 := Tryz.func51.trans (congrArg some (by kernel_rfl))
  f143 := Tryz.func76.trans (congrArg some (by kernel_rfl))
  f195 := Tryz.func74.trans (congrArg some (by kernel_rfl))
  f217 := Tryz.func116.trans (congrArg some (by kernel_rfl))
  f218 := Tryz.func75.trans (congrArg some (by kernel_rfl))
  f219 := Tryz.func98.trans (congrArg some (by kernel_rfl))
  f224 := Tryz.func118.trans (congrArg some (by kernel_rfl))
  f225 := Tryz.func117.trans (congrArg some (by kernel_rfl))
  f266 := Tryz.func131.trans (congrArg some (by kernel_rfl))
  f267 := Tryz.func119.trans (congrArg some (by kernel_rfl))
  f314 := Tryz.func132.trans (congrArg some (by kernel_rfl))
  t0 := Tryz.underlying0
  a0 := Tryz.isAgg0
  z0 := Tryz.sizeOf0
  v0 := Tryz.zeroValue0
  t3 := Tryz.underlying3
  a3 := Tryz.isAgg3
  z3 := Tryz.sizeOf3
  v3 := Tryz.zeroValue3
  t4 := Tryz.underlying4
  a4 := Tryz.isAgg4
  z4 := Tryz.sizeOf4
  v4 := Tryz.zeroValue4
  t5 := Tryz.underlying5
  a5 := Tryz.isAgg5
  z5 := Tryz.sizeOf5
  v5 := Tryz.zeroValue5
  t9 := Tryz.underlying9
  a9 := Tryz.isAgg9
  z9 := Tryz.sizeOf9
  v9 := Tryz.zeroValue9
  t46 := Tryz.underlying107
  a46 := Tryz.isAgg107
  z46 := Tryz.sizeOf107
  v46 := Tryz.zeroValue107
  t51 := Tryz.underlying114
  a51 := Tryz.isAgg114
  z51 := Tryz.sizeOf114
  v51 := Tryz.zeroValue114
  t146 := Tryz.underlying115
  a146 := Tryz.isAgg115
  z146 := Tryz.sizeOf115
  v146 := Tryz.zeroValue115
  g1 := by kernel_rfl }
open Go.RowKit Go.Lib in
theorem Tryz.strings_Count_one (s : ByteArray) (c : UInt8) (w : World) :
    Calls Tryz.prog 51 #[.string s, .string ⟨#[c]⟩] w fun e w' => e = .returned (.int .i64 (Lib.countByte s.data.toList c)) ∧ w' = w := Any.strings_Count_one Tryz.lays138 s c w
def Tryz.lays148_ren : Go.Shelf.Ren := ⟨fun | 148 => 53 | 222 => 79 | 223 => 80 | 269 => 100 | n => n, fun | 9 => 9 | 3 => 3 | 4 => 4 | 5 => 5 | 146 => 115 | 51 => 114 | 46 => 107 | n => n, fun | n => n⟩
theorem Tryz.lays148 : Go.Proofs.Lays.n148 Tryz.prog Tryz.lays148_ren := {
  mixed := by kernel_rfl
  f148 := Tryz.func53.trans (congrArg some (by kernel_rfl))
  f222 := Tryz.func79.trans (congrArg some (by kernel_rfl))
  f223 := Tryz.func80.trans (congrArg some (by kernel_rfl))
  f269 := Tryz.func100.trans (congrArg some (by kernel_rfl))
  t3 := Tryz.underlying3
  a3 := Tryz.isAgg3
  z3 := Tryz.sizeOf3
  v3 := Tryz.zeroValue3
  t4 := Tryz.underlying4
  a4 := Tryz.isAgg4
  z4 := Tryz.sizeOf4
  v4 := Tryz.zeroValue4
  t5 := Tryz.underlying5
  a5 := Tryz.isAgg5
  z5 := Tryz.sizeOf5
  v5 := Tryz.zeroValue5
  t9 := Tryz.underlying9
  a9 := Tryz.isAgg9
  z9 := Tryz.sizeOf9
  v9 := Tryz.zeroValue9
  t46 := Tryz.underlying107
  a46 := Tryz.isAgg107
  z46 := Tryz.sizeOf107
  v46 := Tryz.zeroValue107
  t51 := Tryz.underlying114
  a51 := Tryz.isAgg114
  z51 := Tryz.sizeOf114
  v51 := Tryz.zeroValue114
  t146 := Tryz.underlying115
  a146 := Tryz.isAgg115
  z146 := Tryz.sizeOf115
  v146 := Tryz.zeroValue115 }
open Go.RowKit Go.Lib in
theorem Tryz.strings_LastIndex_one (s sub : ByteArray) (h1 : sub.size = 1) (hs : s.size < 4611686018427387904) (w : World) :
    Calls Tryz.prog 53 #[.string s, .string sub] w fun e w' => e = .returned (.int .i64 (Lib.lastIndexByte s ((sub[0]'(by omega)).toNat : Int))) ∧ w' = w := Any.strings_LastIndex_one Tryz.lays148 s sub h1 hs w
end Go.Proofs
namespace Go.Proofs.YtakfmcpjnkagmaaGreatDoor.P
open Go.Proofs.YtakfmcpjnkagmaaGreatDoorUFnExactPosOut.PrintLast Go.Proofs.YtakfmcpjnkagmaaGreatDoorUFnExactPosOut.PrintMore Go.Proofs.YtakfmcpjnkagmaaGreatDoorUFnExactPosOut.PrintWords Go.RowKit Go.Shelf
set_option linter.unusedVariables false
set_option linter.unusedSimpArgs false
section
attribute [local go_sem] Oper.semAt_some
def impl_StrLines.f (s : ByteArray) : Option (List ByteArray × ByteArray) := if s.size ≤ 4000000000 then some (linesB s, restB s) else none
theorem ownsRow_from {β : Type} (B base : Nat) (e : TypeId) (sz : Nat) (v : β → Value) (n : β → Nat) (xs : β → List Value) : OwnFrom B (fun (s : β) W => W.ownsRow base e sz (v s) (n s) (xs s)) := fun s X Y row hs hg hr => by
  refine hs.kept hg ?_
  rcases hv : (v s).ownBlock with _ | k
  · exact .inl rfl
  · refine .inr fun e => ?_
    obtain ⟨_, o, ho, hc⟩ := hr k e.symm
    obtain ⟨cells, h⟩ := own_typed (.of_owns hs) k hv
    rw [h] at ho
    cases ho
    cases hc
theorem kpl_b {n₀ b : Nat} {w : World} (hn : n₀ ≤ w.heap.size) (hb : b < w.heap.size) (W : World) (l : Nat) (o o' : Obj) (hl : w.heap.size ≤ l) (ho : W.heap[l]? = some o) (hc : o.isCells = false) (hk : o.isWalk = false) : KpL n₀ b W (W.putObj l o') :=
  ⟨belowK_b (w := w) hn W l o o' hl ho hc hk, World.putObj_heap_other (by omega)⟩
theorem ownsRow_moved {w w1 : World} {base : Nat} {e : TypeId} {size n : Nat} {v : Value} {xs : List Value} (h : w.ownsRow base e size v n xs) (hm : ∀ k, v.ownBlock = some k → w1.heap[k]? = w.heap[k]?) : w1.ownsRow base e size v n xs := by
  obtain ⟨h1, h2⟩ := h
  refine ⟨h1, ?_⟩
  rcases h2 with h2 | ⟨g, cap, cur, rfl, hg, hh, r⟩
  · exact .inl h2
  · exact .inr ⟨g, cap, cur, rfl, hg, (hm g (by simp [Value.ownBlock])).trans hh, r⟩
theorem cells_own' {β : Type} (b : Nat) (t : TypeId) (v : β → Value) : Own (fun (s : β) W => Boxed W b t (v s)) := fun s X Y row hs hg hr => by
  refine (hg.block b (Array.getElem?_eq_some_iff.1 hs).1 (fun e => ?_)).trans hs
  obtain ⟨o, ho, hc⟩ := hr b e.symm
  rw [show X.heap[b]? = _ from hs] at ho; cases ho; cases hc
theorem count_calls (s : ByteArray) (w : World) : Calls Tryz.prog 51 #[.string s, .string (⟨#[59]⟩ : ByteArray)] w fun e w' => e = .returned (.int .i64 ((linesB s).length : Int)) ∧ w = w' := by
  rw [linesB_count]
  exact (Tryz.strings_Count_one s 59 w).mono fun _ _ h => ⟨h.1, h.2.symm⟩
theorem last_calls (s : ByteArray) (hs : s.size ≤ 4000000000) (w : World) : Calls Tryz.prog 53 #[.string s, .string (⟨#[59]⟩ : ByteArray)] w fun e w' => e = .returned (.int .i64 (Lib.lastIndexByte s 59)) ∧ w = w' :=
  (Tryz.strings_LastIndex_one s ⟨#[59]⟩ rfl (by omega) w).mono fun _ _ h => ⟨h.1, h.2.symm⟩
set_option maxRecDepth 100000 in
set_option maxHeartbeats 4000000 in
theorem impl_StrLines.calls (a0 : ByteArray) (r1 : List ByteArray) (r2 : ByteArray) (w : World) (h : impl_StrLines.f a0 = some (r1, r2)) (hE : Env w) :
    Calls Tryz.prog 29 #[.string a0] w fun e w' => ∃ v0_ : Value, e = .returned (.tuple #[v0_, .string r2]) ∧ Kd.R Kd.string 9 w' w.heap.size (fun _ => True) v0_ r1 ∧ Below w.heap.size w w' := by
  unfold impl_StrLines.f at h
  by_cases hs : a0.size ≤ 4000000000
  · rw [if_pos hs] at h
    simp only [Option.some.injEq, Prod.mk.injEq] at h
    obtain ⟨rfl, rfl⟩ := h
    have hlen : (linesB a0).length ≤ a0.size := by
      rw [linesB_count]; unfold Lib.countByte
      exact Nat.le_trans List.count_le_length (by rw [len_data]; exact Nat.le_refl _)
    obtain ⟨N, hN⟩ : ∃ N, (linesB a0).length = N := ⟨_, rfl⟩
    have HS := Lib.hid hs
    have HL := Lib.hid hlen
    have HE := Lib.hid hE
    clear hs hlen hE
    obtain ⟨i0, hi, hz0, hz1, hz2⟩ := info_parts info9
    refine (callsIn_wide (n := 9)).1 ?_
    refine callsIn_of_wp_marks Tryz.func29 rfl trivial (wpIn_wide.2 ?_) rfl
    simp only [Tryz.ntmps29, List.size_toArray, List.length_cons, List.length_nil, Nat.reduceAdd, Nat.reduceSub, Array.replicate_succ, Array.replicate_zero, List.push_toArray, List.append_toArray, List.nil_append, List.cons_append]
    go_wp2_with (first
      | (go_at_call 51; refine (count_calls a0 _).mono ?_; rintro e w' ⟨rfl, rfl⟩; rw [hN])
      | (at_make; refine wpList_make_own w rfl _ _ 45 rfl w.heap.size 9 i0 (.string ⟨#[]⟩) 1 Tryz.underlying45 hi hz0 hz1 .i64 .i64 (N : Int) N rfl rfl rfl (by rw [hz2]; have := HS.out; have := HL.out; omega) (by unfold maxLen; have := HS.out; have := HL.out; omega) (Nat.le_refl _) ?_; intro w1 hown hgr)
      | (go_at_call 52; refine (linesOf0 a0 _).mono ?_; rintro e w2 ⟨rfl, rfl⟩))
    have hB1 : Below w.heap.size w w1 := (Below.refl _ w).grown hgr (Nat.le_refl _) (fun k e => by cases e)
    have hs1 := hB1.size
    obtain ⟨W0, hW0⟩ : ∃ W0, (w1.alloc (.cells #[.slice (some ⟨w.heap.size, 0, none⟩) 0 N] 45)).alloc (.cells #[.string a0] 9) = W0 := ⟨_, rfl⟩
    have hb0 : Boxed W0 w1.heap.size 45 (.slice (some ⟨w.heap.size, 0, none⟩) 0 N) := by rw [← hW0]; exact (Boxed.new _ _ _).alloc _
    have hst : W0.heap[w1.heap.size + 1]? = some (.cells #[.string a0] 9 (0, 0)) := by
      rw [← hW0]
      have := heap_alloc_new (w1.alloc (.cells #[.slice (some ⟨w.heap.size, 0, none⟩) 0 N] 45)) (.cells #[.string a0] 9)
      simp only [World.size_alloc] at this
      exact this
    have hB0 : Below w.heap.size w W0 := by rw [← hW0]; exact (hB1.alloc hs1 _).alloc (by simp only [World.size_alloc]; omega) _
    have hr0 : W0.ownsRow w.heap.size 9 1 (.slice (some ⟨w.heap.size, 0, none⟩) 0 N) 0 [] := by rw [← hW0]; exact (hown.alloc _).alloc _
    have hsz : W0.heap.size = w1.heap.size + 2 := by rw [← hW0]; simp
    have hlt1 := (hown.lt w.heap.size rfl).2
    rw [hW0]
    clear hW0 hown hgr hB1
    have HHS := Lib.hid hs1
    refine (wpIn_wide (n := 9)).1 ?_
    refine wpIn_rangeFunc_runs rfl (by omega) (gf := 77) (lb := #[.pointer (some ⟨w1.heap.size + 1, 0, none⟩)]) rfl trivial (enters_of Tryz.func77 (by kernel_rfl) rfl)
      (lines_runs (w1.heap.size + 1) w.heap.size a0 w W0 rfl hB0 (by omega) hst (by have := HS.out; omega) HE.out) KpL.trans (kpl_b (by omega) (by omega))
      (fun A B ⟨v, h⟩ k hk => by rw [h]; exact Below.heap_setCell A _ _ _ (by simp only; omega)) (Below.refl _ _) (fun _ => rfl)
      (fun pre W => Boxed W w1.heap.size 45 (.slice (some ⟨w.heap.size, 0, none⟩) pre.length N) ∧ (W.ownsRow w.heap.size 9 1 (.slice (some ⟨w.heap.size, 0, none⟩) pre.length N) pre.length (pre.map Value.string) ∧ Below w.heap.size W0 W))
      (OwnFrom.and (Own.from (cells_own' _ _ _) _) (OwnFrom.and (ownsRow_from _ _ _ _ _ _ _) (ownFrom_below (by omega) (by omega))))
      (fun s A B ⟨h1, h2, h3⟩ ⟨v, h⟩ => by
        subst h
        exact ⟨(Below.heap_setCell A _ _ _ (by simp only; omega)).trans h1, ownsRow_moved h2 (fun k hk => Below.heap_setCell A _ _ _ (by have e : w.heap.size = k := (by simpa [Value.ownBlock] using hk); simp only; omega)), h3.setCell (p := ⟨w1.heap.size + 1, 0, none⟩) (by simp only; omega) _⟩)
      ⟨hb0, hr0, Below.refl _ _⟩
      (fun x => { tmps := #[.string a0, undef, .slice none 0 0, .string ⟨#[]⟩, .pointer (some ⟨w1.heap.size, 0, none⟩), .string x, .string a0, .int .i64 N, .slice (some ⟨w.heap.size, 0, none⟩) 0 N, .string a0, .func (.func 77) #[] #[.pointer (some ⟨w1.heap.size + 1, 0, none⟩)], .string x, undef, undef, undef, undef, undef, undef, undef, undef, undef, undef], defers := [] })
      ?assign ?body ?done
    case assign =>
      intro l x W K hK
      gi_wp2
      exact hK
    case body =>
      rintro l pre x W ⟨hbx, hrow, hB⟩ hlt
      have hlN : pre.length + 1 ≤ N := by
        obtain ⟨r, hr⟩ := hlt
        rw [← hN, ← hr, List.length_append, List.length_cons]; omega
      have hc := hbx.cell
      have hf := hbx.frozen
      have HB := Lib.hid hB
      have HR := Lib.hid hrow
      have HX := Lib.hid hbx
      have HSZ := Lib.hid hsz
      have HLT := Lib.hid hlt1
      clear hB hrow hbx hlt hsz hs1 hr0 hst hb0 hB0 hlt1
      gi_wp2_with (gi_at_builtin; refine wpListIn_append_fits _ rfl _ _ 45 rfl w.heap.size 9 i0 1 Tryz.underlying45 hi hz1 w.heap.size pre.length N (pre.map Value.string) rfl (HR.out.alloc _) ⟨W.heap.size, 0, none⟩ 1 1 [.string x] rfl rfl (cell_one_new _ _ _) (by simp [Value.oneCell']) hlN ?_; intro w2 hown2 hgr2; obtain ⟨hv1, hv2, hr2, hk2, hb2⟩ := HX.out.appended (by decide) HR.out (by have := HB.out.size; have := HSZ.out; have := HHS.out; omega) HHS.out hown2 hgr2; have HG2 := Lib.hid hgr2; have HV2 := Lib.hid hv2; have HR2 := Lib.hid hr2; have HK2 := Lib.hid hk2; have HB2 := Lib.hid hb2; have hc1 := hv1.cell; have hf1 := hv1.frozen; clear hv1 hv2 hr2 hk2 hb2 hown2 hgr2)
      have hWs := HB.out.size
      have hsz := HSZ.out
      have hlt := HLT.out
      refine ⟨HK2.out, ⟨HB2.out, ?_⟩, ?_, ?_, HB.out.trans HB2.out⟩
      · refine (Below.heap_setCell _ _ _ _ (by simp only; omega)).trans ((HG2.out.block _ (by simp; omega) (by simp [Value.ownBlock]; omega)).trans (Below.heap_alloc W _ _ (by omega)))
      · rw [List.length_append]; exact HV2.out
      · rw [List.length_append, List.map_append]; exact HR2.out
    case done =>
      rintro D xs W hD rfl ⟨hbx, hrow, hB⟩ hK
      rw [hN] at hbx hrow
      have hc := hbx.cell
      have HR := Lib.hid hrow
      have HB := Lib.hid hB
      have HK := Lib.hid hK
      have HD := Lib.hid hD
      have HB0 := Lib.hid hB0
      have HSZ := Lib.hid hsz
      obtain ⟨q1, q2, q3⟩ := restB_last a0
      have HLC := Lib.hid (last_calls a0 HS.out)
      obtain ⟨x, hx⟩ : ∃ x, Lib.lastIndexByte a0 59 = x := ⟨_, rfl⟩
      rw [hx] at q1 q2 q3 HLC
      have Q3 := Lib.hid q3
      clear hbx hrow hB hK hD hB0 hsz hs1 hr0 hst hb0 hlt1 q3 hx
      have z1 : IntKind.i64.wrap (x + 1) = x + 1 := IntWalk.i64_in _ (by have := HS.out; omega)
      go_wp2_with fail
      go_quiet ((go_at_call 53; exact Calls.quiet_of_same ((HLC.out _).mono fun _ _ h => ⟨h.1, h.2.symm⟩)))
      go_wp2
      have hDl := (Array.getElem?_eq_some_iff.1 HK.out).1
      have hbW : Below w.heap.size w ((W.drewN nq).putObj D (.deferred none)) :=
        (HB0.out.trans (pw_below_drewN HB.out nq)).trans (belowK_b (w := w) (Nat.le_refl _) (W.drewN nq) D _ _ (by have := HD.out; have := HSZ.out; have := HHS.out; omega) HK.out rfl rfl)
      refine ⟨by simp, .inl ⟨_, _, rfl, run_takeDeferred (w := W.drewN nq) HK.out, ?_⟩⟩
      refine ⟨_, results_tmp2 rfl _ _ _, ⟨_, by rw [Q3.out]; rfl, ?_, hbW⟩⟩
      have hrow : ((W.drewN nq).putObj D (.deferred none)).ownsRow w.heap.size 9 1 (.slice (some ⟨w.heap.size, 0, none⟩) N N) N ((linesB a0).map Value.string) :=
        ownsRow_moved HR.out (fun k hk => by
          have e : w.heap.size = k := (by simpa [Value.ownBlock] using hk)
          exact World.putObj_heap_other (by have := HD.out; have := HSZ.out; have := HHS.out; omega))
      rw [← hN] at hrow ⊢
      exact Kd.R_of_own (.of_owns hrow) (fun _ _ => trivial)
  · rw [if_neg hs] at h; cases h
end
end Go.Proofs.YtakfmcpjnkagmaaGreatDoor.P
namespace Go.Proofs.YtakfmcpjnkagmaaGreatDoor.P
open Go.RowKit Go.Shelf
set_option linter.unusedVariables false
set_option linter.unusedSimpArgs false
set_option maxHeartbeats 1000000 in
set_option maxRecDepth 100000 in
theorem copyCheck_used (b : Nat) (w : World) (h0 : w.cell? ⟨b, 0, none⟩ = some (.pointer (some ⟨b, 0, none⟩))) :
    Calls Tryz.prog 106 #[.pointer (some ⟨b, 0, none⟩)] w fun e w' => e = .returned (.tuple #[]) ∧ w = w' := by
  obtain ⟨j, hj, _⟩ := Option.map_eq_some_iff.1 Tryz.Builder_Extra_169.sizeBuilder
  go_enter Tryz.func106, Tryz.ntmps106
  go_wp2
  rw [Lib.run_neq_ptr_same w _ Tryz.underlying93 hj]
  go_wp2
  go_end0
  exact ⟨rfl, rfl⟩
set_option maxHeartbeats 1000000 in
set_option maxRecDepth 100000 in
theorem copyCheck_fresh (b : Nat) (w : World) (h0 : w.cell? ⟨b, 0, none⟩ = some (.pointer none)) (hsh : w.shape? b = some (95, 2)) (hfz : w.frozen? ⟨b, 0, none⟩ = false) :
    Calls Tryz.prog 106 #[.pointer (some ⟨b, 0, none⟩)] w fun e w' => e = .returned (.tuple #[]) ∧ w' = w.setCell ⟨b, 0, none⟩ (.pointer (some ⟨b, 0, none⟩)) := by
  obtain ⟨j, hj, hjs⟩ := Option.map_eq_some_iff.1 Tryz.Builder_Extra_169.sizeBuilder
  go_enter Tryz.func106, Tryz.ntmps106
  go_wp2
  rw [Lib.run_to_unsafe w ⟨b, 0, none⟩ Tryz.underlying93 Tryz.underlying123 hj (by rw [hjs]; decide) hsh (Nat.zero_lt_succ 1)]
  simp only [Result.andThen]
  rw [Oper.upon_value]
  go_wp2
  rw [run_callFunc_extern Tryz.func122 (by kernel_rfl) (by kernel_rfl) (by kernel_rfl) (e := Extern.AbiNoEscape.same) (by kernel_rfl)]
  rw [Lib.run_noEscape]
  simp only [Result.andThen]
  rw [Oper.upon_value]
  go_wp2
  rw [Lib.run_from_unsafe w ⟨b, 0, none⟩ Tryz.underlying123 Tryz.underlying93 hj hsh Tryz.Builder_Extra_169.liesBuilder]
  simp only [Result.andThen]
  rw [Oper.upon_value]
  go_wp2
  go_end0
  exact ⟨rfl, rfl⟩
theorem copyCheck_k (B b : Nat) (bs : List Value) (w : World) (h : Lib.IsBuilderF 95 5 B b bs w) :
    Calls Tryz.prog 106 #[.pointer (some ⟨b, 0, none⟩)] w fun e w' => e = .returned (.tuple #[]) ∧ (Lib.BuilderAtF 95 5 B b (.pointer (some ⟨b, 0, none⟩)) bs w' ∧ Below B w w' ∧ Lib.OthersKept 5 (some b) w w') := by
  rcases h with h | h
  · refine (copyCheck_fresh b w h.cell0 h.shape h.frozen0).mono ?_
    rintro e w' ⟨rfl, rfl⟩
    exact ⟨rfl, h.used _, (Below.refl B w).setCell (p := ⟨b, 0, none⟩) h.1 _, (Lib.OthersKept.refl _ _ w).setCell ⟨b, 0, none⟩ rfl _⟩
  · refine (copyCheck_used b w h.cell0).mono ?_
    rintro e w' ⟨rfl, rfl⟩
    exact ⟨rfl, h, Below.refl B _, Lib.OthersKept.refl _ _ _⟩
set_option maxHeartbeats 2000000 in
set_option maxRecDepth 100000 in
theorem writeString_k (B b : Nat) (bs : List Value) (s : ByteArray) (w : World) (h : Lib.IsBuilderF 95 5 B b bs w) (hlen : bs.length + s.size ≤ 140737488355328) (hBw : B ≤ w.heap.size) :
    Calls Tryz.prog 84 #[.pointer (some ⟨b, 0, none⟩), .string s] w fun e w' => e = .returned (.tuple #[.int .i64 s.size, .nilIface]) ∧ (Lib.BuilderAtF 95 5 B b (.pointer (some ⟨b, 0, none⟩)) (bs ++ Lib.strCells s) w' ∧ Below B w w' ∧ Lib.OthersKept 5 (some b) w w') := by
  obtain ⟨i0, hi, hz0, hz1, hz2⟩ := info_parts Tryz.Builder_Extra_169.infoByte
  go_enter Tryz.func84, Tryz.ntmps84
  go_wp2_with (go_at_call 106; refine (copyCheck_k B b bs _ h).mono ?_)
  rintro e w1 ⟨rfl, h1, hb1, hk1⟩
  obtain ⟨hB, v, hbk, hown, hne⟩ := h1
  have c0 : w1.cell? ⟨b, 0, none⟩ = some (.pointer (some ⟨b, 0, none⟩)) := by rw [Lib.cell_of_heap hbk]; rfl
  have c1 : w1.cell? ⟨b, 1, none⟩ = some v := by rw [Lib.cell_of_heap hbk]; rfl
  go_wp2_with (at_builtin; refine Lib.wpList_append_own_stringF _ rfl _ _ 39 9 rfl B 5 i0 Tryz.underlying39 Tryz.underlying9 hi hz0 hz1 hz2 _ _ _ rfl hown s rfl ?c3 ?c4 ?c5 ?_)
  case c3 => unfold maxLen; omega
  case c4 => omega
  case c5 => have := hb1.size; omega
  intro v' w2 hown' hgrow _
  have hlt : b < w1.heap.size := by
    rcases Nat.lt_or_ge b w1.heap.size with h' | h'
    · exact h'
    · simp [Array.getElem?_eq_none h'] at hbk
  have hb2 : w2.heap[b]? = some (.cells #[.pointer (some ⟨b, 0, none⟩), v] 95 (0, 0)) := by
    rw [hgrow.block b hlt (fun e => hne e.symm)]
    exact hbk
  have d0 : w2.cell? ⟨b, 0, none⟩ = some (.pointer (some ⟨b, 0, none⟩)) := by rw [Lib.cell_of_heap hb2]; rfl
  have d1 : w2.cell? ⟨b, 1, none⟩ = some v := by rw [Lib.cell_of_heap hb2]; rfl
  have f1 : w2.frozen? ⟨b, 1, none⟩ = false := Lib.frozen_of_heap hb2 1
  obtain ⟨ao, n', cap, rfl⟩ : ∃ ao n' cap, v' = .slice ao n' cap := by
    rcases hown'.2 with ⟨hv, _⟩ | ⟨g, cap, cur, fz, hv, _⟩
    · exact ⟨_, _, _, hv⟩
    · exact ⟨_, _, _, hv⟩
  go_wp2
  go_ret2
  refine ⟨rfl, ?_, ?_, (hk1.grown hgrow (Lib.ownsRowF_kind hown)).setCell ⟨b, 1, none⟩ rfl _⟩
  · exact Lib.BuilderAtF.put (T := 95) (e := 5) hB hb2 (bs' := bs ++ Lib.strCells s) (by simpa [Lib.strCells_length] using hown') Tryz.Builder_Extra_169.neB5
  · exact (hb1.grown hgrow (by have := hb1.size; omega) (fun k hk => (hown.lt k hk).1)).setCell (p := ⟨b, 1, none⟩) hB _
end Go.Proofs.YtakfmcpjnkagmaaGreatDoor.P
namespace Go.Proofs.YtakfmcpjnkagmaaGreatDoor.P
open Go.Proofs.YtakfmcpjnkagmaaGreatDoorUFnExactPosOut.PrintLast Go.Proofs.YtakfmcpjnkagmaaGreatDoorUFnExactPosOut.PrintMore Go.Proofs.YtakfmcpjnkagmaaGreatDoorUFnExactPosOut.PrintWords Go.RowKit Go.Shelf
set_option linter.unusedVariables false
set_option linter.unusedSimpArgs false
section
attribute [local go_sem] Oper.semAt_some
def outStep (q : List S55 × ByteArray) (x : ByteArray) : Option (List S55 × ByteArray) :=
  (impl_MapTab_goesOut.f q.1 x).bind fun r => if r.2.size ≤ 1000000 ∧ q.2.size ≤ 100000000000 then some (r.1, q.2 ++ (r.2 ++ (⟨#[59]⟩ : ByteArray))) else none
def impl_MapTab_streamOut.f (l : List S55) (s : ByteArray) : Option (List S55 × ByteArray) :=
  if s.size ≤ 4000000000 then (impl_MapTab_copied.f l).bind fun l' => (linesB s).foldlM outStep (l', (⟨#[]⟩ : ByteArray)) else none
def txtOf (o : ByteArray) : List Value := Lib.byteCells o.data.toList
theorem txt_size (o : ByteArray) : (txtOf o).length = o.size := by unfold txtOf; rw [Lib.byteCells_length]; exact len_data o
theorem txt_append (o p : ByteArray) : txtOf (o ++ p) = txtOf o ++ Lib.strCells p := by
  unfold txtOf Lib.byteCells Lib.strCells
  rw [ByteArray.data_append, Array.toList_append, List.map_append]
def StaysT (q : TypeId) (W W' : World) : Prop := W.heap.size ≤ W'.heap.size ∧ ∀ (k : Nat) (c : Array Value) (t : TypeId) (f : Nat × Nat), W.heap[k]? = some (.cells c t f) → t ≠ q → W'.heap[k]? = some (.cells c t f)
theorem StaysT.grown {q : TypeId} {X Y : World} {row : Option Nat} (hg : X.grownBy Y row) (hr : ∀ r, row = some r → ∃ o : Obj, X.heap[r]? = some o ∧ o.isCells = false) : StaysT q X Y :=
  ⟨hg.size, fun k c t f h _ => cells_kept0 h hg hr⟩
where
  cells_kept0 {X Y : World} {row : Option Nat} {b : Nat} {c : Array Value} {t : TypeId} {f : Nat × Nat} (h : X.heap[b]? = some (.cells c t f)) (hg : X.grownBy Y row) (hr : ∀ r, row = some r → ∃ o : Obj, X.heap[r]? = some o ∧ o.isCells = false) : Y.heap[b]? = some (.cells c t f) :=
    (hg.block b (Array.getElem?_eq_some_iff.1 h).1 (fun e => by obtain ⟨o, ho, hc⟩ := hr b e.symm; rw [h] at ho; cases ho; cases hc)).trans h
theorem StaysT.trans {q : TypeId} {X Y Z : World} (h : StaysT q X Y) (k : StaysT q Y Z) : StaysT q X Z := ⟨Nat.le_trans h.1 k.1, fun a c t f e ne => k.2 _ _ _ _ (h.2 _ _ _ _ e ne) ne⟩
theorem StaysT.below {q : TypeId} {X Y : World} (h : Below X.heap.size X Y) : StaysT q X Y := ⟨h.size, fun k c t f e _ => (h.block _ (Array.getElem?_eq_some_iff.1 e).1).trans e⟩
theorem StaysT.set {q : TypeId} {X : World} {b : Nat} {u : Value} (h : Boxed X b q u) (v : Value) : StaysT q X (X.setCell ⟨b, 0, none⟩ v) :=
  ⟨by simp, fun k c t f hk ht => (Below.heap_setCell X _ _ _ (fun e => by simp only at e; subst e; rw [show X.heap[k]? = _ from h] at hk; cases hk; exact ht rfl)).trans hk⟩
theorem builder_stays {T e q : TypeId} {B b : Nat} {bs : List Value} {W W' : World} (h : Lib.IsBuilderF T e B b bs W) (hs : StaysT q W W') (hT : T ≠ q) (he : e ≠ q) : Lib.IsBuilderF T e B b bs W' := by
  have at_ : ∀ p, Lib.BuilderAtF T e B b p bs W → Lib.BuilderAtF T e B b p bs W' := by
    rintro p ⟨hB, v, hb, ⟨ho1, ho⟩, hne⟩
    refine ⟨hB, v, hs.2 _ _ _ _ hb hT, ⟨ho1, ?_⟩, hne⟩
    rcases ho with ho | ⟨g, cap, cur, fz, hv, hbg, hg, r⟩
    · exact .inl ho
    · exact .inr ⟨g, cap, cur, fz, hv, hbg, hs.2 _ _ _ _ hg he, r⟩
  exact h.elim (fun h => .inl (at_ _ h)) (fun h => .inr (at_ _ h))
theorem R_stays {α : Type} {d : Kd α} {e q : TypeId} {W W' : World} {base : Nat} {ok : Nat → Prop} {v : Value} {xs : List α} (h : d.R e W base ok v xs) (hs : StaysT q W W') (hq : ∀ t, t ∈ e :: d.E → t ≠ q) : d.R e W' base ok v xs :=
  Kd.R_mono (Kd.R_move (Kd.R_bound h) (fun k hk => by
    obtain ⟨_, _, _, t, ht, cells, hc⟩ := hk
    exact (hs.2 _ _ _ _ hc (hq t ht)).trans hc.symm)) (fun _ hk => hk.1)
theorem R_others {α : Type} {d : Kd α} {e q T : TypeId} {W W' : World} {base b : Nat} {ok : Nat → Prop} {v : Value} {xs : List α} {c : Array Value} (h : d.R e W base ok v xs) (hs : Lib.OthersKept q (some b) W W') (hb : W.heap[b]? = some (.cells c T (0, 0))) (hq : ∀ t, t ∈ e :: d.E → t ≠ q ∧ t ≠ T) : d.R e W' base ok v xs :=
  Kd.R_mono (Kd.R_move (Kd.R_bound h) (fun k hk => by
    obtain ⟨_, _, _, t, ht, cells, hc⟩ := hk
    refine (hs k _ hc (fun e => ?_) (fun c' fz e => ?_)).trans hc.symm
    · injection e with e; subst e; rw [hb] at hc; cases hc; exact (hq _ ht).2 rfl
    · injection e with _ e; exact (hq _ ht).1 e)) (fun _ hk => hk.1)
theorem box_others {q : TypeId} {W W' : World} {b k : Nat} {t : TypeId} {v : Value} (hs : Lib.OthersKept q (some b) W W') (h : Boxed W k t v) (hne : k ≠ b) (ht : t ≠ q) : Boxed W' k t v :=
  hs k _ h (fun e => hne (Option.some.inj e)) (fun c fz e => by injection e with _ e; exact ht e)
theorem keeps_others {q : TypeId} {W W' : World} {b : Nat} {c : Array Value} {T : TypeId} (hs : Lib.OthersKept q (some b) W W') (hb : W.heap[b]? = some (.cells c T (0, 0))) (hsz : W.heap.size ≤ W'.heap.size) : KeepsOthers W W' :=
  ⟨hsz, fun k o hk ho => hs k o hk (fun e => by injection e with e; subst e; rw [hb] at hk; cases hk; cases ho) (fun c fz e => by subst e; cases ho)⟩
theorem fold_next {q q' : List S55 × ByteArray} {pre r : List ByteArray} {x : ByteArray} {xs : List ByteArray} {z : List S55 × ByteArray} (hx : pre ++ x :: r = xs) (h : xs.foldlM outStep q = some z) (h1 : pre.foldlM outStep q = some q') :
    ∃ q2, outStep q' x = some q2 ∧ (pre ++ [x]).foldlM outStep q = some q2 := by
  subst hx
  rw [List.foldlM_append, h1] at h
  have h' : (outStep q' x).bind (fun init => List.foldlM outStep init r) = some z := h
  obtain ⟨q2, h2, _⟩ := Option.bind_eq_some_iff.mp h'
  exact ⟨q2, h2, by rw [List.foldlM_append, h1]; simpa using h2⟩
theorem outStep_some {q q2 : List S55 × ByteArray} {x : ByteArray} (h : outStep q x = some q2) : ∃ y, impl_MapTab_goesOut.f q.1 x = some (q2.1, y) ∧ y.size ≤ 1000000 ∧ q.2.size ≤ 100000000000 ∧ q2.2 = q.2 ++ (y ++ (⟨#[59]⟩ : ByteArray)) := by
  obtain ⟨⟨t, y⟩, h1, h2⟩ := Option.bind_eq_some_iff.mp h
  by_cases hc : y.size ≤ 1000000 ∧ q.2.size ≤ 100000000000
  · rw [if_pos hc] at h2
    cases h2
    exact ⟨y, h1, hc.1, hc.2, rfl⟩
  · rw [if_neg hc] at h2; cases h2
theorem wp_still {P : Program} {c : Code} {Q : Exit → Act → World → Prop} {a : Act} {w : World} (h : c.wp P (fun e a w => e = .normal ∧ Q .normal a w) a w) : c.wp P Q a w :=
  wp_mono h (by rintro e a w ⟨rfl, h⟩; exact h)
def OutI (n₀ bo bb bs b4 : Nat) (l0 : List S55) (W0 : World) (pre : List ByteArray) (W : World) : Prop :=
  ∃ (lt : List S55) (ot : ByteArray) (v u : Value), pre.foldlM outStep (l0, (⟨#[]⟩ : ByteArray)) = some (lt, ot) ∧ Boxed W bo 29 v ∧ Kd.R k55 55 W n₀ (fun _ => True) v lt ∧
    Lib.IsBuilderF 95 5 n₀ bb (txtOf ot) W ∧ Boxed W bs 9 u ∧ Boxed W b4 29 (.slice none 0 0) ∧ Below n₀ W0 W
theorem OutI.stays {n₀ bo bb bs b4 : Nat} {l0 : List S55} {W0 A B : World} {pre : List ByteArray} (h : OutI n₀ bo bb bs b4 l0 W0 pre A) (hs : StaysT 9 A B) (hbs : ∃ u, Boxed B bs 9 u) (hb : Below n₀ W0 B) : OutI n₀ bo bb bs b4 l0 W0 pre B := by
  obtain ⟨lt, ot, v, u, h1, h2, h3, h4, h5, h6, h7⟩ := h
  obtain ⟨u', h5'⟩ := hbs
  exact ⟨lt, ot, v, u', h1, hs.2 _ _ _ _ h2 (by decide), R_stays h3 hs (by decide), builder_stays h4 hs (by decide) (by decide), h5', hs.2 _ _ _ _ h6 (by decide), hb⟩
theorem OutI.own {n₀ bo bb bs b4 B : Nat} {l0 : List S55} {W0 : World} (hn : n₀ ≤ W0.heap.size) (hB : n₀ ≤ B) : OwnFrom B (fun pre W => OutI n₀ bo bb bs b4 l0 W0 pre W) := by
  intro s X Y row hs hg hr
  have hb : Below n₀ W0 Y := by
    obtain ⟨_, _, _, _, _, _, _, _, _, _, h6⟩ := hs
    exact ownFrom_below (β := List ByteArray) hn hB s X Y row h6 hg hr
  refine hs.stays (StaysT.grown hg (fun r e => (hr r e).2)) ?_ hb
  obtain ⟨_, _, _, u, _, _, _, _, h5, _, _⟩ := hs
  exact ⟨u, StaysT.grown.cells_kept0 h5 hg (fun r e => (hr r e).2)⟩
set_option maxRecDepth 100000 in
set_option maxHeartbeats 8000000 in
theorem impl_MapTab_streamOut.calls (A0_0 : Option Addr) (c0_0 : Nat) (l0_0 : List (S55)) (a1 : ByteArray) (r1 : List (S55)) (r2 : ByteArray) (w : World) (hr0_0 : Kd.C k55 w A0_0 l0_0.length l0_0) (hc0_0 : l0_0.length ≤ c0_0) (h : impl_MapTab_streamOut.f l0_0 a1 = some (r1, r2)) (hE : EnvE w) :
    Calls Tryz.prog 56 #[.agg #[.slice A0_0 l0_0.length c0_0], .string a1] w fun e w' => ∃ v0_ : Value, e = .returned (.tuple #[.agg #[v0_], .string r2]) ∧ Kd.R k55 55 w' w.heap.size (fun _ => True) v0_ r1 ∧ Below w.heap.size w w' := by
  unfold impl_MapTab_streamOut.f at h
  by_cases hs : a1.size ≤ 4000000000
  · rw [if_pos hs] at h
    obtain ⟨l1, hcop, h⟩ := Option.bind_eq_some_iff.mp h
    have HS := Lib.hid hs
    have HE := Lib.hid hE
    have HF := Lib.hid h
    have HCOP := Lib.hid hcop
    have HC0 := Lib.hid hc0_0
    have HR0 := Lib.hid hr0_0
    clear hs hE h hcop hc0_0 hr0_0
    refine (callsIn_wide (n := 9)).1 ?_
    refine callsIn_of_wp_marks Tryz.func56 rfl trivial (wpIn_wide.2 ?_) rfl
    simp only [Tryz.ntmps56, List.size_toArray, List.length_cons, List.length_nil, Nat.reduceAdd, Nat.reduceSub, Array.replicate_succ, Array.replicate_zero, List.push_toArray, List.append_toArray, List.nil_append, List.cons_append]
    go_wp2_with (first
      | (go_at_call 82; refine (impl_MapTab_copied.calls A0_0 c0_0 l0_0 l1 _ (Kd.C_below HR0.out (below_alloc (below_alloc (Below.refl _ _) _) _)) HC0.out HCOP.out).mono ?_; rintro e w2 ⟨v1, rfl, hv1, hb2⟩; obtain ⟨A1, c1, rfl⟩ := Kd.R_slice hv1; have HV1 := Lib.hid hv1; have HB2 := Lib.hid hb2; clear hv1 hb2)
      | (go_at_call 52; refine (linesOf0 a1 _).mono ?_; rintro e w3 ⟨rfl, rfl⟩))
    have hb2 := HB2.out
    have hs2 : w.heap.size + 2 ≤ w2.heap.size := by have := hb2.size; simpa using this
    have hbW2 : Below w.heap.size w w2 := (below_alloc (below_alloc (Below.refl _ _) _) _).trans (hb2.mono (by simp; omega))
    have h4 : w2.heap[w.heap.size + 1]? = some (.cells #[.slice none 0 0] 29 (0, 0)) := by
      refine (hb2.block _ (by simp)).trans ?_
      have := heap_alloc_new (w.alloc (.cells #[.slice A0_0 l0_0.length c0_0] 29)) (.cells #[.slice none 0 0] 29)
      simp only [World.size_alloc] at this
      exact this
    obtain ⟨W0, hW0⟩ : ∃ W0, ((w2.alloc (.cells #[.slice A1 l1.length c1] 29)).alloc (.cells #[.pointer none, .slice none 0 0] 95)).alloc (.cells #[.string a1] 9) = W0 := ⟨_, rfl⟩
    have hsz : W0.heap.size = w2.heap.size + 3 := by rw [← hW0]; simp
    have hbo : Boxed W0 w2.heap.size 29 (.slice A1 l1.length c1) := by rw [← hW0]; exact ((Boxed.new _ _ _).alloc _).alloc _
    have hbb : W0.heap[w2.heap.size + 1]? = some (.cells #[.pointer none, .slice none 0 0] 95 (0, 0)) := by
      rw [← hW0]
      have := heap_alloc_new (w2.alloc (.cells #[.slice A1 l1.length c1] 29)) (.cells #[.pointer none, .slice none 0 0] 95)
      simp only [World.size_alloc] at this
      exact blk_alloc this _
    have hst : W0.heap[w2.heap.size + 1 + 1]? = some (.cells #[.string a1] 9 (0, 0)) := by
      rw [← hW0]
      have := heap_alloc_new ((w2.alloc (.cells #[.slice A1 l1.length c1] 29)).alloc (.cells #[.pointer none, .slice none 0 0] 95)) (.cells #[.string a1] 9)
      simp only [World.size_alloc] at this
      exact this
    have h40 : Boxed W0 (w.heap.size + 1) 29 (.slice none 0 0) := by rw [← hW0]; exact blk_alloc (blk_alloc (blk_alloc h4 _) _) _
    have hB0 : Below w.heap.size w W0 := by rw [← hW0]; exact ((hbW2.alloc (by omega) _).alloc (by simp only [World.size_alloc]; omega) _).alloc (by simp only [World.size_alloc]; omega) _
    have hR0 : Kd.R k55 55 W0 w.heap.size (fun _ => True) (.slice A1 l1.length c1) l1 := by
      rw [← hW0]
      exact Kd.R_alloc (Kd.R_alloc (Kd.R_alloc (Kd.R_lower HV1.out (by simp; omega)) _) _) _
    have hBd : Lib.IsBuilderF 95 5 w.heap.size (w2.heap.size + 1) (txtOf (⟨#[]⟩ : ByteArray)) W0 :=
      .inl ⟨by omega, .slice none 0 0, hbb, World.ownsRowF_nil _ _ _ _, by simp [Value.ownBlock]⟩
    rw [hW0]
    have HS2 := Lib.hid hs2
    have HB0 := Lib.hid hB0
    clear hW0 hbb h4 hbW2 HB2 hb2 HV1
    refine (wpIn_wide (n := 9)).1 ?_
    refine wpIn_rangeFunc_runs rfl (by omega) (gf := 77) (lb := #[.pointer (some ⟨w2.heap.size + 1 + 1, 0, none⟩)]) rfl trivial (enters_of Tryz.func77 (by kernel_rfl) rfl)
      (lines_runs (w2.heap.size + 1 + 1) w.heap.size a1 w W0 rfl hB0 (by omega) hst (by have := HS.out; omega) HE.out.e) KpL.trans (kpl_b (by omega) (by omega))
      (fun A B ⟨v, h⟩ k hk => by rw [h]; exact Below.heap_setCell A _ _ _ (by simp only; omega)) (Below.refl _ _) (fun _ => rfl)
      (OutI w.heap.size w2.heap.size (w2.heap.size + 1) (w2.heap.size + 1 + 1) (w.heap.size + 1) l1 W0)
      (OutI.own (by omega) (by omega))
      (fun s A B hi ⟨v, h⟩ => by
        subst h
        obtain ⟨_, _, _, u, _, _, _, _, h5, _, h7⟩ := id hi
        exact hi.stays (StaysT.set h5 v) ⟨v, h5.set v⟩ (h7.setCell (p := ⟨w2.heap.size + 1 + 1, 0, none⟩) (by simp only; omega) _))
      ⟨l1, _, _, _, rfl, hbo, hR0, hBd, hst, h40, Below.refl _ _⟩
      (fun x => { tmps := #[.agg #[.slice A0_0 l0_0.length c0_0], .string a1, .pointer (some ⟨w.heap.size, 0, none⟩), undef, .pointer (some ⟨w.heap.size + 1, 0, none⟩), .string ⟨#[]⟩, .pointer (some ⟨w2.heap.size, 0, none⟩), .pointer (some ⟨w2.heap.size + 1, 0, none⟩), .string x, undef, undef, .agg #[.slice A0_0 l0_0.length c0_0], .agg #[.slice A1 l1.length c1], .string a1, .func (.func 77) #[] #[.pointer (some ⟨w2.heap.size + 1 + 1, 0, none⟩)], .string x, undef, undef, undef, undef, undef, undef, undef, undef, undef, undef, undef, undef], defers := [] })
      ?assign ?body ?done
    case assign =>
      intro l x W K hK
      gi_wp2
      exact hK
    case body =>
      rintro l pre x W ⟨lt, ot, v, u, i1, i2, i3, i4, i5, i6, i7⟩ ⟨rr, hrr⟩
      obtain ⟨q2, g1, g2⟩ := fold_next hrr HF.out i1
      obtain ⟨y, g3, g4, g5, g6⟩ := outStep_some g1
      obtain ⟨A2, c2, hv, hc2, hC2⟩ := Kd.R_reads i3
      subst hv
      have hc := i2.cell
      have I2 := Lib.hid i2
      have I3 := Lib.hid i3
      have I4 := Lib.hid i4
      have I5 := Lib.hid i5
      have I6 := Lib.hid i6
      have I7 := Lib.hid i7
      have G2 := Lib.hid g2
      have G3 := Lib.hid g3
      have G4 := Lib.hid g4
      have G5 := Lib.hid g5
      have G6 := Lib.hid g6
      have HC2 := Lib.hid hc2
      have HCC := Lib.hid hC2
      have HEW := Lib.hid (HE.out.below (HB0.out.trans i7))
      have HSZ := Lib.hid hsz
      have hys : (9223372036854775807 < y.size + 1) = False := eq_false (by omega)
      clear i1 i2 i3 i4 i5 i6 i7 g1 g2 g3 g4 g5 g6 hrr hc2 hC2 hsz hbo hst h40 hB0 hR0 hBd hs2
      gi_wp2_with (first
        | (refine ⟨trivial, ?_⟩; gi_at_call 83; refine (CallsIn.inRound l (callsIn_wide.2 (impl_MapTab_goesOut.calls A2 c2 lt x q2.1 y W HCC.out HC2.out G3.out HEW.out))).mono ?_; rintro e w3 ⟨v3, rfl, hv3, hb3⟩; obtain ⟨A3, c3, rfl⟩ := Kd.R_slice hv3; have HV3 := Lib.hid hv3; have HB3 := Lib.hid hb3; have hbx3 : Boxed w3 w2.heap.size 29 (.slice A2 lt.length c2) := (hb3.block _ I2.out.lt).trans I2.out; have HX3 := Lib.hid hbx3; have hc3 := hbx3.cell; have hf3 := hbx3.frozen; have hl3 := hbx3.lt; clear hv3 hb3 hbx3 hc))
      refine ⟨trivial, ?_⟩
      obtain ⟨W4, hW4⟩ : ∃ W4, (w3.setCell ⟨w2.heap.size, 0, none⟩ (.slice A3 q2.1.length c3)).alloc (.cells #[.slice A3 q2.1.length c3] 29) = W4 := ⟨_, rfl⟩
      have st1 : StaysT 29 w3 W4 := by rw [← hW4]; exact (StaysT.set HX3.out _).trans (StaysT.below (below_alloc (Below.refl _ _) _))
      have st0 : StaysT 29 W W4 := (StaysT.below HB3.out).trans st1
      have bd4 := builder_stays I4.out st0 (by decide) (by decide)
      have r4 := R_stays HV3.out st1 (by decide)
      have bo4 : Boxed W4 w2.heap.size 29 (.slice A3 q2.1.length c3) := by rw [← hW4]; exact (HX3.out.set _).alloc _
      have bs4 : Boxed W4 (w2.heap.size + 1 + 1) 9 u := st0.2 _ _ _ _ I5.out (by decide)
      have hs2 := HS2.out
      have b44 : Boxed W4 (w.heap.size + 1) 29 (.slice none 0 0) := by
        rw [← hW4]
        refine blk_alloc ?_ _
        exact (Below.heap_setCell _ _ _ _ (by simp only; omega)).trans ((HB3.out.block _ I6.out.lt).trans I6.out)
      have hWn : w.heap.size ≤ W.heap.size := Nat.le_trans HB0.out.size I7.out.size
      have be4 : Below w.heap.size W W4 := by
        rw [← hW4]
        exact ((HB3.out.mono hWn).setCell (p := ⟨w2.heap.size, 0, none⟩) (by simp only; omega) _).alloc (by have := HB3.out.size; simp; omega) _
      have ko4 : KeepsOthers W W4 := by
        rw [← hW4]
        exact ((KeepsOthers.of_grownBy (grown_of_below HB3.out none) (fun _ _ e => by cases e)).trans (KeepsOthers.setCell _ _ _)).trans (KeepsOthers.alloc _ _)
      have hbbx : ∃ c, W4.heap[w2.heap.size + 1]? = some (.cells c 95 (0, 0)) := by
        rcases bd4 with ⟨_, _, h, _⟩ | ⟨_, _, h, _⟩ <;> exact ⟨_, h⟩
      rw [hW4]
      clear hW4 hys hc3 hf3 hl3
      refine (CallsIn.inRound l (callsIn_wide.2 (writeString_k w.heap.size (w2.heap.size + 1) (txtOf ot) (y ++ (⟨#[59]⟩ : ByteArray)) W4 bd4 (by rw [txt_size, ByteArray.size_append]; have := G4.out; have := G5.out; have : (⟨#[59]⟩ : ByteArray).size = 1 := rfl; omega) (Nat.le_trans hWn st0.1)))).mono ?_
      rintro e w5 ⟨rfl, hbd5, hb5, hk5⟩
      obtain ⟨cb, hcb⟩ := hbbx
      have fin : KeepsOthers W w5 ∧ (KpL w.heap.size (w2.heap.size + 1 + 1) W w5 ∧ OutI w.heap.size w2.heap.size (w2.heap.size + 1) (w2.heap.size + 1 + 1) (w.heap.size + 1) l1 W0 (pre ++ [x]) w5) := by
        have bs5 := box_others hk5 bs4 (by omega) (by decide)
        refine ⟨ko4.trans (keeps_others hk5 hcb hb5.size), ⟨be4.trans hb5, bs5.trans I5.out.symm⟩, q2.1, q2.2, _, u, G2.out, box_others hk5 bo4 (by omega) (by decide), R_others (Kd.R_lower r4 hWn) hk5 hcb (by decide), .inr ?_, bs5, box_others hk5 b44 (by omega) (by decide), (I7.out.trans be4).trans hb5⟩
        rw [G6.out, txt_append]; exact hbd5
      have FIN := Lib.hid fin
      clear fin hbd5 hb5 hk5 hcb st1 st0 bd4 r4 bo4 bs4 b44 be4 ko4
      gi_wp2
      exact FIN.out
    case done =>
      rintro D xs W hD rfl ⟨lt, ot, v, u, i1, i2, i3, i4, i5, i6, i7⟩ hK
      have hfin := Option.some.inj (i1.symm.trans HF.out)
      simp only [Prod.mk.injEq] at hfin
      obtain ⟨rfl, rfl⟩ := hfin
      obtain ⟨A2, c2, hv, hc2, hC2⟩ := Kd.R_reads i3
      subst hv
      have HSZ := Lib.hid hsz
      have HD := Lib.hid hD
      have I2 := Lib.hid i2
      have I3 := Lib.hid i3
      have I4 := Lib.hid i4
      have I6 := Lib.hid i6
      have I7 := Lib.hid i7
      have HK := Lib.hid hK
      have c2' := i2.cell
      have HC2 := Lib.hid c2'
      clear c2' i1 i2 i3 i4 i5 i6 i7 hc2 hC2 hsz hbo hst h40 hB0 hR0 hBd hs2 hD hK
      go_wp2_with fail
      refine wp_still ?_
      refine start_ (n := 4) (S := fun w' => w'.cell? ⟨w2.heap.size, 0, none⟩ = some (.slice A2 lt.length c2)) (ds := []) #[false, false, false, false] (by kernel_rfl) rfl rfl HC2.out (fun hHeld => ?_)
      refine take_ (i := 0) (N := some 26) (v := ?_) (a' := ?_) #[true, false, false, false] rfl rfl (by kernel_rfl) (fun _ _ _ h => nomatch h.1) (Or.inl ⟨by rfl, ?_⟩) hHeld ?_ ?_
      rotate_left
      · intro w' s0
        go_simp
        with_reducible rfl
      rotate_left
      · simp only [Act.put, List.setIfInBounds_toArray, List.set_cons_zero, List.set_cons_succ, i64_w, i32_w]
        rfl
      refine one_ (i := 1) (N := some 27) #[true, true, false, false] rfl rfl (by kernel_rfl) (by decide) (fun K hK => ?_)
      refine goes_ Tryz.func85 (by kernel_rfl) rfl #[.pointer (some ⟨w2.heap.size + 1, 0, none⟩)] (by rfl) rfl rfl (by (try simp only [List.map_toArray, List.map_cons, List.map_nil]); first | done | rfl) ?_
      have hWn : w.heap.size ≤ W.heap.size := Nat.le_trans HB0.out.size I7.out.size
      have hWd : w.heap.size ≤ W.drew.heap.size := hWn
      have bd : Lib.IsBuilderF 95 5 w.heap.size (w2.heap.size + 1) (Lib.byteCells ot.data.toList) W.drew := I4.out
      have hbbx : ∃ c, W.drew.heap[w2.heap.size + 1]? = some (.cells c 95 (0, 0)) := by
        rcases bd with ⟨_, _, h, _⟩ | ⟨_, _, h, _⟩ <;> exact ⟨_, h⟩
      with_reducible refine (Tryz.Builder_String_any_k w.heap.size (w2.heap.size + 1) ot.data.toList W.drew bd hWd).mono ?_
      rintro e w5 ⟨rfl, _, hb5, hk5⟩
      obtain ⟨cb, hcb⟩ := hbbx
      refine ⟨_, rfl, ?_⟩
      have hs2 := HS2.out
      have bo5 : Boxed w5 w2.heap.size 29 (.slice A2 lt.length c2) := box_others hk5 (show Boxed W.drew _ _ _ from I2.out) (by omega) (by decide)
      have b45 : Boxed w5 (w.heap.size + 1) 29 (.slice none 0 0) := box_others hk5 (show Boxed W.drew _ _ _ from I6.out) (by omega) (by decide)
      have R5 := Lib.hid (R_others (Kd.R_drew I3.out) hk5 hcb (by decide))
      have K5 : w5.heap[D]? = some (.deferred (some [])) := (keeps_others hk5 hcb hb5.size).same D _ HK.out rfl
      have KK5 := Lib.hid K5
      have BB5 := Lib.hid ((HB0.out.trans (below_drew I7.out)).trans hb5)
      have BO5 := Lib.hid bo5
      have B45 := Lib.hid b45
      clear hb5 hk5 hcb bd bo5 b45 K5
      refine hK.out _ _ BO5.out.cell (fun hHeld => ?_)
      clear hK K
      refine norm_ (a' := ?_) ?_ ?_
      rotate_left
      · show Act.put _ (some 27) _ = _
        simp only [Act.put, List.setIfInBounds_toArray, List.set_cons_zero, List.set_cons_succ, i64_w, i32_w]
        rfl
      refine one_ (i := 2) (N := none) #[true, true, true, false] rfl rfl (by kernel_rfl) (by decide) (fun K hK => ?_)
      have q1 := B45.out.cell
      have q2 := B45.out.frozen
      have q3 := B45.out.lt
      refine skip_ (w1 := ?_) (by rfl) rfl ?_ ?_
      rotate_left
      · go_simp
        rfl
      have bo6 : Boxed (w5.setCell ⟨w.heap.size + 1, 0, none⟩ (.slice A2 lt.length c2)) w2.heap.size 29 (.slice A2 lt.length c2) := (Below.heap_setCell _ _ _ _ (by simp only; omega)).trans BO5.out
      refine hK.out _ _ bo6.cell (fun hHeld => ?_)
      clear hK K
      refine pure_ (i := 3) (N := some 5) (v := ?_) (a' := ?_) #[true, true, true, true] rfl rfl (by kernel_rfl) (fun _ _ _ h => nomatch h.1) (Or.inl ⟨by rfl, ?_⟩) ?_ ?_
      rotate_left
      · intro w'
        go_simp
        with_reducible rfl
      rotate_left
      · simp only [Act.put, List.setIfInBounds_toArray, List.set_cons_zero, List.set_cons_succ, i64_w, i32_w]
        rfl
      refine done_ (by kernel_rfl) ⟨rfl, ?_⟩
      go_wp2
      have hs7 := HSZ.out
      have hd7 := HD.out
      have k6 : (w5.setCell ⟨w.heap.size + 1, 0, none⟩ (.slice A2 lt.length c2)).heap[D]? = some (.deferred (some [])) := (Below.heap_setCell _ _ _ _ (by simp only; omega)).trans KK5.out
      have b6 : ((w5.setCell ⟨w.heap.size + 1, 0, none⟩ (.slice A2 lt.length c2)).putObj D (.deferred none)).heap[w.heap.size + 1]? = some (.cells #[.slice A2 lt.length c2] 29 (0, 0)) :=
        (World.putObj_heap_other (by omega)).trans (B45.out.set _)
      have R6 : Kd.R k55 55 ((w5.setCell ⟨w.heap.size + 1, 0, none⟩ (.slice A2 lt.length c2)).putObj D (.deferred none)) w.heap.size (fun _ => True) (.slice A2 lt.length c2) lt :=
        R_stays (R_stays R5.out (StaysT.set B45.out _) (by decide)) (q := 29) ⟨by simp [World.putObj], fun k c t f h _ => (World.putObj_heap_other (fun e => by subst e; rw [k6] at h; cases h)).trans h⟩ (by decide)
      have B6 : Below w.heap.size w ((w5.setCell ⟨w.heap.size + 1, 0, none⟩ (.slice A2 lt.length c2)).putObj D (.deferred none)) :=
        (BB5.out.setCell (p := ⟨w.heap.size + 1, 0, none⟩) (by simp) _).trans (belowK_b (w := w) (Nat.le_refl _) _ D _ _ (by omega) k6 rfl rfl)
      refine ⟨by simp, .inl ⟨_, _, rfl, run_takeDeferred k6, ?_⟩⟩
      exact ⟨_, results_ct rfl _ _ (w.heap.size + 1) 29 #[.slice A2 lt.length c2] (0, 0) _ rfl b6 Tryz.underlying29 rfl (by kernel_rfl), _, rfl, R6, B6⟩
  · rw [if_neg hs] at h; cases h
end
end Go.Proofs.YtakfmcpjnkagmaaGreatDoor.P
namespace Go.Proofs.YtakfmcpjnkagmaaGreatDoor.P
open Go.Proofs.YtakfmcpjnkagmaaGreatDoorUFnExactPosOut.PrintLast Go.Proofs.YtakfmcpjnkagmaaGreatDoorUFnExactPosOut.PrintMore Go.Proofs.YtakfmcpjnkagmaaGreatDoorUFnExactPosOut.PrintWords Go.RowKit
set_option linter.unusedVariables false
set_option linter.unusedSimpArgs false
section
attribute [local go_sem] max2_int min2_int max_two min_two max_three min_three max_four min_four
def impl_StrOk.l0 : Nat → ByteArray → List ByteArray → Int → Int → Option (Bool)
 | 0,_,_,_,_=>none
 | k + 1,x0,x15,x16,x17=>if x17 < x16 then (if 0 ≤ x17 then (if x17 < (x15.length : Int) then ((impl_LinOk.f (rdOf ByteArray.empty x15 x17)).bind fun t310=>(if t310 = true then (impl_StrOk.l0 k x0 x15 x16 (wrap64 (x17 + 1))) else (some false))) else (none)) else (none)) else (some (decide ((x0.size : Int) ≤ 120)))
def impl_StrOk.f (k : Nat) (a0 : ByteArray) : Option (Bool):=(impl_StrLines.f a0).bind fun bt302=>(if bt302.1.length < 8796093022208 then ((some (bt302.1 ++ [bt302.2] : List ByteArray)).bind fun y306=>(impl_StrOk.l0 k a0 y306 (y306.length : Int) 0)) else (none))
set_option maxHeartbeats 8000000 in
set_option maxRecDepth 100000 in
theorem impl_StrOk.calls (k : Nat) (a0 : ByteArray) (r : Bool) (w : World) (h : impl_StrOk.f k a0 = some r) (hE : Env w) :
  Calls Tryz.prog 55 #[.string a0] w fun e w'=>e = .returned (.bool r) ∧ Below w.heap.size w w':=by
 have HB:=am (Below.refl w.heap.size w)
 have H : ((impl_StrLines.f a0).bind fun bt302=>(if bt302.1.length < 8796093022208 then ((some (bt302.1 ++ [bt302.2] : List ByteArray)).bind fun y306=>(impl_StrOk.l0 k a0 y306 (y306.length : Int) 0)) else (none))) = some r:=h
 clear h
 obtain ⟨⟨t302,t303⟩,A2,H⟩:=bse H
 try dsimp only at H
 by_cases c3 : t302.length < 8796093022208
 ·rw [if_pos c3] at H
  have LMc3:=am c3
  clear c3
  obtain ⟨y306,hy306⟩ : ∃ y_ : List ByteArray,y_ = (t302 ++ [t303]):=⟨_,rfl⟩
  replace H : (impl_StrOk.l0 k a0 y306 (y306.length : Int) 0) = some r:=by first | (rw [hy306];with_reducible exact H) | (have H2_:=(Option.bind_some _ _).symm.trans H;rw [hy306];with_reducible exact H2_) | (have H2_:=(Option.bind_some _ _).symm.trans H;with_reducible exact H2_) | with_reducible exact H | (rw [hy306];exact H) | exact H
  have Ny306:=am hy306
  clear hy306
  have H':=am H
  clear H
  go_enter Tryz.func55,Tryz.ntmps55
  go_wp2_with (first | ((with_reducible refine gC 29 rfl ?_);refine gL (some 9) Tryz.func29 #[.string a0] ?_;(with_reducible refine (impl_StrLines.calls a0 t302 t303 _ A2.out (Env.below hE (bl HB))).mono ?_);rintro e w4 ⟨v304,rfl,ho0,hb⟩;refine ⟨_,rfl,?_⟩;have HO305:=am (Kd.R_lower ho0 (below_size (bl HB)));replace HB:=hbS HB hb;(try clear hb);(try clear ho0)) | ((with_reducible refine gate_builtin (b:=.append) (xs:=#[.tmp 12,.tmp 14]) rfl ?_);at_builtin;refine Kd.R_append Kd.string (w0:=w) w.heap.size rfl (.tmp 12) (.tmp 14) 45 9 (.string ⟨#[]⟩) 16 rfl Tryz.underlying45 info9 rfl (by decide) (by omega) v304 t302 t303 [.string t303] (fun _=>True) (fun _=>False) rfl rfl ?aP (fun _ hk=>hk.elim) ?aF ?aO ?aB ?aS ?aL ?_;(case aP=>exact rfl);(case aB=>exact (bl HB));(case aF=>exact (fun _ _=>trivial));(case aO=>exact (rs HO305));(case aS=>exact (below_size (bl HB)));(case aL=>have:=LMc3.out;omega);intro v307 w5 ho hb hg hat;rw [← Ny306.out] at ho;replace HB:=am hb;have HO308:=am (ho);clear HO305;clear ho hb hg hat;obtain ⟨Ao6,co6,eo6⟩:=Kd.R_slice HO308.out;subst eo6))
  go_loopg [17] k (fun kq v17 w'=>∃ (x17_1 : Int),v17 = .int .i64 x17_1 ∧ Aside0 (impl_StrOk.l0 kq a0 y306 (y306.length : Int) x17_1 = some r) ∧ Aside0 (kq ≤ k) ∧ Aside0 (Kd.R Kd.string 9 w' w.heap.size (fun _=>True) (.slice Ao6 y306.length co6) y306) ∧ Aside0 (Below w.heap.size w w'))
  case atStart=>exact ⟨(0),rs_,H',⟨Nat.le_refl _⟩,⟨by (with_reducible repeat apply ru);exact HO308.out⟩,⟨m0_⟩⟩
  case round=>
   clear H'
   try clear c2
   try clear p2
   try clear c3
   try clear c5
   obtain ⟨x17_1,rfl,HA,HK1,HO_15,HB⟩:=hrel
   cases gk with
   | zero=>exact absurd HA.out (by simp [impl_StrOk.l0])
   | succ k1=>
    have H:=HA.out
    clear HA
    simp only [impl_StrOk.l0] at H
    by_cases c7 : x17_1 < (y306.length : Int)
    ·rw [if_pos c7] at H
     have c7b0 : decide (x17_1 < (y306.length : Int)) = true:=decide_eq_true c7
     clear c7
     by_cases c8 : 0 ≤ x17_1
     ·rw [if_pos c8] at H
      have c8b0 : decide (0 ≤ x17_1) = true:=decide_eq_true c8
      clear c8
      by_cases c9 : x17_1 < (y306.length : Int)
      ·rw [if_pos c9] at H
       have c9b0 : decide (x17_1 < (y306.length : Int)) = true:=decide_eq_true c9
       clear c9
       obtain ⟨t310,A10,H⟩:=bse H
       try dsimp only at H
       by_cases c11 : t310 = true
       ·subst c11
        have H1 : (impl_StrOk.l0 k1 a0 y306 (y306.length : Int) (wrap64 (x17_1 + 1))) = some r:=by rw [if_pos rfl] at H;exact H
        clear H
        have H:=H1
        clear H1
        have H':=am H
        clear H
        have p309 : 0 ≤ (x17_1 : Int):=of_decide_eq_true da_
        have q309 : x17_1 < (y306.length : Int):=of_decide_eq_true da_
        obtain ⟨ad309,e309,hx309_0⟩:=Kd.at_string (Kd.R_reads' HO_15.out).2.2 x17_1 p309 q309
        cases e309
        replace p309:=eq_true p309
        replace q309:=eq_true q309
        go_wp2_with (first | ((with_reducible refine gC 50 rfl ?_);refine gL (some 22) Tryz.func50 #[.string (rdOf ByteArray.empty y306 x17_1)] ?_;(with_reducible refine (impl_LinOk.calls (rdOf ByteArray.empty y306 x17_1) true _ A10.out).mono ?_);rintro e w12 ⟨rfl,hb⟩;refine ⟨_,rfl,?_⟩;replace HO_15:=am (Kd.R_below (rs HO_15) hb);replace HB:=hbS HB hb;(try clear hb)))
        go_roundg k1
        case measure=>have:=HK1.out;omega
        case rel=>exact ⟨(wrap64 (x17_1 + 1)),rs_,H',⟨by have:=HK1.out;omega⟩,⟨by (with_reducible repeat apply ru);exact HO_15.out⟩,⟨m0_⟩⟩
       ·replace c11:=Bool.eq_false_iff.mpr c11
        subst c11
        have H1 : (some false) = some r:=by rw [if_neg (show ¬ (false = true) by decide)] at H;exact H
        clear H
        have H:=H1
        clear H1
        obtain rfl:=Option.some.inj H
        have p309 : 0 ≤ (x17_1 : Int):=of_decide_eq_true da_
        have q309 : x17_1 < (y306.length : Int):=of_decide_eq_true da_
        obtain ⟨ad309,e309,hx309_0⟩:=Kd.at_string (Kd.R_reads' HO_15.out).2.2 x17_1 p309 q309
        cases e309
        replace p309:=eq_true p309
        replace q309:=eq_true q309
        go_wp2_with (first | ((with_reducible refine gC 50 rfl ?_);refine gL (some 22) Tryz.func50 #[.string (rdOf ByteArray.empty y306 x17_1)] ?_;(with_reducible refine (impl_LinOk.calls (rdOf ByteArray.empty y306 x17_1) false _ A10.out).mono ?_);rintro e w13 ⟨rfl,hb⟩;refine ⟨_,rfl,?_⟩;replace HO_15:=am (Kd.R_below (rs HO_15) hb);replace HB:=hbS HB hb;(try clear hb)))
        go_ret
        exact ⟨fi_,m0_⟩
      ·rw [if_neg c9] at H
       exact absurd H (by simp)
     ·rw [if_neg c8] at H
      exact absurd H (by simp)
    ·rw [if_neg c7] at H
     have c7b0 : decide (x17_1 < (y306.length : Int)) = false:=decide_eq_false c7
     clear c7
     obtain rfl:=Option.some.inj H
     go_wp2
     go_ret
     exact ⟨fi_,m0_⟩
 ·rw [if_neg c3] at H
  exact absurd H (by simp)
end
theorem implStrLines_f {s : ByteArray} (hs : s.size ≤ 4000000000) : impl_StrLines.f s = some (linesB s, restB s) := by
  unfold impl_StrLines.f; rw [if_pos hs]
theorem implStrOk_a (s : ByteArray) (hs : s.size ≤ 1048576) : Ans (fun k => impl_StrOk.f k s) (fun r => r = strOkW s) := by
  unfold impl_StrOk.f
  rw [implStrLines_f (by omega)]
  obtain ⟨z1, z2, z3⟩ := linesB_size s
  refine Ans.bsome (Ans.pos (by dsimp only; omega) (Ans.bsome ?_))
  dsimp only
  have hlen : (linesB s ++ [restB s]).length ≤ 1048577 := by simp; omega
  have hsz : ∀ x ∈ linesB s ++ [restB s], x.size ≤ 1048576 := by
    intro x hx
    rcases List.mem_append.mp hx with h | h
    · have := z2 x h; omega
    · have : x = restB s := by simpa using h
      subst this; omega
  have e0 : strOkW s = ((linesB s ++ [restB s]).all linOk && decide (s.size ≤ 120)) := by
    unfold strOkW
    rw [List.all_append]
    cases decide (s.size ≤ 120) <;> simp
  rw [e0]
  generalize linesB s ++ [restB s] = y at hlen hsz ⊢
  have L : ∀ (m i : Nat), y.length - i = m → i ≤ y.length → Ans (fun k => impl_StrOk.l0 k s y (y.length : Int) (i : Int)) (fun r => r = ((y.drop i).all linOk && decide (s.size ≤ 120))) := by
    intro m
    induction m with
    | zero =>
      intro i hm hi
      refine Ans.succ ?_
      unfold impl_StrOk.l0
      refine Ans.neg (by omega) (Ans.pure ?_)
      rw [List.drop_eq_nil_of_le (by omega)]
      simp
      omega
    | succ m ih =>
      intro i hm hi
      have hlt : i < y.length := by omega
      have hw : wrap64 ((i : Int) + 1) = ((i + 1 : Nat) : Int) := w64 _ (by omega)
      refine Ans.succ ?_
      unfold impl_StrOk.l0
      refine Ans.pos (by omega) (Ans.pos (by omega) (Ans.pos (by omega) ?_))
      rw [rdOf_get hlt, hw]
      have hx := hsz _ (List.getElem_mem hlt)
      have el : impl_LinOk.f y[i] = some (linOk y[i]) := by unfold impl_LinOk.f; rw [if_pos (by omega)]
      rw [el]
      refine Ans.bsome ?_
      have e : y.drop i = y[i] :: y.drop (i + 1) := List.drop_eq_getElem_cons hlt
      rw [e, List.all_cons]
      cases hq : linOk y[i] with
      | true => exact Ans.pos rfl ((ih (i + 1) (by omega) (by omega)).mono (by rintro v rfl; simp))
      | false => exact Ans.neg (by simp) (Ans.pure (by simp))
  exact (L _ 0 rfl (Nat.zero_le _)).mono (by rintro v rfl; simp)
theorem strOkW_parts {s : ByteArray} (h : strOkW s = true) : s.size ≤ 120 ∧ (linesB s).all linOk = true ∧ linOk (restB s) = true := by
  unfold strOkW at h
  simpa only [Bool.and_eq_true, decide_eq_true_eq] using h
theorem fold_strW : ∀ (xs : List ByteArray) (l : List S55) (o : ByteArray), okT l = true → xs.all linOk = true → o.size + 17 * xs.length ≤ 100000000 → xs.foldlM outStep (l, o) = some (strW l xs o)
  | [], l, o, _, _, _ => rfl
  | x :: r, l, o, c, h, hz => by
    simp only [List.all_cons, Bool.and_eq_true] at h
    obtain ⟨g1, g2, g3⟩ := lineW_ok c h.1
    have hx := linOk_size h.1
    simp only [List.length_cons] at hz
    have h1 : (⟨#[59]⟩ : ByteArray).size = 1 := rfl
    have e : outStep (l, o) x = some ((lineW l x).1, (o ++ (lineW l x).2) ++ (⟨#[59]⟩ : ByteArray)) := by
      unfold outStep
      rw [implGoesOut_f c (by omega), Option.bind_some, if_pos (by dsimp only; omega)]
      dsimp only
      rw [show o ++ ((lineW l x).2 ++ (⟨#[59]⟩ : ByteArray)) = (o ++ (lineW l x).2) ++ (⟨#[59]⟩ : ByteArray) from bax (by simp)]
    rw [List.foldlM_cons, e]
    exact fold_strW r _ _ g1 h.2 (by simp only [ByteArray.size_append, h1]; omega)
theorem implStream_f {l : List S55} {s : ByteArray} (c : okT l = true) (cs : strOkW s = true) : impl_MapTab_streamOut.f l s = some (strW l (linesB s) ⟨#[]⟩) := by
  obtain ⟨h120, hall, _⟩ := strOkW_parts cs
  have hl := okT_le c
  have z := linesB_size s
  have e : impl_MapTab_copied.f l = some l := by
    unfold impl_MapTab_copied.f impl_EndPoint_103.f impl_EndPoint_102.f
    rw [if_pos (by omega)]; rfl
  unfold impl_MapTab_streamOut.f
  rw [if_pos (by omega), e, Option.bind_some]
  exact fold_strW _ _ _ c hall (by have : (⟨#[]⟩ : ByteArray).size = 0 := rfl; omega)
def farsL : List S55 → List ByteArray → List ByteArray
  | _, [] => []
  | l, x :: r => (lineW l x).2 :: farsL (lineW l x).1 r
def tabL : List S55 → List ByteArray → List S55
  | l, [] => l
  | l, x :: r => tabL (lineW l x).1 r
def joinS : List ByteArray → ByteArray
  | [] => ⟨#[]⟩
  | y :: r => (y ++ (⟨#[59]⟩ : ByteArray)) ++ joinS r
theorem strW_eq : ∀ (xs : List ByteArray) (l : List S55) (o : ByteArray), strW l xs o = (tabL l xs, o ++ joinS (farsL l xs))
  | [], l, o => by show (l, o) = (l, o ++ (⟨#[]⟩ : ByteArray)); congr 1; exact bax (by simp)
  | x :: r, l, o => by
    show strW (lineW l x).1 r ((o ++ (lineW l x).2) ++ (⟨#[59]⟩ : ByteArray)) = _
    rw [strW_eq r]
    show (_, _) = (_, _)
    congr 1
    exact bax (by simp [joinS, farsL])
theorem strW_nil (l : List S55) (xs : List ByteArray) : strW l xs (⟨#[]⟩ : ByteArray) = (tabL l xs, joinS (farsL l xs)) := by
  rw [strW_eq]
  have e : (⟨#[]⟩ : ByteArray) ++ joinS (farsL l xs) = joinS (farsL l xs) := bax (by simp)
  rw [e]
theorem rwrStream_ok {l : List S55} {s : ByteArray} (c : okT l = true) (cs : strOkW s = true) : rwrStreamW l s = (tabL l (linesB s), joinS (farsL l (linesB s))) := by
  unfold rwrStreamW; rw [c, cs]; simp only [Bool.and_self, if_true]; exact strW_nil _ _
theorem farsL_length : ∀ (xs : List ByteArray) (l : List S55), (farsL l xs).length = xs.length
  | [], _ => rfl
  | x :: r, l => by simp [farsL, farsL_length r]
theorem linOk_no {x : ByteArray} (h : linOk x = true) : ∀ c ∈ x.data.toList, c ≠ 59 := by
  intro c hc e
  unfold linOk bys at h
  simp only [Bool.and_eq_true, List.all_map, List.all_eq_true] at h
  have := h.1 c hc
  subst e
  revert this; decide
theorem lineL_at : ∀ (x y : List UInt8) (w : ByteArray), (∀ c ∈ x, c ≠ 59) → lineL w (x ++ 59 :: y) = (w ++ ⟨x.toArray⟩) :: lineL ⟨#[]⟩ y
  | [], y, w, _ => by
    simp only [List.nil_append, lineL, if_true]; congr 1; exact bax (by simp)
  | c :: x, y, w, h => by
    rw [List.cons_append, lineL, if_neg (h c (by simp)), lineL_at x y _ (fun d hd => h d (by simp [hd]))]
    congr 1; exact bax (by simp)
theorem lines_cons (y t : ByteArray) (h : ∀ c ∈ y.data.toList, c ≠ 59) : linesB ((y ++ (⟨#[59]⟩ : ByteArray)) ++ t) = y :: linesB t ∧ restB ((y ++ (⟨#[59]⟩ : ByteArray)) ++ t) = restB t := by
  have e : ((y ++ (⟨#[59]⟩ : ByteArray)) ++ t).data.toList = y.data.toList ++ 59 :: t.data.toList := by simp
  unfold linesB restB
  rw [e, lineL_at _ _ _ h, restL_at]
  have e2 : (⟨#[]⟩ : ByteArray) ++ ⟨y.data.toList.toArray⟩ = y := bax (by simp)
  rw [e2]
  exact ⟨rfl, rfl⟩
theorem lines_join : ∀ (ys : List ByteArray), (∀ y ∈ ys, ∀ c ∈ y.data.toList, c ≠ 59) → linesB (joinS ys) = ys ∧ restB (joinS ys) = ⟨#[]⟩
  | [], _ => ⟨rfl, rfl⟩
  | y :: r, h => by
    obtain ⟨a, b⟩ := lines_cons y (joinS r) (h y (by simp))
    obtain ⟨a2, b2⟩ := lines_join r (fun z hz => h z (by simp [hz]))
    exact ⟨by show linesB ((y ++ (⟨#[59]⟩ : ByteArray)) ++ joinS r) = _; rw [a, a2], by show restB ((y ++ (⟨#[59]⟩ : ByteArray)) ++ joinS r) = _; rw [b, b2]⟩
theorem lineW_says {l : List S55} {s : ByteArray} (c : okT l = true) : saysW (lineW l s).2 = none := by
  unfold lineW
  cases hr : saysW s with
  | none => exact hr
  | some r =>
    obtain ⟨a, p⟩ := r
    obtain ⟨f1, f2, f3, f4, f5⟩ := put_facts c (saysW_in hr)
    dsimp only
    split
    · exact says_none
    · rename_i h0
      obtain ⟨i, hi, e⟩ := f5 h0
      exact says_port (by omega)
theorem fars_ok : ∀ (xs : List ByteArray) (l : List S55), okT l = true → xs.all linOk = true → okT (tabL l xs) = true ∧ ∀ y ∈ farsL l xs, linOk y = true ∧ saysW y = none
  | [], l, c, _ => ⟨c, fun y hy => by cases hy⟩
  | x :: r, l, c, h => by
    simp only [List.all_cons, Bool.and_eq_true] at h
    obtain ⟨g1, g2, g3⟩ := lineW_ok c h.1
    obtain ⟨a, b⟩ := fars_ok r (lineW l x).1 g1 h.2
    refine ⟨a, fun y hy => ?_⟩
    rcases List.mem_cons.mp hy with rfl | hy
    · exact ⟨g3, lineW_says c⟩
    · exact b y hy
theorem kd_make0 {P : Program} {ops : Array Oper} {rest : List Oper} {o : Oper} {a : Act} {Q : Exit → Act → World → Prop} {α : Type} (d : Kd α) {w0 W : World} (base e : Nat) (hgd : o.guard = none) {N : Tmp} (hd : o.dst = some N) (t : TypeId) (x y : Operand) (ho : o.op = .makeSlice t x y) (c : Int) (hx : a.eval x = .int .i64 0) (hy : a.eval y = .int .i64 c)
    (ht : P.underlying t = some (.slice e)) (z : Value) (bytes : Nat) (hinfo : (P.info? e).map (fun i => (i.zero, i.size, i.bytes)) = some (some z, d.sz, bytes)) (hz : z.cells.size = d.sz) (hs0 : 0 < d.sz) (hb0 : 0 < bytes)
    (z0 : α) {ok okp : Nat → Prop} (hzero : d.M W base okp z0 z.cells.toList) (hok : ∀ k, okp k → ok k) (hfresh : ok W.heap.size) (h0 : 0 ≤ c) (hl : c.toNat * bytes ≤ 281474976710656) (HB : Below base w0 W) (hbase : base ≤ W.heap.size)
    (h : ∀ v1 w1, d.R e w1 base ok v1 (List.replicate (0 * c.toNat) z0) → Below base w0 w1 → W.grownBy w1 none → (∃ b, v1.ownBlock = some b ∧ W.heap.size ≤ b) → wpList P ops Q rest (a.put o.dst v1) w1) : wpList P ops Q (o :: rest) a W := by
  obtain ⟨m, rfl⟩ := Int.eq_ofNat_of_zero_le h0
  simp only [Int.toNat_natCast] at hl
  obtain ⟨i0, hi, hzz⟩ := Option.map_eq_some_iff.1 hinfo
  simp only [Prod.mk.injEq] at hzz
  obtain ⟨hz0, hz1, hz2⟩ := hzz
  have hm : m ≤ 281474976710656 := Nat.le_trans (Nat.le_mul_of_pos_right _ hb0) hl
  refine wpList_make_own W hgd x y t ho base e i0 z d.sz ht hi hz0 hz1 .i64 .i64 (m : Int) m hx hy rfl (by rw [hz2, Nat.mul_comm]; exact hl) (by unfold maxLen; omega) hbase ?_
  intro w1 hown hg
  rw [Nat.zero_mul] at h
  refine h _ w1 ⟨fun k hk => ?_, [], .of_owns hown, Reps.none _ _⟩ (HB.grown hg hbase (fun k e => by cases e)) hg ⟨_, rfl, Nat.le_refl _⟩
  have : W.heap.size = k := by simpa [Value.ownBlock] using hk
  subst this
  exact hfresh
section
attribute [local go_sem] max2_int min2_int max_two min_two max_three min_three max_four min_four
def impl_spansOf.l0 : Nat → List ByteArray → List ByteArray → List (S50) → Int → Int → Int → Int → Option ((List (S50)))
 | 0,_,_,_,_,_,_,_=>none
 | k + 1,x5,x7,x10,x11,x12,x32,x33=>if x33 < x32 then (if 0 ≤ x33 then (if x33 < (x5.length : Int) then (if x33 < (x7.length : Int) then (if x10.length < 3518437208883 then (impl_spansOf.l0 k x5 x7 (x10 ++ [(⟨x11,wrap64 ((wrap64 (x11 + ((rdOf ByteArray.empty x5 x33).size : Int))) + 1),x12,wrap64 ((wrap64 (x12 + ((rdOf ByteArray.empty x7 x33).size : Int))) + 1),((rdOf ByteArray.empty x5 x33).toList == (rdOf ByteArray.empty x7 x33).toList)⟩ : S50)]) (wrap64 ((wrap64 (x11 + ((rdOf ByteArray.empty x5 x33).size : Int))) + 1)) (wrap64 ((wrap64 (x12 + ((rdOf ByteArray.empty x7 x33).size : Int))) + 1)) x32 (wrap64 (x33 + 1))) else (none)) else (none)) else (none)) else (none)) else (some x10)
def impl_spansOf.f (k : Nat) (a0 : ByteArray) (a1 : ByteArray) : Option ((List (S50))):=(impl_StrLines.f a0).bind fun bt408=>((impl_StrLines.f a1).bind fun bt412=>(if 0 ≤ (mn (bt408.1.length : Int) (bt412.1.length : Int)) then (if (mn (bt408.1.length : Int) (bt412.1.length : Int) : Int).toNat ≤ 7036874417766 then (impl_spansOf.l0 k bt408.1 bt412.1 (List.replicate (0 * (mn (bt408.1.length : Int) (bt412.1.length : Int) : Int).toNat) z50) 0 0 (mn (bt408.1.length : Int) (bt412.1.length : Int)) 0) else (none)) else (none)))
def impl_spansOf.T9 : Bool × List (List Nat × List Nat):=(true,[([],[]),([],[]),([],[]),([],[]),([2,3],[2,3]),([4],[4]),([5],[5]),([1,6],[1,6]),([7],[7]),([],[]),([],[]),([],[]),([],[]),([11,12],[11,12]),([13],[13]),([14],[14]),([10,15],[10,15]),([16],[16]),([],[]),([],[]),([18,19],[18,19]),([20],[20]),([],[]),([],[]),([22,23],[22,23]),([24],[24]),([21,25],[21,25]),([0,8,9,17,26],[0,8,9,17,26]),([],[]),([28,27,0,1,2,3,4,5,6,7,8,9,10,11,12,13,14,15,16,17,18,19,20,21,22,23,24,25,26,27,28],[27,28])])
def impl_spansOf.B9 : List Nat:=[0,0,0,0,12,28,60,126,254,0,0,0,0,6144,14336,30720,64512,130048,0,0,786432,1835008,0,0,12582912,29360128,66846720,134217727,0,536870911]
theorem impl_spansOf.tab9 : rtab .any (opsOf Tryz.f62 9) = impl_spansOf.T9:=by kernel_rfl
theorem impl_spansOf.bits9 : waitsOk impl_spansOf.T9.2 impl_spansOf.B9 = true:=by kernel_rfl
set_option maxHeartbeats 8000000 in
set_option maxRecDepth 100000 in
theorem impl_spansOf.calls (k : Nat) (a0 : ByteArray) (a1 : ByteArray) (r : List (S50)) (w : World) (h : impl_spansOf.f k a0 a1 = some r) (hE : Env w) :
  Calls Tryz.prog 62 #[.string a0,.string a1] w fun e w'=>∃ v0_ : Value,e = .returned (v0_) ∧ Kd.R k50 50 w' w.heap.size (fun _=>True) v0_ r ∧ Below w.heap.size w w':=by
 have hu50:=Tryz.underlying50
 have HB:=am (Below.refl w.heap.size w)
 have H : ((impl_StrLines.f a0).bind fun bt408=>((impl_StrLines.f a1).bind fun bt412=>(if 0 ≤ (mn (bt408.1.length : Int) (bt412.1.length : Int)) then (if (mn (bt408.1.length : Int) (bt412.1.length : Int) : Int).toNat ≤ 7036874417766 then (impl_spansOf.l0 k bt408.1 bt412.1 (List.replicate (0 * (mn (bt408.1.length : Int) (bt412.1.length : Int) : Int).toNat) z50) 0 0 (mn (bt408.1.length : Int) (bt412.1.length : Int)) 0) else (none)) else (none)))) = some r:=h
 clear h
 obtain ⟨⟨t408,t409⟩,A3,H⟩:=bse H
 try dsimp only at H
 obtain ⟨⟨t412,t413⟩,A4,H⟩:=bse H
 try dsimp only at H
 obtain ⟨ji5,hji5⟩ : ∃ j_ : Int,(mn (t408.length : Int) (t412.length : Int)) = j_:=⟨_,rfl⟩
 replace H : (if 0 ≤ (ji5) then (if (ji5 : Int).toNat ≤ 7036874417766 then (impl_spansOf.l0 k t408 t412 (List.replicate (0 * (ji5 : Int).toNat) z50) 0 0 ji5 0) else (none)) else (none)) = some r:=by first | (rw [hji5] at H;exact H) | (simp only [hji5] at H ⊢;exact H)
 (try rw [hji5] at A3)
 (try rw [hji5] at A4)
 (try (have hji5l : 0 ≤ ji5:=by (rw [← hji5];unfold mn;(repeat' split) <;> omega)))
 (try (have hji5m : 0 ≤ ji5:=by omega))
 have hji5_ : (if (t412.length : Int) < (t408.length : Int) then (t412.length : Int) else (t408.length : Int)) = ji5:=hji5
 (try (have hji5n:=hji5_;simp only [Int.ofNat_lt] at hji5n))
 by_cases c6 : 0 ≤ (ji5)
 ·rw [if_pos c6] at H
  have c6b0:=eq_true c6
  have c6b1 : decide (0 ≤ (ji5)) = true:=decide_eq_true c6
  clear c6
  by_cases c7 : (ji5 : Int).toNat ≤ 7036874417766
  ·rw [if_pos c7] at H
   have c7b0:=eq_true c7
   have c7b1 : decide ((ji5 : Int).toNat ≤ 7036874417766) = true:=decide_eq_true c7
   clear c7
   obtain ⟨y416,hy416⟩ : ∃ y_ : List (S50),y_ = (List.replicate (0 * (ji5 : Int).toNat) z50):=⟨_,rfl⟩
   replace H : (impl_spansOf.l0 k t408 t412 y416 0 0 ji5 0) = some r:=by first | (rw [hy416];with_reducible exact H) | (have H2_:=(Option.bind_some _ _).symm.trans H;rw [hy416];with_reducible exact H2_) | (have H2_:=(Option.bind_some _ _).symm.trans H;with_reducible exact H2_) | with_reducible exact H | (rw [hy416];exact H) | exact H
   have Ny416:=am hy416
   clear hy416
   have H':=am H
   clear H
   go_enter Tryz.func62,Tryz.ntmps62
   go_wp2_with (first | ((with_reducible refine gC 29 rfl ?_);refine gL (some 17) Tryz.func29 #[.string a0] ?_;(with_reducible refine (impl_StrLines.calls a0 t408 t409 _ A3.out (Env.below hE (bl HB))).mono ?_);rintro e w8 ⟨v410,rfl,ho0,hb⟩;refine ⟨_,rfl,?_⟩;have HO411:=am (Kd.R_lower ho0 (below_size (bl HB)));replace HB:=hbS HB hb;(try clear hb);(try clear ho0)) | ((with_reducible refine gC 29 rfl ?_);refine gL (some 22) Tryz.func29 #[.string a1] ?_;(with_reducible refine (impl_StrLines.calls a1 t412 t413 _ A4.out (Env.below hE (bl HB))).mono ?_);rintro e w9 ⟨v414,rfl,ho0,hb⟩;refine ⟨_,rfl,?_⟩;have HO415:=am (Kd.R_lower (Kd.R_new' ho0 (Kd.R_lt (rs HO411))) (below_size (bl HB)));replace HO411:=am (Kd.R_elder' (rs HO411) (Kd.R_base ho0) hb);replace HB:=hbS HB hb;(try clear hb);(try clear ho0);obtain ⟨Ao10,co10,eo10⟩:=Kd.R_slice HO411.out;subst eo10;obtain ⟨Ao11,co11,eo11⟩:=Kd.R_slice HO415.out;subst eo11) | ((with_reducible refine gD 31 rfl ?_);refine kd_make0 k50 _ 50 rfl (N:=31) rfl 60 _ _ rfl ji5 rfl rfl Tryz.underlying60 (.agg #[(.int .i64 0),(.int .i64 0),(.int .i64 0),(.int .i64 0),(.bool false)]) 40 info50 rfl (by decide) (by omega) z50 (ok:=fun _=>True) (okp:=fun _=>True) (k50_mkM _ _ _ z50 ) (fun _ hk=>hk) trivial (of_decide_eq_true da_) (Nat.le_trans (Nat.mul_le_mul_right _ (of_decide_eq_true da_ : ji5.toNat ≤ 7036874417766)) (by omega)) (Below.refl _ _) (Nat.le_refl _) ?_;intro v417 w12 ho13 hb hg_ hnew_;clear hg_ hnew_;(first | rw [← Ny416.out] at ho13 | (simp only [Int.reduceToNat] at ho13;rw [← Ny416.out] at ho13));replace HO411:=am (Kd.R_below (rs HO411) hb);replace HO415:=am (Kd.R_below (rs HO415) hb);have HO418:=am (Kd.R_lower ho13 (below_size (bl HB)));replace HB:=hbS HB hb;clear hb ho13) | ((with_reducible rw [hji5n])))
   go_loopg [10,11,12,33] k (fun kq v10 v11 v12 v33 w'=>∃ (x10_1 : List (S50)) (x11_1 : Int) (x12_1 : Int) (x33_1 : Int),v11 = .int .i64 x11_1 ∧ v12 = .int .i64 x12_1 ∧ v33 = .int .i64 x33_1 ∧ Aside0 (impl_spansOf.l0 kq t408 t412 x10_1 x11_1 x12_1 ji5 x33_1 = some r) ∧ Aside0 (kq ≤ k) ∧ Aside0 (Kd.R Kd.string 9 w' w.heap.size (fun k_=>some k_ ≠ ((.slice Ao11 t412.length co11) : Value).ownBlock) (.slice Ao10 t408.length co10) t408) ∧ Aside0 (Kd.R Kd.string 9 w' w.heap.size (fun k_=>some k_ ≠ ((.slice Ao10 t408.length co10) : Value).ownBlock) (.slice Ao11 t412.length co11) t412) ∧ Aside0 (Kd.R k50 50 w' w.heap.size (fun _=>True) v10 x10_1) ∧ Aside0 (Below w.heap.size w w'))
   case atStart=>exact ⟨(y416),(0),(0),(0),rs_,rs_,rs_,H',⟨Nat.le_refl _⟩,⟨by (with_reducible repeat apply ru);exact Kd.R_mono HO411.out (fun _ hk=>hk.2)⟩,⟨by (with_reducible repeat apply ru);exact Kd.R_mono HO415.out (fun _ hk=>hk.2)⟩,⟨by (with_reducible repeat apply ru);exact HO418.out⟩,⟨m0_⟩⟩
   case round=>
    clear H'
    try clear c2
    try clear p2
    try clear c6
    try clear c6b0
    try clear c6b1
    try clear c7
    try clear c7b0
    try clear c7b1
    obtain ⟨x10_1,x11_1,x12_1,x33_1,rfl,rfl,rfl,HA,HK1,HO_5,HO_7,HO_10,HB⟩:=hrel
    cases gk with
    | zero=>exact absurd HA.out (by simp [impl_spansOf.l0])
    | succ k1=>
     have H:=HA.out
     clear HA
     simp only [impl_spansOf.l0] at H
     by_cases c14 : x33_1 < ji5
     ·rw [if_pos c14] at H
      have c14b0 : decide (x33_1 < ji5) = true:=decide_eq_true c14
      clear c14
      by_cases c15 : 0 ≤ x33_1
      ·rw [if_pos c15] at H
       have c15b0 : decide (0 ≤ x33_1) = true:=decide_eq_true c15
       clear c15
       by_cases c16 : x33_1 < (t408.length : Int)
       ·rw [if_pos c16] at H
        have c16b0 : decide (x33_1 < (t408.length : Int)) = true:=decide_eq_true c16
        clear c16
        by_cases c17 : x33_1 < (t412.length : Int)
        ·rw [if_pos c17] at H
         have c17b0 : decide (x33_1 < (t412.length : Int)) = true:=decide_eq_true c17
         clear c17
         by_cases c18 : x10_1.length < 3518437208883
         ·rw [if_pos c18] at H
          have LMc18:=am c18
          clear c18
          obtain ⟨y424,hy424⟩ : ∃ y_ : List (S50),y_ = (x10_1 ++ [(⟨x11_1,wrap64 ((wrap64 (x11_1 + ((rdOf ByteArray.empty t408 x33_1).size : Int))) + 1),x12_1,wrap64 ((wrap64 (x12_1 + ((rdOf ByteArray.empty t412 x33_1).size : Int))) + 1),((rdOf ByteArray.empty t408 x33_1).toList == (rdOf ByteArray.empty t412 x33_1).toList)⟩ : S50)]):=⟨_,rfl⟩
          replace H : (impl_spansOf.l0 k1 t408 t412 y424 (wrap64 ((wrap64 (x11_1 + ((rdOf ByteArray.empty t408 x33_1).size : Int))) + 1)) (wrap64 ((wrap64 (x12_1 + ((rdOf ByteArray.empty t412 x33_1).size : Int))) + 1)) ji5 (wrap64 (x33_1 + 1))) = some r:=by first | (rw [hy424];with_reducible exact H) | (have H2_:=(Option.bind_some _ _).symm.trans H;rw [hy424];with_reducible exact H2_) | (have H2_:=(Option.bind_some _ _).symm.trans H;with_reducible exact H2_) | with_reducible exact H | (rw [hy424];exact H) | exact H
          have Ny424:=am hy424
          clear hy424
          have H':=am H
          clear H
          try go_wp2
          replace HO_5:=am (Kd.R_drew HO_5.out)
          replace HO_7:=am (Kd.R_drew HO_7.out)
          replace HO_10:=am (Kd.R_drew HO_10.out)
          replace HB:=am (below_drew1 HB.out)
          have p419 : 0 ≤ (x33_1 : Int):=of_decide_eq_true da_
          have q419 : x33_1 < (t408.length : Int):=of_decide_eq_true da_
          obtain ⟨ad419,e419,hx419_0⟩:=Kd.at_string (Kd.R_reads' HO_5.out).2.2 x33_1 p419 q419
          cases e419
          replace p419:=eq_true p419
          replace q419:=eq_true q419
          have p420 : 0 ≤ (x33_1 : Int):=of_decide_eq_true da_
          have q420 : x33_1 < (t412.length : Int):=of_decide_eq_true da_
          obtain ⟨ad420,e420,hx420_0⟩:=Kd.at_string (Kd.R_reads' HO_7.out).2.2 x33_1 p420 q420
          cases e420
          replace p420:=eq_true p420
          replace q420:=eq_true q420
          have p421 : 0 ≤ (x33_1 : Int):=of_decide_eq_true da_
          have q421 : x33_1 < (t408.length : Int):=of_decide_eq_true da_
          obtain ⟨ad421,e421,hx421_0⟩:=Kd.at_string (Kd.R_reads' HO_5.out).2.2 x33_1 p421 q421
          obtain rfl : ad419 = ad421:=(by injection e421)
          replace p421:=eq_true p421
          replace q421:=eq_true q421
          have p422 : 0 ≤ (x33_1 : Int):=of_decide_eq_true da_
          have q422 : x33_1 < (t412.length : Int):=of_decide_eq_true da_
          obtain ⟨ad422,e422,hx422_0⟩:=Kd.at_string (Kd.R_reads' HO_7.out).2.2 x33_1 p422 q422
          obtain rfl : ad420 = ad422:=(by injection e422)
          replace p422:=eq_true p422
          replace q422:=eq_true q422
          refine start_ (n:=30) (S:=fun w'=>w'.cell? (ad419.add (x33_1).toNat) = some (.string (rdOf ByteArray.empty t408 x33_1)) ∧ w'.cell? (ad420.add (x33_1).toNat) = some (.string (rdOf ByteArray.empty t412 x33_1)) ∧ w'.cell? (ad419.add (x33_1).toNat) = some (.string (rdOf ByteArray.empty t408 x33_1)) ∧ w'.cell? (ad420.add (x33_1).toNat) = some (.string (rdOf ByteArray.empty t412 x33_1))) (ds:=[]) #[false,false,false,false,false,false,false,false,false,false,false,false,false,false,false,false,false,false,false,false,false,false,false,false,false,false,false,false,false,false] (by kernel_rfl) rfl rfl ⟨hx419_0,hx420_0,hx421_0,hx422_0⟩ (fun hHeld=>?_);refine with_tabW impl_spansOf.tab9 impl_spansOf.bits9 (fun HT_ HW_=>?_)
          generalize wr.drew = w19 at HO_5 HO_7 HO_10 HB hx419_0 hx420_0 hx421_0 hx422_0 hHeld ⊢
          refine pu_ 0 (some 36) (bm 30 1) ?_
          refine pu_ 1 (some 37) (bm 30 3) ?_
          refine pu_ 2 (some 38) (bm 30 7) ?_
          refine pu_ 3 (some 39) (bm 30 15) ?_
          refine pu_ 4 (some 40) (bm 30 31) ?_
          refine pu_ 9 (some 45) (bm 30 543) ?_
          refine pu_ 10 (some 46) (bm 30 1567) ?_
          refine pu_ 11 (some 47) (bm 30 3615) ?_
          refine pu_ 12 (some 48) (bm 30 7711) ?_
          refine pu_ 13 (some 49) (bm 30 15903) ?_
          refine pu_ 18 (some 54) (bm 30 278047) ?_
          refine pu_ 19 (some 55) (bm 30 802335) ?_
          refine pu_ 20 (some 56) (bm 30 1850911) ?_
          refine pu_ 22 (some 58) (bm 30 6045215) ?_
          refine pu_ 23 (some 59) (bm 30 14433823) ?_
          refine pu_ 24 (some 60) (bm 30 31211039) ?_
          refine tk_ 5 (some 41) (bm 30 31211071) rfl (.inl ⟨rfl,m18_⟩) ?_
          refine pu_ 6 (some 42) (bm 30 31211135) ?_
          refine pu_ 7 (some 43) (bm 30 31211263) ?_
          refine pu_ 8 (some 44) (bm 30 31211519) ?_
          refine tk_ 14 (some 50) (bm 30 31227903) rfl (.inl ⟨rfl,m18_⟩) ?_
          refine pu_ 15 (some 51) (bm 30 31260671) ?_
          refine pu_ 16 (some 52) (bm 30 31326207) ?_
          refine pu_ 17 (some 53) (bm 30 31457279) ?_
          refine tk_ 21 (some 57) (bm 30 33554431) rfl (.inl ⟨rfl,m18_⟩) ?_
          refine tk_ 25 (some 61) (bm 30 67108863) rfl (.inl ⟨rfl,m18_⟩) ?_
          refine pu_ 26 (some 62) (bm 30 134217727) ?_
          refine pu_ 27 (some 63) (bm 30 268435455) ?_
          refine on_ 28 (some 14) (bm 30 536870911) (fun K hK=>?_)
          refine box_step rfl (N:=14) rfl (cs:=#[.int .i64 0,.int .i64 0,.int .i64 0,.int .i64 0,.bool false]) (t:=50) hr_ ?_
          intro gb423 hg w20 hbox hb
          have HS0_:=bch hb (hHeld.1)
          have HS1_:=bch hb (hHeld.2.1)
          have HS2_:=bch hb (hHeld.2.2.1)
          have HS3_:=bch hb (hHeld.2.2.2)
          replace HO_5:=am (Kd.R_below (rs HO_5) hb)
          replace HO_7:=am (Kd.R_below (rs HO_7) hb)
          replace HO_10:=am (Kd.R_below (Kd.R_elderB (rs HO_10) gb423 (Nat.le_of_eq hg.symm)) hb)
          have BK423:=am hbox
          have GW423:=gwE HB hg
          have GE423:=gwE HB hg
          replace HB:=hbS HB hb
          clear hb hbox hg
          refine hK.out _ _ ⟨HS0_,HS1_,HS2_,HS3_⟩ (fun hHeld=>?_)
          clear hK K
          refine nm_ ?_
          refine on_ 29 none (bm 30 1073741823) (fun K hK=>?_)
          have : w20.cell? ⟨gb423,0,none⟩ = some (.int .i64 0):=bcell BK423 0
          have:=bfz BK423 0
          have : w20.cell? ⟨gb423,1,none⟩ = some (.int .i64 0):=bcell BK423 1
          have:=bfz BK423 1
          have : w20.cell? ⟨gb423,2,none⟩ = some (.int .i64 0):=bcell BK423 2
          have:=bfz BK423 2
          have : w20.cell? ⟨gb423,3,none⟩ = some (.int .i64 0):=bcell BK423 3
          have:=bfz BK423 3
          have : w20.cell? ⟨gb423,4,none⟩ = some (.bool false):=bcell BK423 4
          have:=bfz BK423 4
          refine skip_ (w1:=?_) (by rfl) rfl ?_ ?_
          rotate_left
          ·go_simp
           rfl
          refine hK.out _ _ ⟨(farN (g:=gb423) (Kd.own_blk (Kd.R_ne HO_5.out BK423.out (by decide))) (hHeld.1)),(farN (g:=gb423) (Kd.own_blk (Kd.R_ne HO_7.out BK423.out (by decide))) (hHeld.2.1)),(farN (g:=gb423) (Kd.own_blk (Kd.R_ne HO_5.out BK423.out (by decide))) (hHeld.2.2.1)),(farN (g:=gb423) (Kd.own_blk (Kd.R_ne HO_7.out BK423.out (by decide))) (hHeld.2.2.2))⟩ (fun hHeld=>?_)
          clear hK K
          refine done_ (done_of HT_.out (by kernel_rfl)) ?_
          try go_wp2
          have n0_ : Aside0 (Kd.R Kd.string 9 (((((w20.setCell ⟨gb423,0,none⟩ (.int .i64 x11_1)).setCell ⟨gb423,1,none⟩ (.int .i64 (wrap64 ((wrap64 (x11_1 + ((rdOf ByteArray.empty t408 x33_1).size : Int))) + 1)))).setCell ⟨gb423,2,none⟩ (.int .i64 x12_1)).setCell ⟨gb423,3,none⟩ (.int .i64 (wrap64 ((wrap64 (x12_1 + ((rdOf ByteArray.empty t412 x33_1).size : Int))) + 1)))).setCell ⟨gb423,4,none⟩ (.bool ((rdOf ByteArray.empty t408 x33_1).toList == (rdOf ByteArray.empty t412 x33_1).toList))) w.heap.size (fun k_=>some k_ ≠ (.slice (some ad420) t412.length co11 : Value).ownBlock) (.slice (some ad419) t408.length co10) t408):=⟨by (with_reducible repeat apply ru);exact Kd.R_mono (Kd.R_far (p:=⟨gb423,4,none⟩) (Kd.R_far (p:=⟨gb423,3,none⟩) (Kd.R_far (p:=⟨gb423,2,none⟩) (Kd.R_far (p:=⟨gb423,1,none⟩) (Kd.R_far (p:=⟨gb423,0,none⟩) (Kd.R_types HO_5.out BK423.out (by decide)) (fun _ hk=>hk.2) (.int .i64 x11_1)) (fun _ hk=>hk.2) (.int .i64 (wrap64 ((wrap64 (x11_1 + ((rdOf ByteArray.empty t408 x33_1).size : Int))) + 1)))) (fun _ hk=>hk.2) (.int .i64 x12_1)) (fun _ hk=>hk.2) (.int .i64 (wrap64 ((wrap64 (x12_1 + ((rdOf ByteArray.empty t412 x33_1).size : Int))) + 1)))) (fun _ hk=>hk.2) (.bool ((rdOf ByteArray.empty t408 x33_1).toList == (rdOf ByteArray.empty t412 x33_1).toList))) (fun _ hk=>hk.1)⟩
          have n1_ : Aside0 (Kd.R Kd.string 9 (((((w20.setCell ⟨gb423,0,none⟩ (.int .i64 x11_1)).setCell ⟨gb423,1,none⟩ (.int .i64 (wrap64 ((wrap64 (x11_1 + ((rdOf ByteArray.empty t408 x33_1).size : Int))) + 1)))).setCell ⟨gb423,2,none⟩ (.int .i64 x12_1)).setCell ⟨gb423,3,none⟩ (.int .i64 (wrap64 ((wrap64 (x12_1 + ((rdOf ByteArray.empty t412 x33_1).size : Int))) + 1)))).setCell ⟨gb423,4,none⟩ (.bool ((rdOf ByteArray.empty t408 x33_1).toList == (rdOf ByteArray.empty t412 x33_1).toList))) w.heap.size (fun k_=>some k_ ≠ (.slice (some ad419) t408.length co10 : Value).ownBlock) (.slice (some ad420) t412.length co11) t412):=⟨by (with_reducible repeat apply ru);exact Kd.R_mono (Kd.R_far (p:=⟨gb423,4,none⟩) (Kd.R_far (p:=⟨gb423,3,none⟩) (Kd.R_far (p:=⟨gb423,2,none⟩) (Kd.R_far (p:=⟨gb423,1,none⟩) (Kd.R_far (p:=⟨gb423,0,none⟩) (Kd.R_types HO_7.out BK423.out (by decide)) (fun _ hk=>hk.2) (.int .i64 x11_1)) (fun _ hk=>hk.2) (.int .i64 (wrap64 ((wrap64 (x11_1 + ((rdOf ByteArray.empty t408 x33_1).size : Int))) + 1)))) (fun _ hk=>hk.2) (.int .i64 x12_1)) (fun _ hk=>hk.2) (.int .i64 (wrap64 ((wrap64 (x12_1 + ((rdOf ByteArray.empty t412 x33_1).size : Int))) + 1)))) (fun _ hk=>hk.2) (.bool ((rdOf ByteArray.empty t408 x33_1).toList == (rdOf ByteArray.empty t412 x33_1).toList))) (fun _ hk=>hk.1)⟩
          have n2_ : Aside0 (Kd.R k50 50 (((((w20.setCell ⟨gb423,0,none⟩ (.int .i64 x11_1)).setCell ⟨gb423,1,none⟩ (.int .i64 (wrap64 ((wrap64 (x11_1 + ((rdOf ByteArray.empty t408 x33_1).size : Int))) + 1)))).setCell ⟨gb423,2,none⟩ (.int .i64 x12_1)).setCell ⟨gb423,3,none⟩ (.int .i64 (wrap64 ((wrap64 (x12_1 + ((rdOf ByteArray.empty t412 x33_1).size : Int))) + 1)))).setCell ⟨gb423,4,none⟩ (.bool ((rdOf ByteArray.empty t408 x33_1).toList == (rdOf ByteArray.empty t412 x33_1).toList))) w.heap.size (fun k_=>k_ ≠ gb423) u10 x10_1):=⟨by (with_reducible repeat apply ru);exact Kd.R_mono (Kd.R_far (p:=⟨gb423,4,none⟩) (Kd.R_far (p:=⟨gb423,3,none⟩) (Kd.R_far (p:=⟨gb423,2,none⟩) (Kd.R_far (p:=⟨gb423,1,none⟩) (Kd.R_far (p:=⟨gb423,0,none⟩) (Kd.R_mono HO_10.out (fun k_ hk=>(⟨hk,hk.2⟩ : _ ∧ k_ ≠ gb423))) (fun _ hk=>hk.2) (.int .i64 x11_1)) (fun _ hk=>hk.2) (.int .i64 (wrap64 ((wrap64 (x11_1 + ((rdOf ByteArray.empty t408 x33_1).size : Int))) + 1)))) (fun _ hk=>hk.2) (.int .i64 x12_1)) (fun _ hk=>hk.2) (.int .i64 (wrap64 ((wrap64 (x12_1 + ((rdOf ByteArray.empty t412 x33_1).size : Int))) + 1)))) (fun _ hk=>hk.2) (.bool ((rdOf ByteArray.empty t408 x33_1).toList == (rdOf ByteArray.empty t412 x33_1).toList))) (fun _ hk=>hk.1.2)⟩
          have n3_ : Aside0 ((((((w20.setCell ⟨gb423,0,none⟩ (.int .i64 x11_1)).setCell ⟨gb423,1,none⟩ (.int .i64 (wrap64 ((wrap64 (x11_1 + ((rdOf ByteArray.empty t408 x33_1).size : Int))) + 1)))).setCell ⟨gb423,2,none⟩ (.int .i64 x12_1)).setCell ⟨gb423,3,none⟩ (.int .i64 (wrap64 ((wrap64 (x12_1 + ((rdOf ByteArray.empty t412 x33_1).size : Int))) + 1)))).setCell ⟨gb423,4,none⟩ (.bool ((rdOf ByteArray.empty t408 x33_1).toList == (rdOf ByteArray.empty t412 x33_1).toList))).heap[gb423]? = some (.cells #[.int .i64 x11_1,.int .i64 (wrap64 ((wrap64 (x11_1 + ((rdOf ByteArray.empty t408 x33_1).size : Int))) + 1)),.int .i64 x12_1,.int .i64 (wrap64 ((wrap64 (x12_1 + ((rdOf ByteArray.empty t412 x33_1).size : Int))) + 1)),.bool ((rdOf ByteArray.empty t408 x33_1).toList == (rdOf ByteArray.empty t412 x33_1).toList)] 50 (0,0))):=⟨by (with_reducible repeat refine bu ?_);refine blk_put (cs:=#[.int .i64 x11_1,.int .i64 (wrap64 ((wrap64 (x11_1 + ((rdOf ByteArray.empty t408 x33_1).size : Int))) + 1)),.int .i64 x12_1,.int .i64 (wrap64 ((wrap64 (x12_1 + ((rdOf ByteArray.empty t412 x33_1).size : Int))) + 1)),.bool false]) ?_ 4 _ rfl;(with_reducible repeat refine bu ?_);refine blk_put (cs:=#[.int .i64 x11_1,.int .i64 (wrap64 ((wrap64 (x11_1 + ((rdOf ByteArray.empty t408 x33_1).size : Int))) + 1)),.int .i64 x12_1,.int .i64 0,.bool false]) ?_ 3 _ rfl;(with_reducible repeat refine bu ?_);refine blk_put (cs:=#[.int .i64 x11_1,.int .i64 (wrap64 ((wrap64 (x11_1 + ((rdOf ByteArray.empty t408 x33_1).size : Int))) + 1)),.int .i64 0,.int .i64 0,.bool false]) ?_ 2 _ rfl;(with_reducible repeat refine bu ?_);refine blk_put (cs:=#[.int .i64 x11_1,.int .i64 0,.int .i64 0,.int .i64 0,.bool false]) ?_ 1 _ rfl;(with_reducible repeat refine bu ?_);refine blk_put (cs:=#[.int .i64 0,.int .i64 0,.int .i64 0,.int .i64 0,.bool false]) ?_ 0 _ rfl;(with_reducible repeat refine bu ?_);exact BK423.out⟩
          have n4_ : Aside0 (Below w.heap.size w (((((w20.setCell ⟨gb423,0,none⟩ (.int .i64 x11_1)).setCell ⟨gb423,1,none⟩ (.int .i64 (wrap64 ((wrap64 (x11_1 + ((rdOf ByteArray.empty t408 x33_1).size : Int))) + 1)))).setCell ⟨gb423,2,none⟩ (.int .i64 x12_1)).setCell ⟨gb423,3,none⟩ (.int .i64 (wrap64 ((wrap64 (x12_1 + ((rdOf ByteArray.empty t412 x33_1).size : Int))) + 1)))).setCell ⟨gb423,4,none⟩ (.bool ((rdOf ByteArray.empty t408 x33_1).toList == (rdOf ByteArray.empty t412 x33_1).toList)))):=⟨m2_⟩
          (try clear HO_5)
          (try clear HO_7)
          (try clear HO_10)
          (try clear BK423)
          (try clear HB)
          generalize (((((w20.setCell ⟨gb423,0,none⟩ (.int .i64 x11_1)).setCell ⟨gb423,1,none⟩ (.int .i64 (wrap64 ((wrap64 (x11_1 + ((rdOf ByteArray.empty t408 x33_1).size : Int))) + 1)))).setCell ⟨gb423,2,none⟩ (.int .i64 x12_1)).setCell ⟨gb423,3,none⟩ (.int .i64 (wrap64 ((wrap64 (x12_1 + ((rdOf ByteArray.empty t412 x33_1).size : Int))) + 1)))).setCell ⟨gb423,4,none⟩ (.bool ((rdOf ByteArray.empty t408 x33_1).toList == (rdOf ByteArray.empty t412 x33_1).toList))) = w26 at n0_ n1_ n2_ n3_ n4_ ⊢
          have HO_5:=n0_
          have HO_7:=n1_
          have HO_10:=n2_
          have BK423:=n3_
          have HB:=n4_
          clear n0_ n1_ n2_ n3_ n4_
          replace HO_5:=am (Kd.R_drew HO_5.out)
          replace HO_7:=am (Kd.R_drew HO_7.out)
          replace HO_10:=am (Kd.R_drew HO_10.out)
          replace BK423:=am (blk_drew BK423.out)
          replace HB:=am (below_drew1 HB.out)
          refine start_ (n:=6) (S:=fun w'=>w'.cell? ⟨gb423,0,none⟩ = some (.int .i64 x11_1) ∧ w'.cell? ⟨gb423,1,none⟩ = some (.int .i64 (wrap64 ((wrap64 (x11_1 + ((rdOf ByteArray.empty t408 x33_1).size : Int))) + 1))) ∧ w'.cell? ⟨gb423,2,none⟩ = some (.int .i64 x12_1) ∧ w'.cell? ⟨gb423,3,none⟩ = some (.int .i64 (wrap64 ((wrap64 (x12_1 + ((rdOf ByteArray.empty t412 x33_1).size : Int))) + 1))) ∧ w'.cell? ⟨gb423,4,none⟩ = some (.bool ((rdOf ByteArray.empty t408 x33_1).toList == (rdOf ByteArray.empty t412 x33_1).toList))) (ds:=[]) #[false,false,false,false,false,false] (by kernel_rfl) rfl rfl ⟨bcell BK423 0,bcell BK423 1,bcell BK423 2,bcell BK423 3,bcell BK423 4⟩ (fun hHeld=>?_)
          generalize w26.drew = w27 at HO_5 HO_7 HO_10 BK423 HB hHeld ⊢
          refine pu_ 0 (some 64) (bm 6 1) ?_
          refine pu_ 2 (some 66) (bm 6 5) ?_
          refine tk_ 1 (some 65) (bm 6 7) rfl (.inl ⟨rfl,m15_⟩) ?_
          refine pu_ 4 (some 11) (bm 6 23) ?_
          refine tk_ 3 (some 67) (bm 6 31) rfl (.inl ⟨rfl,m15_⟩) ?_
          refine pu_ 5 (some 12) (bm 6 63) ?_
          refine done_ (by kernel_rfl) ?_
          have:=bcell BK423 0
          have:=bcell BK423 1
          have:=bcell BK423 2
          have:=bcell BK423 3
          have:=bcell BK423 4
          have:=bfz BK423 0
          have:=bfz BK423 1
          have:=bfz BK423 2
          have:=bfz BK423 3
          have:=bfz BK423 4
          try go_wp2_with (first | ((with_reducible refine gate_builtin (b:=.append) (xs:=#[.tmp 68,.tmp 70]) rfl ?_);at_builtin;refine Kd.R_append k50 (w0:=w) w.heap.size rfl (.tmp 68) (.tmp 70) 60 50 (.agg #[(.int .i64 0),(.int .i64 0),(.int .i64 0),(.int .i64 0),(.bool false)]) 40 rfl Tryz.underlying60 info50 rfl (by decide) (by omega) u10 x10_1 (⟨x11_1,wrap64 ((wrap64 (x11_1 + ((rdOf ByteArray.empty t408 x33_1).size : Int))) + 1),x12_1,wrap64 ((wrap64 (x12_1 + ((rdOf ByteArray.empty t412 x33_1).size : Int))) + 1),((rdOf ByteArray.empty t408 x33_1).toList == (rdOf ByteArray.empty t412 x33_1).toList)⟩ : S50) [.int .i64 x11_1,.int .i64 (wrap64 ((wrap64 (x11_1 + ((rdOf ByteArray.empty t408 x33_1).size : Int))) + 1)),.int .i64 x12_1,.int .i64 (wrap64 ((wrap64 (x12_1 + ((rdOf ByteArray.empty t412 x33_1).size : Int))) + 1)),.bool ((rdOf ByteArray.empty t408 x33_1).toList == (rdOf ByteArray.empty t412 x33_1).toList)] (fun k_=>k_ ≠ gb423) (fun _=>False) rfl rfl ?aP (fun _ hk=>hk.elim) ?aF ?aO ?aB ?aS ?aL ?_;(case aP=>exact k50_mkM _ _ _ (⟨x11_1,wrap64 ((wrap64 (x11_1 + ((rdOf ByteArray.empty t408 x33_1).size : Int))) + 1),x12_1,wrap64 ((wrap64 (x12_1 + ((rdOf ByteArray.empty t412 x33_1).size : Int))) + 1),((rdOf ByteArray.empty t408 x33_1).toList == (rdOf ByteArray.empty t412 x33_1).toList)⟩ : S50));(case aB=>exact (bl HB));(case aF=>exact (fun k_ hk=>Kd.freshB (g:=gb423) (o:=.cells #[.int .i64 x11_1,.int .i64 (wrap64 ((wrap64 (x11_1 + ((rdOf ByteArray.empty t408 x33_1).size : Int))) + 1)),.int .i64 x12_1,.int .i64 (wrap64 ((wrap64 (x12_1 + ((rdOf ByteArray.empty t412 x33_1).size : Int))) + 1)),.bool ((rdOf ByteArray.empty t408 x33_1).toList == (rdOf ByteArray.empty t412 x33_1).toList)] 50 (0,0)) (bk BK423) k_ hk));(case aO=>exact (rs HO_10));(case aS=>exact (below_size (bl HB)));(case aL=>have:=LMc18.out;omega);intro v425 w29 ho hb hg hat;rw [← Ny424.out] at ho;replace HO_5:=am (Kd.R_over' (rs HO_5) (Kd.R_typed (rs HO_10)) (by decide) hg);replace HO_7:=am (Kd.R_over' (rs HO_7) (Kd.R_typed (rs HO_10)) (by decide) hg);replace BK423:=am (blk_grown (g:=gb423) (o:=.cells #[.int .i64 x11_1,.int .i64 (wrap64 ((wrap64 (x11_1 + ((rdOf ByteArray.empty t408 x33_1).size : Int))) + 1)),.int .i64 x12_1,.int .i64 (wrap64 ((wrap64 (x12_1 + ((rdOf ByteArray.empty t412 x33_1).size : Int))) + 1)),.bool ((rdOf ByteArray.empty t408 x33_1).toList == (rdOf ByteArray.empty t412 x33_1).toList)] 50 (0,0)) (bk BK423) hg (Kd.R_away HO_10.out (fun _ hk=>hk)));replace HB:=am hb;have HO426:=am (ho);clear HO_10;clear ho hb hg hat) | ((with_reducible rw [hji5n])))
          go_roundg k1
          case measure=>have:=HK1.out;omega
          case rel=>exact ⟨(y424),(wrap64 ((wrap64 (x11_1 + ((rdOf ByteArray.empty t408 x33_1).size : Int))) + 1)),(wrap64 ((wrap64 (x12_1 + ((rdOf ByteArray.empty t412 x33_1).size : Int))) + 1)),(wrap64 (x33_1 + 1)),rs_,rs_,rs_,H',⟨by have:=HK1.out;omega⟩,⟨by (with_reducible repeat apply ru);exact HO_5.out⟩,⟨by (with_reducible repeat apply ru);exact HO_7.out⟩,⟨by (with_reducible repeat apply ru);exact Kd.R_mono HO426.out (fun _ hk=>trivial)⟩,⟨m2_⟩⟩
         ·rw [if_neg c18] at H
          exact absurd H (by simp)
        ·rw [if_neg c17] at H
         exact absurd H (by simp)
       ·rw [if_neg c16] at H
        exact absurd H (by simp)
      ·rw [if_neg c15] at H
       exact absurd H (by simp)
     ·rw [if_neg c14] at H
      have c14b0 : decide (x33_1 < ji5) = false:=decide_eq_false c14
      clear c14
      obtain rfl:=Option.some.inj H
      go_wp2
      go_ret
      exact ⟨_,by first | rfl | (simp [errW_none,errW_some] <;> rfl) | (simp only [← hji5];first | rfl | (simp [errW_none,errW_some] <;> rfl)) | (simp [*,errW_none,errW_some] <;> rfl),by (with_reducible repeat apply ru);exact HO_10.out,m0_⟩
  ·rw [if_neg c7] at H
   exact absurd H (by simp)
 ·rw [if_neg c6] at H
  exact absurd H (by simp)
def impl_ofStream.j0 : Nat → ByteArray → Bool → List (S55) → Option ((List (S50)))
 | 0,_,_,_=>none
 | k + 1,x1,x14,x428000=>if x14 = true then (some ([] : List (S50))) else ((impl_MapTab_streamOut.f x428000 x1).bind fun bt430=>((impl_spansOf.f k x1 bt430.2).bind fun t435=>(some t435)))
def impl_ofStream.f (k : Nat) (l0_0 : List (S55)) (a1 : ByteArray) : Option ((List (S50))):=(impl_MapOk.f k l0_0).bind fun t428=>(if t428 = true then ((impl_StrOk.f k a1).bind fun t429=>(impl_ofStream.j0 k a1 (!t429) l0_0)) else (impl_ofStream.j0 k a1 true l0_0))
set_option maxHeartbeats 8000000 in
set_option maxRecDepth 100000 in
theorem impl_ofStream.calls (k : Nat) (A0_0 : Option Addr) (c0_0 : Nat) (l0_0 : List (S55)) (a1 : ByteArray) (r : List (S50)) (w : World) (hr0_0 : Kd.C k55 w A0_0 l0_0.length l0_0) (hc0_0 : l0_0.length ≤ c0_0) (h : impl_ofStream.f k l0_0 a1 = some r) (hE : EnvE w) :
  Calls Tryz.prog 37 #[.agg #[.slice A0_0 l0_0.length c0_0],.string a1] w fun e w'=>∃ v0_ : Value,e = .returned (v0_) ∧ Kd.R k50 50 w' w.heap.size (fun _=>True) v0_ r ∧ Below w.heap.size w w':=by
 have hu29:=Tryz.underlying29
 have HR0_0:=am hr0_0
 have HC0_0:=am hc0_0
 clear hr0_0 hc0_0
 have HB:=am (Below.refl w.heap.size w)
 have H : ((impl_MapOk.f k l0_0).bind fun t428=>(if t428 = true then ((impl_StrOk.f k a1).bind fun t429=>(impl_ofStream.j0 k a1 (!t429) l0_0)) else (impl_ofStream.j0 k a1 true l0_0))) = some r:=h
 clear h
 have HC3:=am H
 clear H
 go_enter Tryz.func37,Tryz.ntmps37
 go_upto_region 1 with (first | ((with_reducible refine gD 2 rfl ?_);refine box_event rfl (N:=2) rfl (cs:=#[.slice A0_0 l0_0.length c0_0]) (t:=29) hr_ ?_;intro gb427 hg w4 hbox hb;have BK427:=am hbox;have GW427:=gwE HB hg;have GE427:=gwE HB hg;replace HB:=hbS HB hb;clear hb hbox hg))
 (try simp only [Act.put,List.setIfInBounds_toArray,List.set_cons_zero,List.set_cons_succ])
 go_cut [14] (fun v14 wc=>∃ (kq : Nat) (x14_2 : Bool),v14 = .bool x14_2 ∧ Aside0 (impl_ofStream.j0 kq a1 x14_2 l0_0 = some r) ∧ Aside0 (kq ≤ k) ∧ Aside0 (wc.heap[gb427]? = some (.cells #[(.slice A0_0 l0_0.length c0_0)] 29 (0,0))) ∧ Aside0 (Below w.heap.size w wc))
 case first=>
  have H:=HC3.out
  clear HC3
  obtain ⟨t428,A5,H⟩:=bse H
  try dsimp only at H
  by_cases c6 : t428 = true
  ·subst c6
   have H1 : ((impl_StrOk.f k a1).bind fun t429=>(impl_ofStream.j0 k a1 (!t429) l0_0)) = some r:=by rw [if_pos rfl] at H;exact H
   clear H
   have H:=H1
   clear H1
   obtain ⟨t429,A7,H⟩:=bse H
   try dsimp only at H
   have H':=am H
   clear H
   have hcz8_0:=bcell BK427 0
   have hfz8_0:=blk_frozen BK427.out 0
   go_wp2_with (first | ((with_reducible refine gC 54 rfl ?_);refine gL (some 8) Tryz.func54 #[.agg #[.slice A0_0 l0_0.length c0_0]] ?_;(with_reducible refine (impl_MapOk.calls k _ _ l0_0 true _ ?side1 ?side2 A5.out).mono ?_);(case side1=>exact m3_);(case side2=>exact HC0_0.out);rintro e w9 ⟨rfl,hb⟩;refine ⟨_,rfl,?_⟩;replace BK427:=bkB BK427 hb;replace HB:=hbS HB hb;(try clear hb)) | (go_at_call 55;(with_reducible refine (impl_StrOk.calls k a1 t429 _ A7.out (Env.below hE.e (bl HB))).mono ?_);rintro e w10 ⟨rfl,hb⟩;replace BK427:=bkB BK427 hb;replace HB:=hbS HB hb;(try clear hb)))
   go_meet
   case rel=>exact ⟨_,(!t429),rs_,H',⟨by first | omega | exact Nat.le_refl _⟩,⟨bk BK427⟩,⟨m2_⟩⟩
  ·replace c6:=Bool.eq_false_iff.mpr c6
   subst c6
   have H1 : (impl_ofStream.j0 k a1 true l0_0) = some r:=by rw [if_neg (show ¬ (false = true) by decide)] at H;exact H
   clear H
   have H:=H1
   clear H1
   have H':=am H
   clear H
   have hcz11_0:=bcell BK427 0
   have hfz11_0:=blk_frozen BK427.out 0
   go_wp2_with (first | ((with_reducible refine gC 54 rfl ?_);refine gL (some 8) Tryz.func54 #[.agg #[.slice A0_0 l0_0.length c0_0]] ?_;(with_reducible refine (impl_MapOk.calls k _ _ l0_0 false _ ?side1 ?side2 A5.out).mono ?_);(case side1=>exact m3_);(case side2=>exact HC0_0.out);rintro e w12 ⟨rfl,hb⟩;refine ⟨_,rfl,?_⟩;replace BK427:=bkB BK427 hb;replace HB:=hbS HB hb;(try clear hb)))
   go_meet
   case rel=>exact ⟨_,(true),rs_,H',⟨by first | omega | exact Nat.le_refl _⟩,⟨bk BK427⟩,⟨m2_⟩⟩
 case rest=>
  clear HC3
  try clear p2
  try clear c3
  try clear c5
  try clear c6
  try clear hcz11_0
  try clear hcz8_0
  try clear hfz11_0
  try clear hfz8_0
  obtain ⟨kq,x14_2,rfl,HA,HJ2,BK427,HB⟩:=hcut
  cases kq with
  | zero=>exact absurd HA.out (by simp [impl_ofStream.j0])
  | succ kj2=>
   have H:=HA.out
   clear HA
   simp only [impl_ofStream.j0] at H
   by_cases c13 : x14_2 = true
   ·subst c13
    have H1 : (some ([] : List (S50))) = some r:=by rw [if_pos rfl] at H;exact H
    clear H
    have H:=H1
    clear H1
    obtain rfl:=Option.some.inj H
    go_wp2
    go_ret
    exact ⟨_,fi_,by first | exact Kd.R_nil _ _ _ _ _ | exact Kd.N_nil _ _ _ _ _ | exact Kd.V_nil _ _ _ _ _ | exact Kd.Q_nil _ _ _ _ _ | exact Kd.S_nil _ _ _ _ _,m2_⟩
   ·replace c13:=Bool.eq_false_iff.mpr c13
    subst c13
    have H1 : ((impl_MapTab_streamOut.f l0_0 a1).bind fun bt430=>((impl_spansOf.f kj2 a1 bt430.2).bind fun t435=>(some t435))) = some r:=by rw [if_neg (show ¬ (false = true) by decide)] at H;exact H
    clear H
    have H:=H1
    clear H1
    obtain ⟨⟨t430,t433⟩,A14,H⟩:=bse H
    try dsimp only at H
    obtain ⟨t435,A15,H⟩:=bse H
    try dsimp only at H
    obtain rfl:=Option.some.inj H
    have:=bcell BK427 0
    have:=bfz BK427 0
    go_wp2_with (first | ((with_reducible refine gC 56 rfl ?_);refine gL (some 18) Tryz.func56 #[.agg #[.slice A0_0 l0_0.length c0_0],.string a1] ?_;(with_reducible refine (impl_MapTab_streamOut.calls _ _ l0_0 a1 t430 t433 _ ?side1 ?side2 A14.out (EnvE.below hE (bl HB))).mono ?_);(case side1=>exact m3_);(case side2=>exact HC0_0.out);rintro e w17 ⟨v431,rfl,ho0,hb⟩;refine ⟨_,rfl,?_⟩;have HO432:=am (Kd.R_lower ho0 (below_size (bl HB)));replace BK427:=bkB BK427 hb;replace HB:=hbS HB hb;(try clear hb);(try clear ho0)) | ((with_reducible refine gD 5 rfl ?_);refine box_event rfl (N:=5) rfl (cs:=#[.slice none 0 0]) (t:=29) hr_ ?_;intro gb434 hg w18 hbox hb;replace HO432:=am (Kd.R_below (rs HO432) hb);have BK434:=am hbox;have GW434:=gwE HB hg;have GE434:=gwE HB hg;replace HB:=hbS HB hb;have NB427_434:=neL BK427 hg;have NB434_427:=neG BK427 hg;replace BK427:=bkB BK427 hb;clear hb hbox hg;obtain ⟨Ao19,co19,eo19⟩:=Kd.R_slice HO432.out;subst eo19;have:=NB434_427.out;have:=NB427_434.out;have:=bcell BK434 0;have:=bfz BK434 0) | ((with_reducible refine gC 62 rfl ?_);refine gL (some 23) Tryz.func62 #[.string a1,.string t433] ?_;(with_reducible refine (impl_spansOf.calls kj2 a1 t433 t435 _ A15.out (Env.below hE.e (bl HB))).mono ?_);rintro e w22 ⟨v436,rfl,ho0,hb⟩;refine ⟨_,rfl,?_⟩;replace HO432:=am (Kd.R_below (by (with_reducible repeat apply ru);exact (Kd.R_mono (Kd.R_far (p:=⟨gb434,0,none⟩) (Kd.R_types HO432.out BK434.out (by decide)) (fun _ hk=>hk.2) (.slice Ao19 t430.length co19)) (fun _ h_=>h_.1))) hb);have HO437:=am (Kd.R_lower ho0 (below_size (bl HB)));replace BK427:=am (blk_below (g:=gb427) (o:=.cells #[.slice A0_0 l0_0.length c0_0] 29 (0,0)) (by (with_reducible repeat refine bu ?_);refine blk_far ?_ NB427_434.out _;(with_reducible repeat refine bu ?_);exact BK427.out) hb);replace BK434:=am (blk_below (g:=gb434) (o:=.cells #[.slice Ao19 t430.length co19] 29 (0,0)) (by (with_reducible repeat refine bu ?_);refine blk_put (cs:=#[.slice none 0 0]) ?_ 0 _ rfl;(with_reducible repeat refine bu ?_);exact BK434.out) hb);replace HB:=hbS HB hb;(try clear hb);(try clear hk);(try clear ho0)))
    go_ret
    exact ⟨_,fi_,by (with_reducible repeat apply ru);exact HO437.out,m2_⟩
end
end Go.Proofs.YtakfmcpjnkagmaaGreatDoor.P
