import Derived.Test.YtakfmcpjnkagmaaGreatDoorGLawFnExactPosOutx5
import Derived.Deep.Slices
import Derived.ChangeArms
import Derived.WideShapes
namespace Go.Proofs.YtakfmcpjnkagmaaGreatDoor.P
open Go.Proofs.YtakfmcpjnkagmaaGreatDoorUFnExactPosOut.PrintLast Go.Proofs.YtakfmcpjnkagmaaGreatDoorUFnExactPosOut.PrintMore Go.Proofs.YtakfmcpjnkagmaaGreatDoorUFnExactPosOut.PrintWords Go.RowKit
set_option linter.unusedVariables false
set_option linter.unusedSimpArgs false
def laws_FnExactPosOut.Pure : Prop := ∀ (l : List S77) (s : ByteArray) (n : Int), l.length ≤ maxLen → ∃ k, laws_FnExactPosOut.f k l s n = some true
theorem laws_FnExactPosOut.pure : laws_FnExactPosOut.Pure := by
  intro l s x hm
  have hm' : l.length ≤ 9223372036854775807 := Nat.le_trans hm (by decide)
  have A : Ans (fun k => laws_FnExactPosOut.f k l s x) (fun r => r = true) := by
    unfold laws_FnExactPosOut.f laws_szMapTab.f laws_szEndPointS.f
    have e : wrap64 (1048576 - (l.length : Int)) = 1048576 - l.length := w64 _ (by omega)
    rw [e]
    refine Ans.ite (fun _ => Ans.pure rfl) (fun cs => ?_)
    have hs : s.size ≤ 1048576 := by omega
    by_cases c : (1048576 - (l.length : Int)) < 0
    · rw [if_pos c, Option.bind_some, if_pos (by omega)]
      exact Ans.bsome (Ans.pos (by omega) (Ans.pure rfl))
    · rw [if_neg c, Option.bind_some, if_neg c]
      refine Ans.bsome (Ans.neg c ?_)
      have hl : l.length ≤ 1048576 := by omega
      have hL : (l.map convE).length ≤ 2000000 := by rw [List.length_map]; omega
      refine Ans.bind (toMapTab_a l hl) ?_
      rintro _ rfl
      refine Ans.bind (specPosOut_a _ hL s hs x) ?_
      rintro _ rfl
      refine Ans.bind (toMapTab_a l hl) ?_
      rintro _ rfl
      refine Ans.bind (implPosOut_a _ hL s hs x) ?_
      rintro _ rfl
      refine Ans.pos rfl (Ans.bind (toMapTab_a l hl) ?_)
      rintro _ rfl
      refine Ans.bind (eqMapTab_a _ hL) ?_
      rintro _ rfl
      exact Ans.pos rfl (Ans.pure rfl)
  obtain ⟨k, v, rfl, h⟩ := A.got
  exact ⟨k, h⟩
end Go.Proofs.YtakfmcpjnkagmaaGreatDoor.P
namespace Go.Proofs.YtakfmcpjnkagmaaGreatDoor.P
open Go.RowKit Go.Proofs.YtakfmcpjnkagmaaGreatDoorUFnExactPosOut.PrintWords Go.Proofs.YtakfmcpjnkagmaaGreatDoorUFnExactPosOut.PrintLast Go.Proofs.YtakfmcpjnkagmaaGreatDoorUFnExactPosOut.PrintMore
set_option linter.unusedVariables false
set_option linter.unusedSimpArgs false
theorem list_of {α : Type} {n : Nat} {Q : Nat → α → Prop} (h : ∀ i, i < n → ∃ y, Q i y) : ∃ l : List α, l.length = n ∧ ∀ (j : Nat) (p : α), l[j]? = some p → Q j p := by
  induction n with
  | zero => exact ⟨[], rfl, fun j p hj => by simp at hj⟩
  | succ n ih =>
    obtain ⟨l, hl, hq⟩ := ih (fun i hi => h i (by omega))
    obtain ⟨y, hy⟩ := h n (by omega)
    refine ⟨l ++ [y], by simp [hl], fun j p hj => ?_⟩
    by_cases hjn : j < n
    · rw [List.getElem?_append_left (by omega)] at hj
      exact hq j p hj
    · rw [List.getElem?_append_right (by omega)] at hj
      have : j - l.length = 0 := by
        rcases Nat.eq_zero_or_pos (j - l.length) with h0 | h0
        · exact h0
        · rw [List.getElem?_eq_none (by simp; omega)] at hj; cases hj
      rw [this] at hj
      simp at hj
      subst hj
      have : j = n := by omega
      subst this
      exact hy
structure Reads {α : Type} (P : Program) (d : Kd α) (good : α → Prop) (e : TypeId) : Prop where
  size : P.cellsOf e = d.sz
  ofTrod : ∀ {H : Type} {enc : TypeId × Value → H} {w : World} {base : Nat} {spare : Nat → Bool} {held : Bool} {n : Nat} {cs : List Value} {x : DataW H × List MemPlace}, DataW.trod enc P w base spare held n e cs = some x → ∃ y, d.K w y cs ∧ good y
section
variable {α : Type} {P : Program} {d : Kd α} {good : α → Prop} {H : Type} {enc : TypeId × Value → H} {w : World} {base : Nat} {spare : Nat → Bool} {held : Bool}
theorem row_of {t e : TypeId} {fuel : Nat} {a : Option Addr} {len cap : Nat} {x : DataW H × List MemPlace} (ht : P.underlying t = some (.slice e)) (R : Reads P d good e) (h : DataW.trod enc P w base spare held fuel t [.slice a len cap] = some x) :
    ∃ l : List α, l.length = len ∧ Kd.C d w a l.length l ∧ l.length ≤ cap ∧ l.length ≤ maxLen ∧ ∀ (j : Nat) (p : α), l[j]? = some p → good p := by
  rcases Deep.open_slice ht h with ⟨hcs, _⟩ | ⟨ad, len', cap', m, n, D, Pl, hcs, hb, hl, hm, hmm, hx, hel⟩
  · simp at hcs
    obtain ⟨rfl, rfl, rfl⟩ := hcs
    exact ⟨[], rfl, Kd.C_nil d w, Nat.le_refl _, by simp, fun j p hj => by simp at hj⟩
  · simp at hcs
    obtain ⟨rfl, rfl, rfl⟩ := hcs
    have hlm : len ≤ m := by rw [hmm]; split <;> omega
    obtain ⟨l, h1, h2⟩ := list_of (n := len) (Q := fun i y => good y ∧ ∃ c, c.length = d.sz ∧ d.K w y c ∧ ∀ q u, c[q]? = some u → w.cell? (ad.add (i * d.sz + q)) = some u) (fun i hi => by
      obtain ⟨cs, hc, htr⟩ := hel i (by omega)
      obtain ⟨y, hy, hg⟩ := R.ofTrod htr
      rw [R.size] at hc
      refine ⟨y, hg, cs, ?_, hy, ?_⟩
      · exact (World.cells?_some hc).2.1
      · intro q u hq
        have hlen := (World.cells?_some hc).2.1
        have hlt : q < d.sz := by rw [← hlen]; exact (List.getElem?_eq_some_iff.1 hq).1
        have hcell := (World.cells?_some hc).2.2 q hlt
        rw [hq] at hcell
        rw [Deep.add_add] at hcell
        exact hcell)
    have hml : (maxLen : Nat) ≤ 9223372036854775807 := by decide
    refine ⟨l, h1, ⟨rfl, by omega, fun _ => ⟨ad, rfl, fun j p hj => (h2 j p hj).2⟩⟩, by omega, by omega, fun j p hj => (h2 j p hj).1⟩
theorem row_any {t e : TypeId} {fuel : Nat} {v : Value} {x : DataW H × List MemPlace} (ht : P.underlying t = some (.slice e)) (R : Reads P d good e) (h : DataW.trod enc P w base spare held fuel t [v] = some x) :
    ∃ (a : Option Addr) (cap : Nat) (l : List α), v = .slice a l.length cap ∧ Kd.C d w a l.length l ∧ l.length ≤ cap ∧ l.length ≤ maxLen ∧ ∀ (j : Nat) (p : α), l[j]? = some p → good p := by
  have hv : ∃ a len cap, v = .slice a len cap := by
    rcases Deep.open_slice ht h with ⟨hcs, _⟩ | ⟨ad, len', cap', m, n, D, Pl, hcs, _⟩
    · exact ⟨none, 0, 0, by simpa using hcs⟩
    · exact ⟨some ad, len', cap', by simpa using hcs⟩
  obtain ⟨a, len, cap, rfl⟩ := hv
  obtain ⟨l, rfl, h1, h2, h3, h4⟩ := row_of ht R h
  exact ⟨a, cap, l, rfl, h1, h2, h3, h4⟩
end
theorem field_at {H : Type} {enc : TypeId × Value → H} {P : Program} {w : World} {base : Nat} {spare : Nat → Bool} {held : Bool} {t : TypeId} {fs : Array Field} {fuel : Nat} {cs : List Value} {x : DataW H × List MemPlace} (ht : P.underlying t = some (.struct fs)) (h : DataW.trod enc P w base spare held fuel t cs = some x) :
    cs.length = P.cellsOf t ∧ ∃ n, ∀ (i : Nat) (f : Field), fs[i]? = some f → ∃ z, DataW.trod enc P w base spare held n f.type ((cs.drop f.offset).take (P.cellsOf f.type)) = some z := by
  obtain ⟨xs, n, _, _, hl, hxs, hf⟩ := DataW.trod_struct ht h
  refine ⟨hl, n, fun i f hi => ?_⟩
  have hlt : i < xs.length := by
    rw [hxs]
    exact (Array.getElem?_eq_some_iff.1 hi).1
  exact ⟨_, (hf i f hi).trans (List.getElem?_eq_getElem hlt)⟩
theorem arr1 {α : Type} {c : Array α} (h : c.size = 1) : ∃ u, c = #[u] := by
  obtain ⟨l⟩ := c
  match l, h with
  | [u], _ => exact ⟨u, rfl⟩
theorem len2 {α : Type} {cs : List α} (h : cs.length = 2) : ∃ u v, cs = [u, v] := by
  match cs, h with
  | [u, v], _ => exact ⟨u, v, rfl⟩
def goodI (n : Int) : Prop := (Lit.int .i64 n).wf = true
theorem reads_end : Reads Tryz.prog k77 (fun x => goodI x.f0 ∧ goodI x.f1) 77 := by
  refine ⟨by kernel_rfl, @fun H enc w base spare held fuel cs x h => ?_⟩
  obtain ⟨hl, n, hf⟩ := field_at Tryz.underlying77 h
  have c2 : Tryz.prog.cellsOf 77 = 2 := by kernel_rfl
  have c1 : Tryz.prog.cellsOf 3 = 1 := by kernel_rfl
  rw [c2] at hl
  obtain ⟨z0, h0⟩ := hf 0 _ rfl
  obtain ⟨z1, h1⟩ := hf 1 _ rfl
  replace h0 : DataW.trod _ _ _ _ _ _ n 3 ((_ : List Value).drop 0 |>.take (Tryz.prog.cellsOf 3)) = some z0 := h0
  replace h1 : DataW.trod _ _ _ _ _ _ n 3 ((_ : List Value).drop 1 |>.take (Tryz.prog.cellsOf 3)) = some z1 := h1
  rw [c1] at h0 h1
  obtain ⟨a, ha, _, wa⟩ := DataW.trod_int Tryz.underlying3 h0
  obtain ⟨b, hb, _, wb⟩ := DataW.trod_int Tryz.underlying3 h1
  obtain ⟨u, v, rfl⟩ : ∃ u v, cs = [u, v] := len2 hl
  simp at ha hb
  subst ha; subst hb
  exact ⟨⟨a, b⟩, k77_mk _ ⟨a, b⟩, wa, wb⟩
end Go.Proofs.YtakfmcpjnkagmaaGreatDoor.P
