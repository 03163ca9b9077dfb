import Derived.Test.YtiocgkggegahhaaGLawFnExactMapPutx8
import Derived.Deep.Slices
import Derived.ChangeArms
import Derived.WideShapes
/- The plain law of FnExactMapPut: what the printed law computes is true. -/
namespace Go.Proofs.Ytiocgkggegahhaa.P
open Go.RowKit Go.Proofs.YtiocgkggegahhaaUFnExactMapPut.PrintWords Go.Proofs.YtiocgkggegahhaaUFnExactMapPut.PrintLast Go.Proofs.YtiocgkggegahhaaUFnExactMapPut.PrintMore
set_option linter.unusedVariables false
set_option linter.unusedSimpArgs false
def convE (x : S34) : S29 := ⟨x.f0, x.f1⟩
theorem rd34_get {l : List S34} {i : Nat} (h : i < l.length) : rd_T34 l (i : Int) = l[i] := by
  unfold rd_T34
  simp [List.getD, h]
theorem toEndPointS_a (l : List S34) (hl : l.length ≤ 1048576) : Ans (fun k => laws_toEndPointS.f k l) (fun r => r = l.map convE) := by
  unfold laws_toEndPointS.f
  have e0 : (((l.length : Int)) : Int).toNat = l.length := by omega
  refine Ans.pos (by omega) (Ans.pos (by omega) ?_)
  rw [e0]
  have L : ∀ (m i : Nat), i + m = l.length → Ans (fun k => laws_toEndPointS.l0 k l ((l.take i).map convE ++ List.replicate m z29) (i : Int)) (fun r => r = l.map convE) := by
    intro m
    induction m with
    | zero =>
      intro i hi
      refine Ans.succ ?_
      unfold laws_toEndPointS.l0
      exact Ans.neg (by omega) (Ans.pure (by rw [List.take_of_length_le (by omega)]; simp))
    | succ m ih =>
      intro i hi
      refine Ans.succ ?_
      unfold laws_toEndPointS.l0 laws_toEndPoint.f
      have hil : i < l.length := by omega
      refine Ans.pos (by omega) (Ans.pos (by omega) (Ans.bsome (Ans.pos ?_ ?_)))
      · simp only [List.length_append, List.length_map, List.length_take, List.length_replicate]
        omega
      · have e1 : ((i : Int)).toNat = i := by omega
        dsimp only
        rw [e1, wi i (by omega), rd34_get hil]
        have e2 : ((l.take i).map convE ++ List.replicate (m + 1) z29).set i ⟨l[i].f0, l[i].f1⟩ = (l.take (i + 1)).map convE ++ List.replicate m z29 := by
          have hlen : ((l.take i).map convE).length = i := by rw [List.length_map, List.length_take]; omega
          rw [List.set_append_right _ _ (by omega), hlen, Nat.sub_self, List.replicate_succ, List.set_cons_zero, List.take_succ_eq_append_getElem hil, List.map_append]
          simp [convE]
        rw [e2]
        exact ih (i + 1) (by omega)
  have := L l.length 0 (by omega)
  simpa using this
theorem toMapTab_a (l : List S34) (hl : l.length ≤ 1048576) : Ans (fun k => laws_toMapTab.f k l) (fun r => r = l.map convE) := by
  unfold laws_toMapTab.f
  refine Ans.bind (toEndPointS_a l hl) ?_
  rintro _ rfl
  exact Ans.pure rfl
theorem eqMapTab_a (l : List S29) (hl : l.length ≤ 2000000) : Ans (fun k => laws_eqMapTab.f k l l) (fun r => r = true) := by
  unfold laws_eqMapTab.f laws_eqEndPointS.f
  have L : ∀ (m i : Nat), i + m = l.length → Ans (fun k => laws_eqEndPointS.l0 k l l (i : Int)) (fun r => r = true) := by
    intro m
    induction m with
    | zero =>
      intro i hi
      refine Ans.succ ?_
      unfold laws_eqEndPointS.l0
      exact Ans.neg (by omega) (Ans.pure rfl)
    | succ m ih =>
      intro i hi
      refine Ans.succ ?_
      unfold laws_eqEndPointS.l0
      have e : laws_eqEndPoint.f ((rd_T29 l (i : Int)).f0) ((rd_T29 l (i : Int)).f1) ((rd_T29 l (i : Int)).f0) ((rd_T29 l (i : Int)).f1) = some true := by unfold laws_eqEndPoint.f; simp
      rw [e, wi i (by omega)]
      exact Ans.pos (by omega) (Ans.pos (by omega) (Ans.pos (by omega) (Ans.bsome (Ans.pos rfl (ih (i + 1) (by omega))))))
  refine Ans.bind (R := fun r => r = true) (Ans.pos rfl (L l.length 0 (by omega))) ?_
  rintro _ rfl
  exact Ans.pos rfl (Ans.pure rfl)
/-- The marks of a table of n ends, from number a on. -/
def marks (n : Nat) (a : Int) : List S29 := (List.range n).map (fun j : Nat => ⟨a + 2 * (j : Int), a + 2 * (j : Int) + 1⟩)
theorem marks_len (n : Nat) (a : Int) : (marks n a).length = n := by simp [marks]
theorem marks_get {n i : Nat} (a : Int) (h : i < n) : rd_T29 (marks n a) (i : Int) = ⟨a + 2 * i, a + 2 * i + 1⟩ := by
  rw [rd29_get (by rw [marks_len]; exact h)]
  simp [marks]
theorem markEnds_a (l : List S29) (hl : l.length ≤ 2000000) : Ans (fun k => laws_markEndPointS.f k l 1) (fun r => r = (1 + 2 * (l.length : Int), marks l.length 1)) := by
  unfold laws_markEndPointS.f
  have L : ∀ (m i : Nat), i + m = l.length → Ans (fun k => laws_markEndPointS.l0 k ((marks l.length 1).take i ++ l.drop i) (1 + 2 * (i : Int)) (i : Int)) (fun r => r = (1 + 2 * (l.length : Int), marks l.length 1)) := by
    intro m
    induction m with
    | zero =>
      intro i hi
      refine Ans.succ ?_
      unfold laws_markEndPointS.l0
      have e : (marks l.length 1).take i ++ l.drop i = marks l.length 1 := by
        rw [List.take_of_length_le (by rw [marks_len]; omega), List.drop_eq_nil_of_le (by omega), List.append_nil]
      rw [e]
      refine Ans.neg (by rw [marks_len]; omega) (Ans.pure ?_)
      have : i = l.length := by omega
      rw [this]
    | succ m ih =>
      intro i hi
      refine Ans.succ ?_
      unfold laws_markEndPointS.l0
      have hil : i < l.length := by omega
      have hlen : ((marks l.length 1).take i ++ l.drop i).length = l.length := by
        rw [List.length_append, List.length_take, List.length_drop, marks_len]; omega
      have e1 : ((i : Int)).toNat = i := by omega
      have w1 : wrap64 (1 + 2 * (i : Int) + 1) = 1 + 2 * i + 1 := w64 _ (by omega)
      have w2 : wrap64 (1 + 2 * (i : Int) + 1 + 1) = 1 + 2 * ((i + 1 : Nat) : Int) := by rw [w64 _ (by omega)]; push_cast; omega
      refine Ans.pos (by rw [hlen]; omega) (Ans.pos (by omega) (Ans.bsome ?_))
      rw [wi i (by omega), w1, w2, e1]
      have hA : ((marks l.length 1).take i).length = i := by rw [List.length_take, marks_len]; omega
      have hset : ∀ v : S29, ((marks l.length 1).take i ++ l.drop i).set i v = (marks l.length 1).take i ++ v :: l.drop (i + 1) := by
        intro v
        rw [List.set_append_right _ _ (by omega), hA, Nat.sub_self, rd29_drop hil, List.set_cons_zero]
      have hget : ∀ v : S29, rd_T29 ((marks l.length 1).take i ++ v :: l.drop (i + 1)) (i : Int) = v := by
        intro v
        rw [rd29_get (by rw [List.length_append, hA]; simp)]
        rw [List.getElem_append_right (by omega)]
        simp [hA]
      have hset2 : ∀ u v : S29, ((marks l.length 1).take i ++ u :: l.drop (i + 1)).set i v = (marks l.length 1).take i ++ v :: l.drop (i + 1) := by
        intro u v
        rw [List.set_append_right _ _ (by omega), hA, Nat.sub_self, List.set_cons_zero]
      rw [hset, hget, hset2]
      have hm : (marks l.length 1).take i ++ (⟨1 + 2 * (i : Int), 1 + 2 * i + 1⟩ : S29) :: l.drop (i + 1) = (marks l.length 1).take (i + 1) ++ l.drop (i + 1) := by
        rw [rd29_take (by rw [marks_len]; exact hil), marks_get 1 hil]
        simp
      dsimp only
      rw [hm]
      exact ih (i + 1) (by omega)
  have := L l.length 0 (by omega)
  simpa using this
theorem heldEnds_a (n : Nat) (hn : n ≤ 2000000) : Ans (fun k => laws_heldEndPointS.f k (marks n 1) 1) (fun r => r = 1 + 2 * (n : Int)) := by
  unfold laws_heldEndPointS.f
  have L : ∀ (m i : Nat), i + m = n → Ans (fun k => laws_heldEndPointS.l0 k (marks n 1) (1 + 2 * (i : Int)) (i : Int)) (fun r => r = 1 + 2 * (n : Int)) := by
    intro m
    induction m with
    | zero =>
      intro i hi
      refine Ans.succ ?_
      unfold laws_heldEndPointS.l0
      have : i = n := by omega
      refine Ans.neg (by rw [marks_len]; omega) (Ans.pure (by rw [this]))
    | succ m ih =>
      intro i hi
      refine Ans.succ ?_
      unfold laws_heldEndPointS.l0
      have w1 : wrap64 (1 + 2 * (i : Int) + 1) = 1 + 2 * i + 1 := w64 _ (by omega)
      have w2 : wrap64 (1 + 2 * (i : Int) + 1 + 1) = 1 + 2 * ((i + 1 : Nat) : Int) := by rw [w64 _ (by omega)]; push_cast; omega
      rw [wi i (by omega), w1, w2, marks_get 1 (by omega : i < n)]
      exact Ans.pos (by rw [marks_len]; omega) (Ans.pos (by omega) (Ans.pos rfl (Ans.pos rfl (ih (i + 1) (by omega)))))
  exact L n 0 (by omega)
theorem markTab_a (l : List S29) (hl : l.length ≤ 2000000) : Ans (fun k => laws_markMapTab.f k l 1) (fun r => r = (1 + 2 * (l.length : Int), marks l.length 1)) := by
  unfold laws_markMapTab.f
  refine Ans.bind (markEnds_a l hl) ?_
  rintro _ rfl
  exact Ans.pure rfl
theorem heldTab_a (n : Nat) (hn : n ≤ 2000000) : Ans (fun k => laws_heldMapTab.f k (marks n 1) 1) (fun r => r = 1 + 2 * (n : Int)) := by
  unfold laws_heldMapTab.f
  refine Ans.bind (heldEnds_a n hn) ?_
  rintro _ rfl
  exact Ans.neg (by omega) (Ans.pure rfl)
theorem tabPut_len' (l : List S29) (a b : Int) : (tabPut l a b).1.length ≤ l.length + 1 := by
  unfold tabPut putV
  split
  · split
    · simp
    · split <;> simp
  · simp
def laws_FnExactMapPut.Pure : Prop := ∀ (l : List S34) (a b : Int), l.length ≤ maxLen → ∃ k, laws_FnExactMapPut.f k l a b = some true
theorem laws_FnExactMapPut.pure : laws_FnExactMapPut.Pure := by
  intro l a b hm
  have hm' : l.length ≤ 9223372036854775807 := Nat.le_trans hm (by decide)
  have A : Ans (fun k => laws_FnExactMapPut.f k l a b) (fun r => r = true) := by
    unfold laws_FnExactMapPut.f laws_szMapTab.f laws_szEndPointS.f laws_toEndPoint.f
    have e : wrap64 (1048576 - (l.length : Int)) = 1048576 - l.length := w64 _ (by omega)
    rw [e]
    by_cases c : (1048576 - (l.length : Int)) < 0
    · rw [if_pos c, Option.bind_some, if_pos (by omega)]
      exact Ans.bsome (Ans.pos (by omega) (Ans.pure rfl))
    · rw [if_neg c, Option.bind_some, if_neg c]
      refine Ans.bsome (Ans.neg c ?_)
      have hl : l.length ≤ 1048576 := by omega
      have hL : (l.map convE).length ≤ 2000000 := by rw [List.length_map]; omega
      have hP := tabPut_len' (l.map convE) a b
      rw [List.length_map] at hP
      refine Ans.bind (toMapTab_a l hl) ?_
      rintro _ rfl
      refine Ans.bsome ?_
      refine Ans.bind (specMapPut_a _ hL a b) ?_
      rintro _ rfl
      refine Ans.bind (toMapTab_a l hl) ?_
      rintro _ rfl
      refine Ans.bsome ?_
      refine Ans.bind (implMapPut_a _ hL a b) ?_
      rintro _ rfl
      refine Ans.bind (eqMapTab_a _ (by omega)) ?_
      rintro _ rfl
      refine Ans.pos rfl ?_
      have n1 : ∀ z : Int, (z != z) = false := by intro z; simp
      rw [n1]
      refine Ans.succ ?_
      unfold laws_FnExactMapPut.j0
      refine Ans.neg (by simp) ?_
      refine Ans.bind (toMapTab_a l hl) ?_
      rintro _ rfl
      refine Ans.bind (eqMapTab_a _ hL) ?_
      rintro _ rfl
      refine Ans.pos rfl ?_
      refine Ans.bind (markTab_a _ hL) ?_
      rintro _ rfl
      refine Ans.neg (by dsimp only; omega) ?_
      refine Ans.bind (eqMapTab_a _ (by omega)) ?_
      rintro _ rfl
      refine Ans.pos rfl ?_
      rw [n1]
      refine Ans.succ ?_
      unfold laws_FnExactMapPut.j1
      refine Ans.neg (by simp) ?_
      refine Ans.bind (markTab_a _ (by omega)) ?_
      rintro _ rfl
      dsimp only
      refine Ans.bind (heldTab_a _ (by omega)) ?_
      rintro _ rfl
      refine Ans.neg (by omega) (Ans.pos rfl ?_)
      refine Ans.bind (toMapTab_a l hl) ?_
      rintro _ rfl
      unfold laws_toEndPoint.f
      refine Ans.bsome ?_
      refine Ans.bind (implMapPut_a _ hL a b) ?_
      rintro _ rfl
      refine Ans.bind (eqMapTab_a _ (by omega)) ?_
      rintro _ rfl
      refine Ans.pos rfl ?_
      rw [n1]
      refine Ans.succ ?_
      unfold laws_FnExactMapPut.j2
      refine Ans.neg (by simp) ?_
      refine Ans.bind (heldTab_a _ (by omega)) ?_
      rintro _ rfl
      exact Ans.neg (by omega) (Ans.pos rfl (Ans.pure rfl))
  obtain ⟨k, v, rfl, h⟩ := A.got
  exact ⟨k, h⟩
end Go.Proofs.Ytiocgkggegahhaa.P

/- Arguments that are structs, slices of structs and the like: what is read of them when a law is called. -/
namespace Go.Proofs.Ytiocgkggegahhaa.P
open Go.RowKit Go.Proofs.YtiocgkggegahhaaUFnExactMapPut.PrintWords Go.Proofs.YtiocgkggegahhaaUFnExactMapPut.PrintLast Go.Proofs.YtiocgkggegahhaaUFnExactMapPut.PrintMore
set_option linter.unusedVariables false
set_option linter.unusedSimpArgs false
theorem list_of {α : Type} {n : Nat} {Q : Nat → α → Prop} (h : ∀ i, i < n → ∃ y, Q i y) : ∃ l : List α, l.length = n ∧ ∀ (j : Nat) (p : α), l[j]? = some p → Q j p := by
  induction n with
  | zero => exact ⟨[], rfl, fun j p hj => by simp at hj⟩
  | succ n ih =>
    obtain ⟨l, hl, hq⟩ := ih (fun i hi => h i (by omega))
    obtain ⟨y, hy⟩ := h n (by omega)
    refine ⟨l ++ [y], by simp [hl], fun j p hj => ?_⟩
    by_cases hjn : j < n
    · rw [List.getElem?_append_left (by omega)] at hj
      exact hq j p hj
    · rw [List.getElem?_append_right (by omega)] at hj
      have : j - l.length = 0 := by
        rcases Nat.eq_zero_or_pos (j - l.length) with h0 | h0
        · exact h0
        · rw [List.getElem?_eq_none (by simp; omega)] at hj; cases hj
      rw [this] at hj
      simp at hj
      subst hj
      have : j = n := by omega
      subst this
      exact hy
/-- A type whose values read as elements of the kind d, each of them good. -/
structure Reads {α : Type} (P : Program) (d : Kd α) (good : α → Prop) (e : TypeId) : Prop where
  size : P.cellsOf e = d.sz
  ofTrod : ∀ {H : Type} {enc : TypeId × Value → H} {w : World} {base : Nat} {spare : Nat → Bool} {held : Bool} {n : Nat} {cs : List Value} {x : DataW H × List MemPlace}, DataW.trod enc P w base spare held n e cs = some x → ∃ y, d.K w y cs ∧ good y
section
variable {α : Type} {P : Program} {d : Kd α} {good : α → Prop} {H : Type} {enc : TypeId × Value → H} {w : World} {base : Nat} {spare : Nat → Bool} {held : Bool}
theorem row_of {t e : TypeId} {fuel : Nat} {a : Option Addr} {len cap : Nat} {x : DataW H × List MemPlace} (ht : P.underlying t = some (.slice e)) (R : Reads P d good e) (h : DataW.trod enc P w base spare held fuel t [.slice a len cap] = some x) :
    ∃ l : List α, l.length = len ∧ Kd.C d w a l.length l ∧ l.length ≤ cap ∧ l.length ≤ maxLen ∧ ∀ (j : Nat) (p : α), l[j]? = some p → good p := by
  rcases Deep.open_slice ht h with ⟨hcs, _⟩ | ⟨ad, len', cap', m, n, D, Pl, hcs, hb, hl, hm, hmm, hx, hel⟩
  · simp at hcs
    obtain ⟨rfl, rfl, rfl⟩ := hcs
    exact ⟨[], rfl, Kd.C_nil d w, Nat.le_refl _, by simp, fun j p hj => by simp at hj⟩
  · simp at hcs
    obtain ⟨rfl, rfl, rfl⟩ := hcs
    have hlm : len ≤ m := by rw [hmm]; split <;> omega
    obtain ⟨l, h1, h2⟩ := list_of (n := len) (Q := fun i y => good y ∧ ∃ c, c.length = d.sz ∧ d.K w y c ∧ ∀ q u, c[q]? = some u → w.cell? (ad.add (i * d.sz + q)) = some u) (fun i hi => by
      obtain ⟨cs, hc, htr⟩ := hel i (by omega)
      obtain ⟨y, hy, hg⟩ := R.ofTrod htr
      rw [R.size] at hc
      refine ⟨y, hg, cs, ?_, hy, ?_⟩
      · exact (World.cells?_some hc).2.1
      · intro q u hq
        have hlen := (World.cells?_some hc).2.1
        have hlt : q < d.sz := by rw [← hlen]; exact (List.getElem?_eq_some_iff.1 hq).1
        have hcell := (World.cells?_some hc).2.2 q hlt
        rw [hq] at hcell
        rw [Deep.add_add] at hcell
        exact hcell)
    have hml : (maxLen : Nat) ≤ 9223372036854775807 := by decide
    refine ⟨l, h1, ⟨rfl, by omega, fun _ => ⟨ad, rfl, fun j p hj => (h2 j p hj).2⟩⟩, by omega, by omega, fun j p hj => (h2 j p hj).1⟩
theorem row_any {t e : TypeId} {fuel : Nat} {v : Value} {x : DataW H × List MemPlace} (ht : P.underlying t = some (.slice e)) (R : Reads P d good e) (h : DataW.trod enc P w base spare held fuel t [v] = some x) :
    ∃ (a : Option Addr) (cap : Nat) (l : List α), v = .slice a l.length cap ∧ Kd.C d w a l.length l ∧ l.length ≤ cap ∧ l.length ≤ maxLen ∧ ∀ (j : Nat) (p : α), l[j]? = some p → good p := by
  have hv : ∃ a len cap, v = .slice a len cap := by
    rcases Deep.open_slice ht h with ⟨hcs, _⟩ | ⟨ad, len', cap', m, n, D, Pl, hcs, _⟩
    · exact ⟨none, 0, 0, by simpa using hcs⟩
    · exact ⟨some ad, len', cap', by simpa using hcs⟩
  obtain ⟨a, len, cap, rfl⟩ := hv
  obtain ⟨l, rfl, h1, h2, h3, h4⟩ := row_of ht R h
  exact ⟨a, cap, l, rfl, h1, h2, h3, h4⟩
end
/-- One field of a record, read. -/
theorem field_at {H : Type} {enc : TypeId × Value → H} {P : Program} {w : World} {base : Nat} {spare : Nat → Bool} {held : Bool} {t : TypeId} {fs : Array Field} {fuel : Nat} {cs : List Value} {x : DataW H × List MemPlace} (ht : P.underlying t = some (.struct fs)) (h : DataW.trod enc P w base spare held fuel t cs = some x) :
    cs.length = P.cellsOf t ∧ ∃ n, ∀ (i : Nat) (f : Field), fs[i]? = some f → ∃ z, DataW.trod enc P w base spare held n f.type ((cs.drop f.offset).take (P.cellsOf f.type)) = some z := by
  obtain ⟨xs, n, _, _, hl, hxs, hf⟩ := DataW.trod_struct ht h
  refine ⟨hl, n, fun i f hi => ?_⟩
  have hlt : i < xs.length := by
    rw [hxs]
    exact (Array.getElem?_eq_some_iff.1 hi).1
  exact ⟨_, (hf i f hi).trans (List.getElem?_eq_getElem hlt)⟩
theorem arr1 {α : Type} {c : Array α} (h : c.size = 1) : ∃ u, c = #[u] := by
  obtain ⟨l⟩ := c
  match l, h with
  | [u], _ => exact ⟨u, rfl⟩
theorem len2 {α : Type} {cs : List α} (h : cs.length = 2) : ∃ u v, cs = [u, v] := by
  match cs, h with
  | [u, v], _ => exact ⟨u, v, rfl⟩
theorem len7 {α : Type} {cs : List α} (h : cs.length = 7) : ∃ u0 u1 u2 u3 u4 u5 u6, cs = [u0, u1, u2, u3, u4, u5, u6] := by
  match cs, h with
  | [u0, u1, u2, u3, u4, u5, u6], _ => exact ⟨u0, u1, u2, u3, u4, u5, u6, rfl⟩
def goodI (n : Int) : Prop := (Lit.int .i64 n).wf = true
theorem take_one {cs : List Value} {i : Nat} {v : Value} (h : (cs.drop i).take 1 = [v]) : cs[i]? = some v := by
  have h1 : ((cs.drop i).take 1)[0]? = some v := by rw [h]; rfl
  rw [List.getElem?_take, if_pos (by omega), List.getElem?_drop] at h1
  simpa using h1
theorem reads_end : Reads Try.prog k34 (fun x => goodI x.f0 ∧ goodI x.f1) 34 := by
  refine ⟨by kernel_rfl, @fun H enc w base spare held fuel cs x h => ?_⟩
  obtain ⟨hl, n, hf⟩ := field_at Try.underlying34 h
  have c2 : Try.prog.cellsOf 34 = 2 := by kernel_rfl
  have c1 : Try.prog.cellsOf 3 = 1 := by kernel_rfl
  rw [c2] at hl
  obtain ⟨z0, h0⟩ := hf 0 _ rfl
  obtain ⟨z1, h1⟩ := hf 1 _ rfl
  replace h0 : DataW.trod _ _ _ _ _ _ n 3 ((_ : List Value).drop 0 |>.take (Try.prog.cellsOf 3)) = some z0 := h0
  replace h1 : DataW.trod _ _ _ _ _ _ n 3 ((_ : List Value).drop 1 |>.take (Try.prog.cellsOf 3)) = some z1 := h1
  rw [c1] at h0 h1
  obtain ⟨a, ha, _, wa⟩ := DataW.trod_int Try.underlying3 h0
  obtain ⟨b, hb, _, wb⟩ := DataW.trod_int Try.underlying3 h1
  obtain ⟨u, v, rfl⟩ : ∃ u v, cs = [u, v] := len2 hl
  simp at ha hb
  subst ha; subst hb
  exact ⟨⟨a, b⟩, k34_mk _ ⟨a, b⟩, wa, wb⟩
theorem reads_rule : Reads Try.prog k80 (fun _ => True) 80 := by
  refine ⟨by kernel_rfl, @fun H enc w base spare held fuel cs x h => ?_⟩
  obtain ⟨hl, n, hf⟩ := field_at Try.underlying80 h
  have c7 : Try.prog.cellsOf 80 = 7 := by kernel_rfl
  have c1 : Try.prog.cellsOf 3 = 1 := by kernel_rfl
  have c4 : Try.prog.cellsOf 4 = 1 := by kernel_rfl
  rw [c7] at hl
  obtain ⟨z0, h0⟩ := hf 0 _ rfl
  obtain ⟨z1, h1⟩ := hf 1 _ rfl
  obtain ⟨z2, h2⟩ := hf 2 _ rfl
  obtain ⟨z3, h3⟩ := hf 3 _ rfl
  obtain ⟨z4, h4⟩ := hf 4 _ rfl
  obtain ⟨z5, h5⟩ := hf 5 _ rfl
  obtain ⟨z6, h6⟩ := hf 6 _ rfl
  replace h0 : DataW.trod _ _ _ _ _ _ n 4 ((_ : List Value).drop 0 |>.take (Try.prog.cellsOf 4)) = some z0 := h0
  replace h1 : DataW.trod _ _ _ _ _ _ n 3 ((_ : List Value).drop 1 |>.take (Try.prog.cellsOf 3)) = some z1 := h1
  replace h2 : DataW.trod _ _ _ _ _ _ n 3 ((_ : List Value).drop 2 |>.take (Try.prog.cellsOf 3)) = some z2 := h2
  replace h3 : DataW.trod _ _ _ _ _ _ n 3 ((_ : List Value).drop 3 |>.take (Try.prog.cellsOf 3)) = some z3 := h3
  replace h4 : DataW.trod _ _ _ _ _ _ n 3 ((_ : List Value).drop 4 |>.take (Try.prog.cellsOf 3)) = some z4 := h4
  replace h5 : DataW.trod _ _ _ _ _ _ n 3 ((_ : List Value).drop 5 |>.take (Try.prog.cellsOf 3)) = some z5 := h5
  replace h6 : DataW.trod _ _ _ _ _ _ n 3 ((_ : List Value).drop 6 |>.take (Try.prog.cellsOf 3)) = some z6 := h6
  rw [c4] at h0
  rw [c1] at h1 h2 h3 h4 h5 h6
  obtain ⟨b, hb, _⟩ := DataW.trod_bool Try.underlying4 h0
  obtain ⟨a1, ha1, _⟩ := DataW.trod_int Try.underlying3 h1
  obtain ⟨a2, ha2, _⟩ := DataW.trod_int Try.underlying3 h2
  obtain ⟨a3, ha3, _⟩ := DataW.trod_int Try.underlying3 h3
  obtain ⟨a4, ha4, _⟩ := DataW.trod_int Try.underlying3 h4
  obtain ⟨a5, ha5, _⟩ := DataW.trod_int Try.underlying3 h5
  obtain ⟨a6, ha6, _⟩ := DataW.trod_int Try.underlying3 h6
  obtain ⟨u0, u1, u2, u3, u4, u5, u6, rfl⟩ : ∃ u0 u1 u2 u3 u4 u5 u6, cs = [u0, u1, u2, u3, u4, u5, u6] := len7 hl
  simp at hb ha1 ha2 ha3 ha4 ha5 ha6
  subst hb; subst ha1; subst ha2; subst ha3; subst ha4; subst ha5; subst ha6
  exact ⟨⟨b, a1, a2, a3, a4, a5, a6⟩, k80_mk _ ⟨b, a1, a2, a3, a4, a5, a6⟩, trivial⟩
end Go.Proofs.Ytiocgkggegahhaa.P
