import Derived.Test.YtiocgkggegahhaaGLawFnMapPutx4
import Derived.Maps.OwnSet
import Derived.Maps.OwnOps
import Derived.Maps.Views
import Derived.DeepKeys4
/- A table's two maps in plain words: keys that are ends or ports, and what each map says after the first so many ends. -/
namespace Go.Proofs.Ytiocgkggegahhaa.P
open Go.RowKit Go.Proofs.YtiocgkggegahhaaUFnMapPut.PrintWords Go.Proofs.YtiocgkggegahhaaUFnMapPut.PrintLast Go.Proofs.YtiocgkggegahhaaUFnMapPut.PrintMore
set_option linter.unusedVariables false
set_option linter.unusedSimpArgs false
def I64 (n : Int) : Prop := (Lit.int .i64 n).wf = true
theorem i64_iff (n : Int) : I64 n ↔ -9223372036854775808 ≤ n ∧ n ≤ 9223372036854775807 := by
  unfold I64
  simp [Lit.wf, IntKind.min, IntKind.max, IntKind.signed, IntKind.bits]
theorem mapLaid : laidOutB Try.prog = true := by kernel_rfl
theorem endKeyed : Maps.Keyed Try.prog 29 := Maps.Keyed.of_law (deep_law_laid mapLaid (m := 2) (by omega) (of_decide_eq_true (by kernel_rfl)) (by kernel_rfl) (by rw [Try.underlying29]))
theorem intKeyed : Maps.Keyed Try.prog 3 := Maps.int_keyed Try.underlying3
/-- An end as a key. -/
def eK (a b : Int) : Lit := .string (keyBytes [.int .i64 a, .int .i64 b])
theorem eK_key (a b : Int) : WideAt.IsKeyLit (eK a b) := trivial
theorem pK_key (n : Int) : WideAt.IsKeyLit (Lit.int .i64 n) := trivial
theorem endKey {a b : Int} (wa : I64 a) (wb : I64 b) : keyOf Try.prog 29 (.agg #[.int .i64 a, .int .i64 b]) = some (eK a b) := by
  have hk : Try.prog.keyType 29 = true := by kernel_rfl
  have hc : Try.prog.cellsOf 29 = 2 := by kernel_rfl
  have hc3 : Try.prog.cellsOf 3 = 1 := by kernel_rfl
  obtain ⟨m, hm⟩ : ∃ m, Try.prog.types.size = m + 2 := ⟨Try.prog.types.size - 2, by kernel_rfl⟩
  unfold I64 at wa wb
  unfold keyOf eK
  simp only [Try.underlying29]
  rw [if_pos (by simp [hk, Value.formed, Try.underlying29, hc]), hm]
  unfold Program.keyLits
  simp only [Try.underlying29, Value.cells]
  rw [if_pos (by rw [hc]; exact ⟨rfl, by simp⟩)]
  simp [hc3, Program.keyLits, Try.underlying3, wa, wb]
theorem intKey {n : Int} (w : I64 n) : keyOf Try.prog 3 (.int .i64 n) = some (.int .i64 n) := by
  unfold I64 at w
  simp [keyOf, mapKey, Try.underlying3, w]
theorem eK_inj {a b c d : Int} (wa : I64 a) (wb : I64 b) (wc : I64 c) (wd : I64 d) (h : eK a b = eK c d) : a = c ∧ b = d := by
  have := endKeyed.inj (endKey wa wb) (by rw [h]; exact endKey wc wd)
  simpa using this
/-- An end as an element. -/
def endD (a b : Int) : DataW Unit := .map [(.int .i64 0, .lit (.int .i64 a)), (.int .i64 0, .lit (.int .i64 b))]
def endR (v : Value) : Option (DataW Unit × List MemPlace) := match v with
  | .agg cs => (match cs.toList with
    | [.int .i64 a, .int .i64 b] => some (endD a b, [])
    | _ => none)
  | _ => none
theorem endR_mk (a b : Int) : endR (.agg #[.int .i64 a, .int .i64 b]) = some (endD a b, []) := rfl
theorem endR_inv {v : Value} {z : DataW Unit × List MemPlace} (h : endR v = some z) : ∃ a b, v = .agg #[.int .i64 a, .int .i64 b] ∧ z.1 = endD a b := by
  unfold endR at h
  split at h
  · rename_i cs
    split at h
    · rename_i a b he
      obtain ⟨l⟩ := cs
      simp at he
      subst he
      injection h with h
      subst h
      exact ⟨a, b, rfl, rfl⟩
    · cases h
  · cases h
theorem endD_inj {a b c d : Int} (h : endD a b = endD c d) : a = c ∧ b = d := by
  unfold endD at h
  simpa using h
/-- Where an end stands first. -/
def fnd (l : List S29) (a b : Int) : Option Nat := l.findIdx? (fun x => x.f0 == a && x.f1 == b)
theorem fnd_snoc (l : List S29) (x : S29) (a b : Int) : fnd (l ++ [x]) a b = (match fnd l a b with | some i => some i | none => if x.f0 = a ∧ x.f1 = b then some l.length else none) := by
  unfold fnd
  rw [List.findIdx?_append]
  cases l.findIdx? (fun x => x.f0 == a && x.f1 == b) with
  | some i => simp
  | none => by_cases h : x.f0 = a ∧ x.f1 = b <;> simp [List.findIdx?_cons, h]
/-- What the first map says of an end behind the ends l. -/
def Says1 (l : List S29) (D : DataW Unit) : Prop := ∀ a b, I64 a → I64 b → ∀ z, D.atKey (eK a b) z = (match fnd l a b with | none => z | some i => .lit (.int .i64 (500 + i)))
/-- What the second map says of a port. -/
def Says2 (l : List S29) (D : DataW Unit) : Prop := ∀ n, I64 n → ∀ z, D.atKey (.int .i64 n) z = (match (if 500 ≤ n then l[(n - 500).toNat]? else none) with | none => z | some x => endD x.f0 x.f1)
theorem says1_nil : Says1 [] (.map []) := fun a b _ _ z => rfl
theorem says2_nil : Says2 [] (.map []) := fun n _ z => by
  have : (if 500 ≤ n then ([] : List S29)[(n - 500).toNat]? else none) = none := by split <;> rfl
  rw [this]; rfl
theorem says1_has {l : List S29} {D : DataW Unit} (h : Says1 l D) {a b : Int} (wa : I64 a) (wb : I64 b) : Maps.has D (eK a b) = (fnd l a b).isSome := by
  cases hf : fnd l a b with
  | none => exact Maps.has_false_of_atKey (fun z => by rw [h a b wa wb z, hf])
  | some i => exact Maps.has_true_of_atKey (fun z => by rw [h a b wa wb z, hf])
theorem says1_old {l : List S29} {D : DataW Unit} (h : Says1 l D) (x : S29) (wx : I64 x.f0 ∧ I64 x.f1) (hx : Maps.has D (eK x.f0 x.f1) = true) : Says1 (l ++ [x]) D := by
  intro a b wa wb z
  rw [h a b wa wb z, fnd_snoc]
  cases hf : fnd l a b with
  | some i => rfl
  | none =>
    have hne : ¬ (x.f0 = a ∧ x.f1 = b) := by
      rintro ⟨rfl, rfl⟩
      rw [says1_has h wx.1 wx.2, hf] at hx
      cases hx
    simp [hne]
theorem says1_new {l : List S29} {D : DataW Unit} (h : Says1 l D) (hD : Maps.IsMap D) (x : S29) (wx : I64 x.f0 ∧ I64 x.f1) (hx : Maps.has D (eK x.f0 x.f1) = false) : Says1 (l ++ [x]) (D.put (eK x.f0 x.f1) (.lit (.int .i64 (500 + l.length)))) := by
  intro a b wa wb z
  rw [fnd_snoc]
  by_cases he : x.f0 = a ∧ x.f1 = b
  · obtain ⟨rfl, rfl⟩ := he
    rw [says1_has h wx.1 wx.2] at hx
    cases hf : fnd l x.f0 x.f1 with
    | some i => rw [hf] at hx; cases hx
    | none =>
      rw [Maps.atKey_put_same hD (eK_key _ _)]
      simp
  · have hne : eK a b ≠ eK x.f0 x.f1 := fun e => he (by obtain ⟨h1, h2⟩ := eK_inj wa wb wx.1 wx.2 e; exact ⟨h1.symm, h2.symm⟩)
    rw [Maps.atKey_put_other hne, h a b wa wb z]
    cases fnd l a b <;> simp [he]
theorem says2_has {l : List S29} {D : DataW Unit} (h : Says2 l D) (hl : l.length < 1000000000) : Maps.has D (.int .i64 (500 + l.length)) = false :=
  Maps.has_false_of_atKey (fun z => by
    rw [h _ ((i64_iff _).mpr (by omega)) z]
    have : (if 500 ≤ (500 + (l.length : Int)) then l[((500 + (l.length : Int)) - 500).toNat]? else none) = none := by
      rw [if_pos (by omega)]
      exact List.getElem?_eq_none (by omega)
    rw [this])
theorem says2_put {l : List S29} {D : DataW Unit} (h : Says2 l D) (hD : Maps.IsMap D) (x : S29) (hl : l.length < 1000000000) : Says2 (l ++ [x]) (D.put (.int .i64 (500 + l.length)) (endD x.f0 x.f1)) := by
  intro n wn z
  by_cases he : n = 500 + l.length
  · subst he
    rw [Maps.atKey_put_same hD (pK_key _)]
    have : (if 500 ≤ (500 + (l.length : Int)) then (l ++ [x])[((500 + (l.length : Int)) - 500).toNat]? else none) = some x := by
      rw [if_pos (by omega), show ((500 + (l.length : Int)) - 500).toNat = l.length by omega]
      simp
    rw [this]
  · have hne : (Lit.int .i64 n) ≠ Lit.int .i64 (500 + l.length) := fun e => he (by injection e)
    rw [Maps.atKey_put_other hne, h n wn z]
    have : (if 500 ≤ n then (l ++ [x])[(n - 500).toNat]? else none) = (if 500 ≤ n then l[(n - 500).toNat]? else none) := by
      by_cases h5 : 500 ≤ n
      · rw [if_pos h5, if_pos h5]
        rw [List.getElem?_append]
        split
        · rfl
        · rename_i hge
          rw [List.getElem?_eq_none (by simp; omega), List.getElem?_eq_none (by omega)]
      · rw [if_neg h5, if_neg h5]
    rw [this]
theorem says2_again {l : List S29} {D : DataW Unit} {x : S29} (h : Says2 (l ++ [x]) D) (hD : Maps.IsMap D) (hl : l.length < 1000000000) : Says2 (l ++ [x]) (D.put (.int .i64 (500 + l.length)) (endD x.f0 x.f1)) := by
  intro n wn z
  by_cases he : n = 500 + l.length
  · subst he
    rw [Maps.atKey_put_same hD (pK_key _)]
    have : (if 500 ≤ (500 + (l.length : Int)) then (l ++ [x])[((500 + (l.length : Int)) - 500).toNat]? else none) = some x := by
      rw [if_pos (by omega), show ((500 + (l.length : Int)) - 500).toNat = l.length by omega]
      simp
    rw [this]
  · have hne : (Lit.int .i64 n) ≠ Lit.int .i64 (500 + l.length) := fun e => he (by injection e)
    rw [Maps.atKey_put_other hne, h n wn z]
end Go.Proofs.Ytiocgkggegahhaa.P

/- The walk of both.set: it writes into a map what is not there yet. -/
namespace Go.Proofs.Ytiocgkggegahhaa.P
open Go.RowKit Go.Proofs.YtiocgkggegahhaaUFnMapPut.PrintWords Go.Proofs.YtiocgkggegahhaaUFnMapPut.PrintLast Go.Proofs.YtiocgkggegahhaaUFnMapPut.PrintMore
set_option linter.unusedVariables false
set_option linter.unusedSimpArgs false
theorem zero3 (w : World) : (zeroValue 3).run Try.prog w = .ok (.int .i64 0) w := by kernel_rfl
theorem zeroEnd (w : World) : (zeroValue 29).run Try.prog w = .ok (.agg #[.int .i64 0, .int .i64 0]) w := by kernel_rfl
/-- Nothing that was there has turned but for the blocks b1 and b2. -/
structure Fr (w w' : World) (b1 b2 : Nat) : Prop where
  os : w'.os = w.os
  tape : w'.tape = w.tape
  output : w'.output = w.output
  size : w.heap.size ≤ w'.heap.size
  block : ∀ i, i < w.heap.size → i ≠ b1 → i ≠ b2 → w'.heap[i]? = w.heap[i]?
theorem Fr.refl (w : World) (b1 b2 : Nat) : Fr w w b1 b2 := ⟨rfl, rfl, rfl, Nat.le_refl _, fun _ _ _ _ => rfl⟩
theorem Fr.trans {w w' w'' : World} {b1 b2 : Nat} (h : Fr w w' b1 b2) (k : Fr w' w'' b1 b2) : Fr w w'' b1 b2 :=
  ⟨k.os.trans h.os, k.tape.trans h.tape, k.output.trans h.output, Nat.le_trans h.size k.size, fun i hi h1 h2 => (k.block i (Nat.lt_of_lt_of_le hi h.size) h1 h2).trans (h.block i hi h1 h2)⟩
theorem Fr.below {w w' w'' : World} {b1 b2 : Nat} (h : Fr w w' b1 b2) (k : Below w'.heap.size w' w'') : Fr w w'' b1 b2 :=
  h.trans ⟨k.os, k.tape, k.output, k.size, fun i hi _ _ => k.block i hi⟩
theorem Fr.one {w w' w'' : World} {b1 b2 : Nat} (h : Fr w w' b1 b2) (k : w'.grownBy w'' (some b1)) : Fr w w'' b1 b2 :=
  h.trans ⟨k.os, k.tape, k.output, k.size, fun i hi h1 _ => k.block i hi (by simpa using h1)⟩
theorem Fr.two {w w' w'' : World} {b1 b2 : Nat} (h : Fr w w' b1 b2) (k : w'.grownBy w'' (some b2)) : Fr w w'' b1 b2 :=
  h.trans ⟨k.os, k.tape, k.output, k.size, fun i hi _ h2 => k.block i hi (by simpa using h2)⟩
theorem Fr.set {w w' : World} {b1 b2 g j : Nat} {v : Value} (h : Fr w w' b1 b2) (hg : w.heap.size ≤ g) : Fr w (w'.setCell ⟨g, j, none⟩ v) b1 b2 :=
  ⟨h.os, h.tape, h.output, by simpa [World.setCell] using h.size, fun i hi h1 h2 => (heap_setCell_other w' ⟨g, j, none⟩ i v (fun e => by simp at e; omega)).trans (h.block i hi h1 h2)⟩
theorem om_below {k : TypeId} {R : Value → Option (DataW Unit × List MemPlace)} {w w' : World} {b n : Nat} {D : DataW Unit} (h : w.ownsMap Try.prog k R b n D) (hb : Below w.heap.size w w') : w'.ownsMap Try.prog k R b n D := by
  have hlt := h.lt
  obtain ⟨es, c, h1, h2⟩ := h
  exact ⟨es, c, (hb.block b hlt).trans h1, h2⟩
theorem om_ne {k : TypeId} {R : Value → Option (DataW Unit × List MemPlace)} {w : World} {b n g : Nat} {D : DataW Unit} {cs : Array Value} {t : TypeId} (h : w.ownsMap Try.prog k R b n D) (hg : w.heap[g]? = some (.cells cs t (0, 0))) : g ≠ b := by
  rintro rfl
  obtain ⟨es, c, h1, h2⟩ := h
  rw [hg] at h1
  cases h1
set_option maxHeartbeats 8000000 in
set_option maxRecDepth 100000 in
theorem set_old (b1 b2 n1 n2 : Nat) (D1 D2 : DataW Unit) (a b n : Int) (wa : I64 a) (wb : I64 b) (wn : I64 n) (w : World) (hne : b1 ≠ b2)
    (h1 : w.ownsMap Try.prog 29 (plainElem Try.prog 3) b1 n1 D1) (h2 : w.ownsMap Try.prog 3 endR b2 n2 D2) (hn1 : n1 < 1000000000) (hn2 : n2 < 1000000000)
    (f1 : Maps.has D1 (eK a b) = true) (f2 : Maps.has D2 (.int .i64 n) = false) :
    Calls Try.prog 94 #[.agg #[.map (some b1), .map (some b2)], .agg #[.int .i64 a, .int .i64 b], .int .i64 n] w fun e w' =>
      e = .returned (.tuple #[]) ∧ w'.ownsMap Try.prog 29 (plainElem Try.prog 3) b1 n1 D1 ∧ w'.ownsMap Try.prog 3 endR b2 (n2 + 1) (D2.put (.int .i64 n) (endD a b)) ∧ Fr w w' b1 b2 := by
  have H1 := Aside0.mk h1
  have H2 := Aside0.mk h2
  have F1 := Aside0.mk f1
  have F2 := Aside0.mk f2
  have HNE := Aside0.mk hne
  have HF := Aside0.mk (Fr.refl w b1 b2)
  have HN1 := Aside0.mk (show n1 < maxLen by simp only [maxLen]; omega)
  have HN2 := Aside0.mk (show n2 < maxLen by simp only [maxLen]; omega)
  clear h1 h2 f1 f2 hne hn1 hn2
  go_enter Try.func94, Try.ntmps94
  go_wp2_with (first
    | ((with_reducible refine gate_dst (N := 3) rfl ?_)
       refine box_event ?hg (N := 3) ?hd (cs := #[.map (some b1), .map (some b2)]) (t := 90) ?hr ?_
       (case hd => rfl)
       (case hg => rfl)
       (case hr => first | (go_simp; done) | (go_simp; rfl))
       intro g3 hg w3 hbox hb
       have n1_ := Aside0.mk (om_below (w' := w3) H1.out hb)
       have n2_ := Aside0.mk (om_below (w' := w3) H2.out hb)
       have n3_ := Aside0.mk (Fr.below HF.out (w'' := w3) hb)
       have BK3 := Aside0.mk hbox
       clear H1 H2 HF
       have H1 := n1_
       have H2 := n2_
       have HF := n3_
       clear n1_ n2_ n3_ hb hbox hg)
    | ((with_reducible refine gate_dst (N := 4) rfl ?_)
       refine box_event ?hg (N := 4) ?hd (cs := #[.int .i64 a, .int .i64 b]) (t := 29) ?hr ?_
       (case hd => rfl)
       (case hg => rfl)
       (case hr => first | (go_simp; done) | (go_simp; rfl))
       intro g4 hg w4 hbox hb
       have n1_ := Aside0.mk (om_below (w' := w4) H1.out hb)
       have n2_ := Aside0.mk (om_below (w' := w4) H2.out hb)
       have n3_ := Aside0.mk (Fr.below HF.out (w'' := w4) hb)
       have n4_ := bkB BK3 hb
       have BK4 := Aside0.mk hbox
       have NB := Aside0.mk (show g3 ≠ g4 from by rw [hg]; exact Nat.ne_of_lt (bkL BK3))
       clear H1 H2 HF BK3
       have H1 := n1_
       have H2 := n2_
       have HF := n3_
       have BK3 := n4_
       clear n1_ n2_ n3_ n4_ hb hbox hg
       have c30 : w4.cell? ⟨g3, 0, none⟩ = some (.map (some b1)) := (blk_cell BK3.out 0).trans rfl
       have c31 : w4.cell? ⟨g3, 1, none⟩ = some (.map (some b2)) := (blk_cell BK3.out 1).trans rfl
       have c40 : w4.cell? ⟨g4, 0, none⟩ = some (.int .i64 a) := (blk_cell BK4.out 0).trans rfl
       have c41 : w4.cell? ⟨g4, 1, none⟩ = some (.int .i64 b) := (blk_cell BK4.out 1).trans rfl)
    | ((with_reducible refine gate_dst (N := 14) rfl ?_)
       at_lookup
       refine wpList_lookup_own_ok_int _ rfl _ _ 87 rfl 29 3 .i64 endKeyed Try.underlying87 Try.underlying3 (zero3 _) b1 n1 D1 rfl H1.out _ _ rfl (endKey wa wb) ?_
       intro c14 hat hwc
       rw [F1.out]
       clear hat hwc)
    | ((with_reducible refine gate_dst (N := 27) rfl ?_)
       at_lookup
       refine wpList_lookup_own_ok _ rfl _ _ 88 rfl 3 29 intKeyed Try.underlying88 _ (zeroEnd _) (endD 0 0) [] (endR_mk 0 0) b2 n2 D2 rfl H2.out _ _ rfl (intKey wn) ?_
       intro v27 ps27 hv27
       rw [F2.out]
       obtain ⟨xa, xb, rfl, _⟩ := endR_inv hv27
       clear hv27)
    | ((with_reducible refine gate_dst (N := 8) rfl ?_)
       refine box_event ?hg (N := 8) ?hd (cs := #[.int .i64 0, .int .i64 0]) (t := 29) ?hr ?_
       (case hd => rfl)
       (case hg => rfl)
       (case hr => first | (go_simp; done) | (go_simp; rfl))
       intro g8 hg w8 hbox hb
       have n1_ := Aside0.mk (om_below (w' := w8) H1.out hb)
       have n2_ := Aside0.mk (om_below (w' := w8) H2.out hb)
       have n3_ := Aside0.mk (Fr.below HF.out (w'' := w8) hb)
       have n4_ := bkB BK3 hb
       have n5_ := bkB BK4 hb
       have BK8 := Aside0.mk hbox
       have GE8 := Aside0.mk (show w.heap.size ≤ g8 from by rw [hg]; exact HF.out.size)
       have e38 : g3 ≠ g8 := by rw [hg]; exact Nat.ne_of_lt (bkL BK3)
       have e48 : g4 ≠ g8 := by rw [hg]; exact Nat.ne_of_lt (bkL BK4)
       have e83 := e38.symm
       have e84 := e48.symm
       clear H1 H2 HF BK3 BK4 c30 c31 c40 c41
       have H1 := n1_
       have H2 := n2_
       have HF := n3_
       have BK3 := n4_
       have BK4 := n5_
       clear n1_ n2_ n3_ n4_ n5_ hb hbox hg
       have c30 : w8.cell? ⟨g3, 0, none⟩ = some (.map (some b1)) := (blk_cell BK3.out 0).trans rfl
       have c31 : w8.cell? ⟨g3, 1, none⟩ = some (.map (some b2)) := (blk_cell BK3.out 1).trans rfl
       have c40 : w8.cell? ⟨g4, 0, none⟩ = some (.int .i64 a) := (blk_cell BK4.out 0).trans rfl
       have c41 : w8.cell? ⟨g4, 1, none⟩ = some (.int .i64 b) := (blk_cell BK4.out 1).trans rfl
       have c80 : w8.cell? ⟨g8, 0, none⟩ = some (.int .i64 0) := (blk_cell BK8.out 0).trans rfl
       have c81 : w8.cell? ⟨g8, 1, none⟩ = some (.int .i64 0) := (blk_cell BK8.out 1).trans rfl
       have z80 := blk_frozen BK8.out 0
       have z81 := blk_frozen BK8.out 1)
    | (at_mapUpdate
       refine wpList_mapUpdate_own _ rfl _ _ _ 88 rfl 3 29 intKeyed Try.underlying88 _ b2 n2 D2 rfl ((H2.out.setCell (om_ne H2.out BK8.out).symm _).setCell (om_ne H2.out BK8.out).symm _) HN2.out _ _ _ rfl rfl (intKey wn) _ _ (endR_mk a b) ?_
       intro w33 hm hg
       have n1_ := Aside0.mk (((H1.out.setCell (om_ne H1.out BK8.out).symm _).setCell (om_ne H1.out BK8.out).symm _).kept hg (by simpa using HNE.out))
       have n2_ := Aside0.mk hm
       have n3_ := Aside0.mk (((HF.out.set GE8.out).set GE8.out).two hg)
       clear H1 H2 HF BK3 BK4 BK8 c30 c31 c40 c41 c80 c81 z80 z81 hm hg
       have H1 := n1_
       have H2 := n2_
       have HF := n3_
       clear n1_ n2_ n3_))
  first | go_end0 | ((try simp only [Exit.inBlock, Exit.then]); refine bodyPost_ret (results_none rfl _ _ _) rfl ?_)
  exact ⟨rfl, H1.out, H2.out, HF.out⟩
set_option maxHeartbeats 8000000 in
set_option maxRecDepth 100000 in
theorem set_new (b1 b2 n1 n2 : Nat) (D1 D2 : DataW Unit) (a b n : Int) (wa : I64 a) (wb : I64 b) (wn : I64 n) (w : World) (hne : b1 ≠ b2)
    (h1 : w.ownsMap Try.prog 29 (plainElem Try.prog 3) b1 n1 D1) (h2 : w.ownsMap Try.prog 3 endR b2 n2 D2) (hn1 : n1 < 1000000000) (hn2 : n2 < 1000000000)
    (f1 : Maps.has D1 (eK a b) = false) (f2 : Maps.has D2 (.int .i64 n) = false) :
    Calls Try.prog 94 #[.agg #[.map (some b1), .map (some b2)], .agg #[.int .i64 a, .int .i64 b], .int .i64 n] w fun e w' =>
      e = .returned (.tuple #[]) ∧ w'.ownsMap Try.prog 29 (plainElem Try.prog 3) b1 (n1 + 1) (D1.put (eK a b) (.lit (.int .i64 n))) ∧ w'.ownsMap Try.prog 3 endR b2 (n2 + 1) (D2.put (.int .i64 n) (endD a b)) ∧ Fr w w' b1 b2 := by
  have H1 := Aside0.mk h1
  have H2 := Aside0.mk h2
  have F1 := Aside0.mk f1
  have F2 := Aside0.mk f2
  have HNE := Aside0.mk hne
  have HF := Aside0.mk (Fr.refl w b1 b2)
  have HN1 := Aside0.mk (show n1 < maxLen by simp only [maxLen]; omega)
  have HN2 := Aside0.mk (show n2 < maxLen by simp only [maxLen]; omega)
  clear h1 h2 f1 f2 hne hn1 hn2
  go_enter Try.func94, Try.ntmps94
  go_wp2_with (first
    | ((with_reducible refine gate_dst (N := 3) rfl ?_)
       refine box_event ?hg (N := 3) ?hd (cs := #[.map (some b1), .map (some b2)]) (t := 90) ?hr ?_
       (case hd => rfl)
       (case hg => rfl)
       (case hr => first | (go_simp; done) | (go_simp; rfl))
       intro g3 hg w3 hbox hb
       have n1_ := Aside0.mk (om_below (w' := w3) H1.out hb)
       have n2_ := Aside0.mk (om_below (w' := w3) H2.out hb)
       have n3_ := Aside0.mk (Fr.below HF.out (w'' := w3) hb)
       have BK3 := Aside0.mk hbox
       clear H1 H2 HF
       have H1 := n1_
       have H2 := n2_
       have HF := n3_
       clear n1_ n2_ n3_ hb hbox hg)
    | ((with_reducible refine gate_dst (N := 4) rfl ?_)
       refine box_event ?hg (N := 4) ?hd (cs := #[.int .i64 a, .int .i64 b]) (t := 29) ?hr ?_
       (case hd => rfl)
       (case hg => rfl)
       (case hr => first | (go_simp; done) | (go_simp; rfl))
       intro g4 hg w4 hbox hb
       have n1_ := Aside0.mk (om_below (w' := w4) H1.out hb)
       have n2_ := Aside0.mk (om_below (w' := w4) H2.out hb)
       have n3_ := Aside0.mk (Fr.below HF.out (w'' := w4) hb)
       have n4_ := bkB BK3 hb
       have BK4 := Aside0.mk hbox
       have NB := Aside0.mk (show g3 ≠ g4 from by rw [hg]; exact Nat.ne_of_lt (bkL BK3))
       clear H1 H2 HF BK3
       have H1 := n1_
       have H2 := n2_
       have HF := n3_
       have BK3 := n4_
       clear n1_ n2_ n3_ n4_ hb hbox hg
       have c30 : w4.cell? ⟨g3, 0, none⟩ = some (.map (some b1)) := (blk_cell BK3.out 0).trans rfl
       have c31 : w4.cell? ⟨g3, 1, none⟩ = some (.map (some b2)) := (blk_cell BK3.out 1).trans rfl
       have c40 : w4.cell? ⟨g4, 0, none⟩ = some (.int .i64 a) := (blk_cell BK4.out 0).trans rfl
       have c41 : w4.cell? ⟨g4, 1, none⟩ = some (.int .i64 b) := (blk_cell BK4.out 1).trans rfl)
    | ((with_reducible refine gate_dst (N := 14) rfl ?_)
       at_lookup
       refine wpList_lookup_own_ok_int _ rfl _ _ 87 rfl 29 3 .i64 endKeyed Try.underlying87 Try.underlying3 (zero3 _) b1 n1 D1 rfl H1.out _ _ rfl (endKey wa wb) ?_
       intro c14 hat hwc
       rw [F1.out]
       clear hat hwc)
    | (at_mapUpdate
       refine wpList_mapUpdate_own _ rfl _ _ _ 87 rfl 29 3 endKeyed Try.underlying87 _ b1 n1 D1 rfl H1.out HN1.out _ _ _ rfl rfl (endKey wa wb) _ _ (plainElem_int Try.underlying3 wn) ?_
       intro w20 hm hg
       have n1_ := Aside0.mk hm
       have n2_ := Aside0.mk (H2.out.kept hg (by simpa using HNE.out.symm))
       have n3_ := Aside0.mk (HF.out.one hg)
       have n4_ : Aside0 (w20.heap[g3]? = some (.cells #[.map (some b1), .map (some b2)] 90 (0, 0))) := ⟨(hg.block g3 (blk_lt BK3.out) (by simpa using om_ne H1.out BK3.out)).trans BK3.out⟩
       have n5_ : Aside0 (w20.heap[g4]? = some (.cells #[.int .i64 a, .int .i64 b] 29 (0, 0))) := ⟨(hg.block g4 (blk_lt BK4.out) (by simpa using om_ne H1.out BK4.out)).trans BK4.out⟩
       clear H1 H2 HF BK3 BK4 c30 c31 c40 c41
       have H1 := n1_
       have H2 := n2_
       have HF := n3_
       have BK3 := n4_
       have BK4 := n5_
       clear n1_ n2_ n3_ n4_ n5_ hm hg
       have c30 : w20.cell? ⟨g3, 0, none⟩ = some (.map (some b1)) := (blk_cell BK3.out 0).trans rfl
       have c31 : w20.cell? ⟨g3, 1, none⟩ = some (.map (some b2)) := (blk_cell BK3.out 1).trans rfl
       have c40 : w20.cell? ⟨g4, 0, none⟩ = some (.int .i64 a) := (blk_cell BK4.out 0).trans rfl
       have c41 : w20.cell? ⟨g4, 1, none⟩ = some (.int .i64 b) := (blk_cell BK4.out 1).trans rfl)
    | ((with_reducible refine gate_dst (N := 27) rfl ?_)
       at_lookup
       refine wpList_lookup_own_ok _ rfl _ _ 88 rfl 3 29 intKeyed Try.underlying88 _ (zeroEnd _) (endD 0 0) [] (endR_mk 0 0) b2 n2 D2 rfl H2.out _ _ rfl (intKey wn) ?_
       intro v27 ps27 hv27
       rw [F2.out]
       obtain ⟨xa, xb, rfl, _⟩ := endR_inv hv27
       clear hv27)
    | ((with_reducible refine gate_dst (N := 8) rfl ?_)
       refine box_event ?hg (N := 8) ?hd (cs := #[.int .i64 0, .int .i64 0]) (t := 29) ?hr ?_
       (case hd => rfl)
       (case hg => rfl)
       (case hr => first | (go_simp; done) | (go_simp; rfl))
       intro g8 hg w8 hbox hb
       have n1_ := Aside0.mk (om_below (w' := w8) H1.out hb)
       have n2_ := Aside0.mk (om_below (w' := w8) H2.out hb)
       have n3_ := Aside0.mk (Fr.below HF.out (w'' := w8) hb)
       have n4_ := bkB BK3 hb
       have n5_ := bkB BK4 hb
       have BK8 := Aside0.mk hbox
       have GE8 := Aside0.mk (show w.heap.size ≤ g8 from by rw [hg]; exact HF.out.size)
       have e38 : g3 ≠ g8 := by rw [hg]; exact Nat.ne_of_lt (bkL BK3)
       have e48 : g4 ≠ g8 := by rw [hg]; exact Nat.ne_of_lt (bkL BK4)
       have e83 := e38.symm
       have e84 := e48.symm
       clear H1 H2 HF BK3 BK4 c30 c31 c40 c41
       have H1 := n1_
       have H2 := n2_
       have HF := n3_
       have BK3 := n4_
       have BK4 := n5_
       clear n1_ n2_ n3_ n4_ n5_ hb hbox hg
       have c30 : w8.cell? ⟨g3, 0, none⟩ = some (.map (some b1)) := (blk_cell BK3.out 0).trans rfl
       have c31 : w8.cell? ⟨g3, 1, none⟩ = some (.map (some b2)) := (blk_cell BK3.out 1).trans rfl
       have c40 : w8.cell? ⟨g4, 0, none⟩ = some (.int .i64 a) := (blk_cell BK4.out 0).trans rfl
       have c41 : w8.cell? ⟨g4, 1, none⟩ = some (.int .i64 b) := (blk_cell BK4.out 1).trans rfl
       have c80 : w8.cell? ⟨g8, 0, none⟩ = some (.int .i64 0) := (blk_cell BK8.out 0).trans rfl
       have c81 : w8.cell? ⟨g8, 1, none⟩ = some (.int .i64 0) := (blk_cell BK8.out 1).trans rfl
       have z80 := blk_frozen BK8.out 0
       have z81 := blk_frozen BK8.out 1)
    | (at_mapUpdate
       refine wpList_mapUpdate_own _ rfl _ _ _ 88 rfl 3 29 intKeyed Try.underlying88 _ b2 n2 D2 rfl ((H2.out.setCell (om_ne H2.out BK8.out).symm _).setCell (om_ne H2.out BK8.out).symm _) HN2.out _ _ _ rfl rfl (intKey wn) _ _ (endR_mk a b) ?_
       intro w33 hm hg
       have n1_ := Aside0.mk (((H1.out.setCell (om_ne H1.out BK8.out).symm _).setCell (om_ne H1.out BK8.out).symm _).kept hg (by simpa using HNE.out))
       have n2_ := Aside0.mk hm
       have n3_ := Aside0.mk (((HF.out.set GE8.out).set GE8.out).two hg)
       clear H1 H2 HF BK3 BK4 BK8 c30 c31 c40 c41 c80 c81 z80 z81 hm hg
       have H1 := n1_
       have H2 := n2_
       have HF := n3_
       clear n1_ n2_ n3_))
  first | go_end0 | ((try simp only [Exit.inBlock, Exit.then]); refine bodyPost_ret (results_none rfl _ _ _) rfl ?_)
  exact ⟨rfl, H1.out, H2.out, HF.out⟩
end Go.Proofs.Ytiocgkggegahhaa.P

/- The walk of portsOf: its two maps say which port an end has, and which end a port. -/
namespace Go.Proofs.Ytiocgkggegahhaa.P
open Go.RowKit Go.Proofs.YtiocgkggegahhaaUFnMapPut.PrintWords Go.Proofs.YtiocgkggegahhaaUFnMapPut.PrintLast Go.Proofs.YtiocgkggegahhaaUFnMapPut.PrintMore
set_option linter.unusedVariables false
set_option linter.unusedSimpArgs false
/-- The two maps of the ends l. -/
def Tab (w : World) (l : List S29) (b1 b2 : Nat) : Prop := ∃ n1 n2 D1 D2, w.ownsMap Try.prog 29 (plainElem Try.prog 3) b1 n1 D1 ∧ w.ownsMap Try.prog 3 endR b2 n2 D2 ∧ n1 ≤ l.length ∧ n2 ≤ 2 * l.length ∧ Says1 l D1 ∧ Says2 l D2
def Wf (x : S29) : Prop := I64 x.f0 ∧ I64 x.f1
theorem Tab.kept {w w' : World} {l : List S29} {b1 b2 : Nat} (h : Tab w l b1 b2) (hk : ∀ i, i < w.heap.size → i = b1 ∨ i = b2 → w'.heap[i]? = w.heap[i]?) : Tab w' l b1 b2 := by
  obtain ⟨n1, n2, D1, D2, h1, h2, r⟩ := h
  have l1 := h1.lt
  have l2 := h2.lt
  obtain ⟨es, c, q1, q2⟩ := h1
  obtain ⟨es', c', q1', q2'⟩ := h2
  exact ⟨n1, n2, D1, D2, ⟨es, c, (hk b1 l1 (.inl rfl)).trans q1, q2⟩, ⟨es', c', (hk b2 l2 (.inr rfl)).trans q1', q2'⟩, r⟩
theorem Tab.below {w w' : World} {l : List S29} {b1 b2 : Nat} (h : Tab w l b1 b2) (hb : Below w.heap.size w w') : Tab w' l b1 b2 := h.kept fun i hi _ => hb.block i hi
theorem Tab.ne {w : World} {l : List S29} {b1 b2 g : Nat} {cs : Array Value} {t : TypeId} (h : Tab w l b1 b2) (hg : w.heap[g]? = some (.cells cs t (0, 0))) : g ≠ b1 ∧ g ≠ b2 := by
  obtain ⟨n1, n2, D1, D2, h1, h2, r⟩ := h
  exact ⟨om_ne h1 hg, om_ne h2 hg⟩
theorem Tab.set {w : World} {l : List S29} {b1 b2 g j : Nat} {v : Value} {cs : Array Value} {t : TypeId} (h : Tab w l b1 b2) (hg : w.heap[g]? = some (.cells cs t (0, 0))) : Tab (w.setCell ⟨g, j, none⟩ v) l b1 b2 :=
  h.kept fun i _ hi => heap_setCell_other w ⟨g, j, none⟩ i v (fun e => by
    have := h.ne hg
    simp at e
    rcases hi with rfl | rfl
    · exact this.1 e.symm
    · exact this.2 e.symm)
/-- set, at the next end: both maps know it then. -/
theorem set_tab (b1 b2 : Nat) (l : List S29) (x : S29) (p : Int) (w : World) (hne : b1 ≠ b2) (hx : Wf x) (hl : l.length < 100000000) (hp : p = 500 + l.length) (h : Tab w l b1 b2) :
    Calls Try.prog 94 #[.agg #[.map (some b1), .map (some b2)], .agg #[.int .i64 x.f0, .int .i64 x.f1], .int .i64 p] w fun e w' =>
      e = .returned (.tuple #[]) ∧ (∃ n1 n2 D1 D2, w'.ownsMap Try.prog 29 (plainElem Try.prog 3) b1 n1 D1 ∧ w'.ownsMap Try.prog 3 endR b2 n2 D2 ∧ n1 ≤ l.length + 1 ∧ n2 ≤ 2 * l.length + 1 ∧ Says1 (l ++ [x]) D1 ∧ Says2 (l ++ [x]) D2) ∧ Fr w w' b1 b2 := by
  subst hp
  obtain ⟨n1, n2, D1, D2, h1, h2, hn1, hn2, s1, s2⟩ := h
  have wn : I64 (500 + l.length) := (i64_iff _).mpr (by omega)
  have f2 := says2_has s2 (by omega)
  have s2' := says2_put s2 h2.isMap x (by omega)
  cases hf : Maps.has D1 (eK x.f0 x.f1) with
  | true =>
    refine (set_old b1 b2 n1 n2 D1 D2 x.f0 x.f1 _ hx.1 hx.2 wn w hne h1 h2 (by omega) (by omega) hf f2).mono ?_
    rintro e w' ⟨rfl, k1, k2, k3⟩
    exact ⟨rfl, ⟨_, _, _, _, k1, k2, by omega, by omega, says1_old s1 x hx hf, s2'⟩, k3⟩
  | false =>
    refine (set_new b1 b2 n1 n2 D1 D2 x.f0 x.f1 _ hx.1 hx.2 wn w hne h1 h2 (by omega) (by omega) hf f2).mono ?_
    rintro e w' ⟨rfl, k1, k2, k3⟩
    exact ⟨rfl, ⟨_, _, _, _, k1, k2, by omega, by omega, says1_new s1 h1.isMap x hx hf, s2'⟩, k3⟩
theorem mk_event {P : Program} {w : World} {ops : Array Oper} {rest : List Oper} {o : Oper} {a : Act} {Q : Exit → Act → World → Prop} (hgd : o.guard = none) {N : Tmp} (_hd : o.dst = some N) (t : TypeId) (hop : o.op = Op.makeMap t none)
    (h : ∀ g w1, g = w.heap.size → w1.heap[g]? = some (.map #[] 0) → Below w.heap.size w w1 → wpList P ops Q rest (a.put o.dst (.map (some g))) w1) : wpList P ops Q (o :: rest) a w := by
  refine Kd.event_run hgd (v := .map (some w.heap.size)) (w1 := w.alloc (.map #[] 0)) ?_ (h _ _ rfl (heap_alloc_new w _) (below_alloc (Below.refl _ _) _))
  simp [execOp, hop, run_makeMap, Result.andThen]
theorem tab_made {w : World} {b1 b2 : Nat} (h1 : w.heap[b1]? = some (.map #[] 0)) (h2 : w.heap[b2]? = some (.map #[] 0)) : Tab w [] b1 b2 := by
  have q1 : ∀ (k : TypeId) (R : Value → Option (DataW Unit × List MemPlace)) (b : Nat), w.heap[b]? = some (.map #[] 0) → w.ownsMap Try.prog k R b 0 (.map []) := by
    intro k R b hb
    obtain ⟨es, c, z1, z2, z3, z4⟩ := World.ownsMap_made (default : World) Try.prog k R
    rw [heap_alloc_new] at z1
    injection z1 with z1
    injection z1 with z1 z1'
    subst z1; subst z1'
    exact ⟨_, _, hb, z2, z3, z4⟩
  exact ⟨0, 0, _, _, q1 _ _ _ h1, q1 _ _ _ h2, Nat.le_refl _, Nat.le_refl _, says1_nil, says2_nil⟩
theorem fr_blk {W w' : World} {b1 b2 g : Nat} {o : Obj} (hF : Fr W w' b1 b2) (h : W.heap[g]? = some o) (n : g ≠ b1 ∧ g ≠ b2) : w'.heap[g]? = some o := (hF.block g (blk_lt h) n.1 n.2).trans h
theorem below_fr {w W w' : World} {b1 b2 : Nat} (h : Below w.heap.size w W) (hF : Fr W w' b1 b2) (h1 : w.heap.size ≤ b1) (h2 : w.heap.size ≤ b2) : Below w.heap.size w w' :=
  ⟨hF.os.trans h.os, hF.tape.trans h.tape, hF.output.trans h.output, Nat.le_trans h.size hF.size, fun i hi => (hF.block i (Nat.lt_of_lt_of_le hi h.size) (by omega) (by omega)).trans (h.block i hi)⟩
theorem rd29_get {l : List S29} {i : Nat} (h : i < l.length) : rd_T29 l (i : Int) = l[i] := by
  unfold rd_T29
  simp [List.getD, h]
theorem map_below {w w' : World} {b : Nat} {o : Obj} (h : w.heap[b]? = some o) (hb : Below w.heap.size w w') : w'.heap[b]? = some o := blk_below h hb
theorem map_ne {w : World} {b g : Nat} {cs : Array Value} {t : TypeId} (h : w.heap[b]? = some (.map #[] 0)) (hg : w.heap[g]? = some (.cells cs t (0, 0))) : g ≠ b := by
  rintro rfl
  rw [h] at hg
  cases hg
set_option maxHeartbeats 8000000 in
set_option maxRecDepth 100000 in
theorem portsOf_walk (A : Option Addr) (c : Nat) (l : List S29) (w : World) (hr : Kd.C k29 w A l.length l) (hc : l.length ≤ c) (hl : l.length < 1000000) (hw : ∀ x ∈ l, Wf x) :
    Calls Try.prog 67 #[.agg #[.slice A l.length c]] w fun e w' => ∃ b1 b2, e = .returned (.agg #[.map (some b1), .map (some b2)]) ∧ Tab w' l b1 b2 ∧ Below w.heap.size w w' := by
  have HR := Aside0.mk hr
  have HW := Aside0.mk hw
  have HL := Aside0.mk hl
  clear hr hw hl hc
  have HB := Aside0.mk (Below.refl w.heap.size w)
  go_enter Try.func67, Try.ntmps67
  go_wp2_with (first
    | ((with_reducible refine gate_dst (N := 1) rfl ?_)
       refine box_event ?hg (N := 1) ?hd (cs := #[.slice A l.length c]) (t := 45) ?hr ?_
       (case hd => rfl)
       (case hg => rfl)
       (case hr => first | (go_simp; done) | (go_simp; rfl))
       intro g1 hg w3 hbox hb
       have n1_ := Aside0.mk (below_step (bl HB) hb)
       have G1 := Aside0.mk (show w.heap.size ≤ g1 from by rw [hg]; exact below_size (bl HB))
       have BK1 := Aside0.mk hbox
       clear HB
       have HB := n1_
       clear n1_ hg hbox hb)
    | ((with_reducible refine gate_dst (N := 2) rfl ?_)
       refine box_event ?hg (N := 2) ?hd (cs := #[.map none, .map none]) (t := 90) ?hr ?_
       (case hd => rfl)
       (case hg => rfl)
       (case hr => first | (go_simp; done) | (go_simp; rfl))
       intro g2 hg w4 hbox hb
       have n1_ := Aside0.mk (below_step (bl HB) hb)
       have n2_ := bkB BK1 hb
       have G2 := Aside0.mk (show w.heap.size ≤ g2 from by rw [hg]; exact below_size (bl HB))
       have E12 := Aside0.mk (show g1 ≠ g2 from by rw [hg]; exact Nat.ne_of_lt (bkL BK1))
       have BK2 := Aside0.mk hbox
       clear HB BK1
       have HB := n1_
       have BK1 := n2_
       clear n1_ n2_ hg hbox hb)
    | ((with_reducible refine gate_dst (N := 6) rfl ?_)
       refine mk_event ?hg (N := 6) ?hd _ rfl ?_
       (case hd => rfl)
       (case hg => rfl)
       intro b1 w5 hg hbox hb
       have n1_ := Aside0.mk (below_step (bl HB) hb)
       have n2_ := bkB BK1 hb
       have n3_ := bkB BK2 hb
       have GM1 := Aside0.mk (show w.heap.size ≤ b1 from by rw [hg]; exact below_size (bl HB))
       have MK1 := Aside0.mk hbox
       clear HB BK1 BK2
       have HB := n1_
       have BK1 := n2_
       have BK2 := n3_
       clear n1_ n2_ n3_ hg hbox hb)
    | ((with_reducible refine gate_dst (N := 7) rfl ?_)
       refine mk_event ?hg (N := 7) ?hd _ rfl ?_
       (case hd => rfl)
       (case hg => rfl)
       intro b2 w6 hg hbox hb
       have n1_ := Aside0.mk (below_step (bl HB) hb)
       have n2_ := bkB BK1 hb
       have n3_ := bkB BK2 hb
       have n4_ := bkB MK1 hb
       have GM2 := Aside0.mk (show w.heap.size ≤ b2 from by rw [hg]; exact below_size (bl HB))
       have HNE := Aside0.mk (show b1 ≠ b2 from by rw [hg]; exact Nat.ne_of_lt (bkL MK1))
       have MK2 := Aside0.mk hbox
       clear HB BK1 BK2 MK1
       have HB := n1_
       have BK1 := n2_
       have BK2 := n3_
       have MK1 := n4_
       clear n1_ n2_ n3_ n4_ hg hbox hb)
    | ((with_reducible refine gate_dst (N := 3) rfl ?_)
       refine box_event ?hg (N := 3) ?hd (cs := #[.map none, .map none]) (t := 90) ?hr ?_
       (case hd => rfl)
       (case hg => rfl)
       (case hr => first | (go_simp; done) | (go_simp; rfl))
       intro g3 hg w7 hbox hb
       have n1_ := Aside0.mk (below_step (bl HB) hb)
       have n2_ := bkB BK1 hb
       have n3_ := bkB BK2 hb
       have n4_ := bkB MK1 hb
       have n5_ := bkB MK2 hb
       have G3 := Aside0.mk (show w.heap.size ≤ g3 from by rw [hg]; exact below_size (bl HB))
       have e13 : g1 ≠ g3 := by rw [hg]; exact Nat.ne_of_lt (bkL BK1)
       have e31 := e13.symm
       have E23 := Aside0.mk (show g2 ≠ g3 from by rw [hg]; exact Nat.ne_of_lt (bkL BK2))
       have BK3 := Aside0.mk hbox
       clear HB BK1 BK2 MK1 MK2
       have HB := n1_
       have BK1 := n2_
       have BK2 := n3_
       have MK1 := n4_
       have MK2 := n5_
       clear n1_ n2_ n3_ n4_ n5_ hg hbox hb
       have c10 : w7.cell? ⟨g1, 0, none⟩ = some (.slice A l.length c) := (blk_cell BK1.out 0).trans rfl
       have c30 : w7.cell? ⟨g3, 0, none⟩ = some (.map none) := (blk_cell BK3.out 0).trans rfl
       have c31 : w7.cell? ⟨g3, 1, none⟩ = some (.map none) := (blk_cell BK3.out 1).trans rfl
       have z30 := blk_frozen BK3.out 0
       have z31 := blk_frozen BK3.out 1))
  have n1_ : Aside0 (((w7.setCell ⟨g3, 0, none⟩ (.map (some b1))).setCell ⟨g3, 1, none⟩ (.map (some b2))).heap[g1]? = some (.cells #[.slice A l.length c] 45 (0, 0))) := ⟨blk_far (blk_far BK1.out e13 _) e13 _⟩
  have n2_ : Aside0 (((w7.setCell ⟨g3, 0, none⟩ (.map (some b1))).setCell ⟨g3, 1, none⟩ (.map (some b2))).heap[g2]? = some (.cells #[.map none, .map none] 90 (0, 0))) := ⟨blk_far (blk_far BK2.out E23.out _) E23.out _⟩
  have n3_ : Aside0 (((w7.setCell ⟨g3, 0, none⟩ (.map (some b1))).setCell ⟨g3, 1, none⟩ (.map (some b2))).heap[g3]? = some (.cells #[.map (some b1), .map (some b2)] 90 (0, 0))) := ⟨by
    have z := blk_set (blk_set BK3.out 0 (.map (some b1))) 1 (.map (some b2))
    simpa using z⟩
  have n4_ : Aside0 (Tab ((w7.setCell ⟨g3, 0, none⟩ (.map (some b1))).setCell ⟨g3, 1, none⟩ (.map (some b2))) (l.take 0) b1 b2) := ⟨by
    have z := (tab_made MK1.out MK2.out).set (j := 0) (v := .map (some b1)) BK3.out
    exact z.set (j := 1) (v := .map (some b2)) (blk_set BK3.out 0 (.map (some b1)))⟩
  have n5_ : Aside0 (Below w.heap.size w ((w7.setCell ⟨g3, 0, none⟩ (.map (some b1))).setCell ⟨g3, 1, none⟩ (.map (some b2)))) := ⟨below_set (below_set HB.out G3.out) G3.out⟩
  clear c10 c30 c31 z30 z31 BK1 BK2 BK3 MK1 MK2 HB
  generalize (w7.setCell ⟨g3, 0, none⟩ (.map (some b1))).setCell ⟨g3, 1, none⟩ (.map (some b2)) = w8 at n1_ n2_ n3_ n4_ n5_ ⊢
  go_loopg [12] l.length (fun kq v12 w' => ∃ (x : Int) (m : Nat), v12 = .int .i64 x ∧ Aside0 (x = m) ∧ Aside0 (m + kq = l.length) ∧ Aside0 (w'.heap[g1]? = some (.cells #[.slice A l.length c] 45 (0, 0))) ∧ Aside0 (w'.heap[g2]? = some (.cells #[.map none, .map none] 90 (0, 0))) ∧ Aside0 (w'.heap[g3]? = some (.cells #[.map (some b1), .map (some b2)] 90 (0, 0))) ∧ Aside0 (Tab w' (l.take m) b1 b2) ∧ Aside0 (Below w.heap.size w w'))
  case atStart => exact ⟨0, 0, (by first | rfl | (simp; done)), ⟨rfl⟩, ⟨by omega⟩, n1_, n2_, n3_, n4_, n5_⟩
  case round =>
    clear n1_ n2_ n3_ n4_ n5_
    obtain ⟨x, m, rfl, HX, HM, BK1, BK2, BK3, HT, HB⟩ := hrel
    cases gk with
    | zero =>
      have hm : m = l.length := by have := HM.out; omega
      have HE := Aside0.mk hm
      have c0 : decide (x < (l.length : Int)) = false := by have := HX.out; simp; omega
      clear hm
      have c30 : wr.cell? ⟨g3, 0, none⟩ = some (.map (some b1)) := (blk_cell BK3.out 0).trans rfl
      have c31 : wr.cell? ⟨g3, 1, none⟩ = some (.map (some b2)) := (blk_cell BK3.out 1).trans rfl
      have c20 : wr.cell? ⟨g2, 0, none⟩ = some (.map none) := (blk_cell BK2.out 0).trans rfl
      have c21 : wr.cell? ⟨g2, 1, none⟩ = some (.map none) := (blk_cell BK2.out 1).trans rfl
      have z20 := blk_frozen BK2.out 0
      have z21 := blk_frozen BK2.out 1
      go_wp2
      refine bodyPost_ret (results_cell_row rfl _ _ g2 90 #[.map (some b1), .map (some b2)] (0, 0) _ rfl (by (with_reducible repeat refine bu ?_); refine blk_put (cs := #[.map (some b1), .map none]) ?_ 1 _ rfl; (with_reducible repeat refine bu ?_); refine blk_put (cs := #[.map none, .map none]) ?_ 0 _ rfl; (with_reducible repeat refine bu ?_); exact BK2.out) Try.underlying90 rfl (by kernel_rfl)) rfl ?_
      refine ⟨b1, b2, rfl, ?_, below_set (below_set HB.out G2.out) G2.out⟩
      have z := HT.out
      rw [HE.out, List.take_length] at z
      exact (z.set BK2.out).set (blk_set BK2.out 0 (.map (some b1)))
    | succ k1 =>
      have hm : m < l.length := by have := HM.out; omega
      have hx0 : (0 : Int) ≤ x := by have := HX.out; omega
      have hx1 : x < (l.length : Int) := by have := HX.out; omega
      have c0 : decide (x < (l.length : Int)) = true := decide_eq_true hx1
      obtain ⟨ad, e_, hc0, hc1⟩ := at_T29 (Kd.C_below HR.out HB.out) x hx0 hx1
      cases e_
      have WX := Aside0.mk (show Wf (rd_T29 l x) from by rw [HX.out, rd29_get hm]; exact HW.out _ (List.getElem_mem hm))
      have HTK := Aside0.mk (show l.take (m + 1) = l.take m ++ [rd_T29 l x] from by rw [HX.out, rd29_get hm]; exact List.take_succ_eq_append_getElem hm)
      have MM := Aside0.mk hm
      obtain ⟨p, hp⟩ : ∃ p : Int, p = 500 + ((l.take m).length : Int) := ⟨_, rfl⟩
      have hpw : IntKind.i64.wrap (500 + x) = p := by
        have := HX.out
        have hl' := HL.out
        rw [i64_w, hp, List.length_take]
        unfold wrap64
        omega
      have HP := Aside0.mk hp
      have HLT := Aside0.mk (show (l.take m).length < 100000000 from by have := HL.out; rw [List.length_take]; omega)
      clear hp hm
      replace hx0 := eq_true hx0
      replace hx1 := eq_true hx1
      go_wp2_with (first
        | ((with_reducible refine gate_dst (N := 5) rfl ?_)
           refine box_event ?hg (N := 5) ?hd (cs := #[.int .i64 0, .int .i64 0]) (t := 29) ?hr ?_
           (case hd => rfl)
           (case hg => rfl)
           (case hr => first | (go_simp; done) | (go_simp; rfl))
           intro g5 hg w9 hbox hb
           have n1_ := Aside0.mk (below_step (bl HB) hb)
           have n2_ := bkB BK1 hb
           have n3_ := bkB BK2 hb
           have n4_ := bkB BK3 hb
           have n5_ := Aside0.mk (Tab.below HT.out (w' := w9) hb)
           have G5 := Aside0.mk (show w.heap.size ≤ g5 from by rw [hg]; exact below_size (bl HB))
           have e15 : g1 ≠ g5 := by rw [hg]; exact Nat.ne_of_lt (bkL BK1)
           have e25 : g2 ≠ g5 := by rw [hg]; exact Nat.ne_of_lt (bkL BK2)
           have e35 : g3 ≠ g5 := by rw [hg]; exact Nat.ne_of_lt (bkL BK3)
           have e53 := e35.symm
           have BK5 := Aside0.mk hbox
           clear HB BK1 BK2 BK3 HT
           have HB := n1_
           have BK1 := n2_
           have BK2 := n3_
           have BK3 := n4_
           have HT := n5_
           clear n1_ n2_ n3_ n4_ n5_ hg hbox hb
           have c30 : w9.cell? ⟨g3, 0, none⟩ = some (.map (some b1)) := (blk_cell BK3.out 0).trans rfl
           have c31 : w9.cell? ⟨g3, 1, none⟩ = some (.map (some b2)) := (blk_cell BK3.out 1).trans rfl
           have c50 : w9.cell? ⟨g5, 0, none⟩ = some (.int .i64 0) := (blk_cell BK5.out 0).trans rfl
           have c51 : w9.cell? ⟨g5, 1, none⟩ = some (.int .i64 0) := (blk_cell BK5.out 1).trans rfl
           have z50 := blk_frozen BK5.out 0
           have z51 := blk_frozen BK5.out 1)
        | ((with_reducible refine gate_callee (f := 94) rfl ?_)
           refine goesL_ _ rfl rfl Try.func94 (by kernel_rfl) rfl #[.agg #[.map (some b1), .map (some b2)], .agg #[.int .i64 ((rd_T29 l x).f0), .int .i64 ((rd_T29 l x).f1)], .int .i64 p] rfl (by (try simp only [List.map_toArray, List.map_cons, List.map_nil]); first | done | rfl) ?_
           (with_reducible refine (set_tab b1 b2 (l.take m) (rd_T29 l x) p _ HNE.out WX.out HLT.out HP.out ?side).mono ?_)
           (case side => exact (HT.out.set BK5.out).set (blk_set BK5.out 0 (.int .i64 ((rd_T29 l x).f0))))
           rintro e w10 ⟨rfl, hT, hF⟩
           refine ⟨_, rfl, ?_⟩
           have n1_ := Aside0.mk (fr_blk hF (blk_far (blk_far BK1.out e15 _) e15 _) (HT.out.ne BK1.out))
           have n2_ := Aside0.mk (fr_blk hF (blk_far (blk_far BK2.out e25 _) e25 _) (HT.out.ne BK2.out))
           have n3_ := Aside0.mk (fr_blk hF (blk_far (blk_far BK3.out e35 _) e35 _) (HT.out.ne BK3.out))
           have n5_ : Aside0 (w10.heap[g5]? = some (.cells #[.int .i64 ((rd_T29 l x).f0), .int .i64 ((rd_T29 l x).f1)] 29 (0, 0))) := ⟨fr_blk hF (by
             have z := blk_set (blk_set BK5.out 0 (.int .i64 ((rd_T29 l x).f0))) 1 (.int .i64 ((rd_T29 l x).f1))
             simpa using z) (HT.out.ne BK5.out)⟩
           have n6_ := Aside0.mk (below_fr (below_set (below_set HB.out G5.out) G5.out) hF GM1.out GM2.out)
           have HT2 := Aside0.mk hT
           clear HT HB BK1 BK2 BK3 BK5 c30 c31 c50 c51 z50 z51 hT hF
           have BK1 := n1_
           have BK2 := n2_
           have BK3 := n3_
           have BK5 := n5_
           have HB := n6_
           clear n1_ n2_ n3_ n5_ n6_
           have c30 : w10.cell? ⟨g3, 0, none⟩ = some (.map (some b1)) := (blk_cell BK3.out 0).trans rfl
           have c31 : w10.cell? ⟨g3, 1, none⟩ = some (.map (some b2)) := (blk_cell BK3.out 1).trans rfl
           have c50 : w10.cell? ⟨g5, 0, none⟩ = some (.int .i64 ((rd_T29 l x).f0)) := (blk_cell BK5.out 0).trans rfl
           have c51 : w10.cell? ⟨g5, 1, none⟩ = some (.int .i64 ((rd_T29 l x).f1)) := (blk_cell BK5.out 1).trans rfl
           obtain ⟨n1, n2, D1, D2, h1, h2, hn1, hn2, s1, s2⟩ := HT2.out
           clear HT2
           have M1 := Aside0.mk h1
           have M2 := Aside0.mk h2
           have N1 := Aside0.mk hn1
           have N2 := Aside0.mk hn2
           have S1 := Aside0.mk s1
           have S2 := Aside0.mk s2
           clear h1 h2 hn1 hn2 s1 s2)
        | (at_mapUpdate
           refine wpList_mapUpdate_own _ rfl _ _ _ 88 rfl 3 29 intKeyed Try.underlying88 _ b2 n2 D2 rfl M2.out (by have := N2.out; have := HLT.out; simp only [maxLen]; omega) _ _ _ rfl rfl (intKey ((i64_iff _).mpr (by have := HP.out; have := HLT.out; omega))) _ _ (endR_mk _ _) ?_
           intro w33 hm hg
           have F : Fr w10 w33 b1 b2 := Fr.two (Fr.refl _ _ _) hg
           have TN : ∀ {g : Nat} {cs : Array Value} {t : TypeId}, w10.heap[g]? = some (.cells cs t (0, 0)) → g ≠ b1 ∧ g ≠ b2 := fun hg => ⟨om_ne M1.out hg, om_ne M2.out hg⟩
           have n1_ := Aside0.mk (fr_blk F BK1.out (TN BK1.out))
           have n2_ := Aside0.mk (fr_blk F BK2.out (TN BK2.out))
           have n3_ := Aside0.mk (fr_blk F BK3.out (TN BK3.out))
           have n6_ := Aside0.mk (below_fr HB.out F GM1.out GM2.out)
           have n7_ : Aside0 (Tab w33 (l.take (m + 1)) b1 b2) := ⟨by
             rw [HTK.out]
             refine ⟨n1, n2 + 1, D1, _, M1.out.kept hg (by simpa using HNE.out), hm, by have := N1.out; simp only [List.length_append, List.length_cons, List.length_nil]; omega, by have := N2.out; simp only [List.length_append, List.length_cons, List.length_nil]; omega, S1.out, ?_⟩
             rw [HP.out]
             exact says2_again S2.out M2.out.isMap (by have := HLT.out; omega)⟩
           clear HB BK1 BK2 BK3 BK5 c30 c31 c50 c51 M1 M2 N1 N2 S1 S2 hm hg F TN
           have BK1 := n1_
           have BK2 := n2_
           have BK3 := n3_
           have HB := n6_
           have HT := n7_
           clear n1_ n2_ n3_ n6_ n7_))
      go_roundg k1
      case measure => omega
      case rel => exact ⟨x + 1, m + 1, (by
        have := HX.out
        have := HL.out
        have := MM.out
        have e : wrap64 (x + 1) = x + 1 := by unfold wrap64; omega
        simp only [i64_w, e]), ⟨by have := HX.out; push_cast; omega⟩, ⟨by have := HM.out; omega⟩, BK1, BK2, BK3, HT, HB⟩
end Go.Proofs.Ytiocgkggegahhaa.P

/- The contracts of MapPort and MapEnd: the port of an end, and the end of a port. -/
namespace Go.Proofs.Ytiocgkggegahhaa.P
open Go.RowKit Go.Proofs.YtiocgkggegahhaaUFnMapPut.PrintWords Go.Proofs.YtiocgkggegahhaaUFnMapPut.PrintLast Go.Proofs.YtiocgkggegahhaaUFnMapPut.PrintMore
set_option linter.unusedVariables false
set_option linter.unusedSimpArgs false
def wfB (n : Int) : Bool := (Lit.int .i64 n).wf
def wfE (x : S29) : Bool := wfB x.f0 && wfB x.f1
def portV (l : List S29) (a b : Int) : Int := match fnd l a b with | none => 0 | some i => 500 + i
def impl_MapPort.f (l : List S29) (a b : Int) : Option Int := if l.length < 1000000 ∧ l.all wfE = true ∧ wfB a = true ∧ wfB b = true then some (portV l a b) else none
def endV (l : List S29) (n : Int) : Option S29 := if 500 ≤ n then l[(n - 500).toNat]? else none
def impl_MapEnd.f (l : List S29) (n : Int) : Option (Int × Int × Bool) := if l.length < 1000000 ∧ l.all wfE = true ∧ wfB n = true then some (match endV l n with | none => (0, 0, false) | some x => (x.f0, x.f1, true)) else none
theorem wf_all {l : List S29} (h : l.all wfE = true) : ∀ x ∈ l, Wf x := by
  intro x hx
  have := List.all_eq_true.mp h x hx
  simp only [wfE, wfB, Bool.and_eq_true] at this
  exact this
theorem mapEnd_hit {l : List S29} {D : DataW Unit} {n xa xb r1 r2 : Int} {r3 : Bool} {ps : List MemPlace} (s : Says2 l D) (wn : I64 n) (hx : (D.atKey (.int .i64 n) (endD 0 0), ps).1 = endD xa xb)
    (q : (match endV l n with | none => (0, 0, false) | some x => (x.f0, x.f1, true)) = (r1, r2, r3)) : xa = r1 ∧ xb = r2 ∧ Maps.has D (.int .i64 n) = r3 := by
  have z := s n wn
  have hx' : D.atKey (.int .i64 n) (endD 0 0) = endD xa xb := hx
  unfold endV at q
  cases hm : (if 500 ≤ n then l[(n - 500).toNat]? else none) with
  | none =>
    rw [hm] at q
    have z' : ∀ y, D.atKey (.int .i64 n) y = y := fun y => by rw [z y, hm]
    rw [z'] at hx'
    obtain ⟨e1, e2⟩ := endD_inj hx'
    simp at q
    exact ⟨by omega, by omega, by rw [Maps.has_false_of_atKey z']; exact q.2.2.symm⟩
  | some x =>
    rw [hm] at q
    have z' : ∀ y, D.atKey (.int .i64 n) y = endD x.f0 x.f1 := fun y => by rw [z y, hm]
    rw [z'] at hx'
    obtain ⟨e1, e2⟩ := endD_inj hx'
    simp at q
    exact ⟨by omega, by omega, by rw [Maps.has_true_of_atKey z']; exact q.2.2.symm⟩
theorem field0 (b1 b2 : Nat) (w : World) : (Instr.field 90 (.agg #[.map (some b1), .map (some b2)]) 0).run Try.prog w = .ok (.map (some b1)) w := by kernel_rfl
theorem field1 (b1 b2 : Nat) (w : World) : (Instr.field 90 (.agg #[.map (some b1), .map (some b2)]) 1).run Try.prog w = .ok (.map (some b2)) w := by kernel_rfl
set_option maxHeartbeats 8000000 in
set_option maxRecDepth 100000 in
theorem impl_MapPort.calls (A0_0 : Option Addr) (c0_0 : Nat) (l0_0 : List (S29)) (a1_0 : Int) (a1_1 : Int) (r : Int) (w : World) (hr0_0 : Kd.C k29 w A0_0 l0_0.length l0_0) (hc0_0 : l0_0.length ≤ c0_0) (h : impl_MapPort.f l0_0 a1_0 a1_1 = some r) :
    Calls Try.prog 27 #[.agg #[.slice A0_0 l0_0.length c0_0], .agg #[.int .i64 a1_0, .int .i64 a1_1]] w fun e w' => e = .returned (.int .i64 r) ∧ Below w.heap.size w w' := by
  unfold impl_MapPort.f at h
  by_cases hq : l0_0.length < 1000000 ∧ l0_0.all wfE = true ∧ wfB a1_0 = true ∧ wfB a1_1 = true
  · rw [if_pos hq] at h
    have HP := Aside0.mk (Option.some.inj h)
    have HQ := Aside0.mk hq
    have HR := Aside0.mk hr0_0
    have HC := Aside0.mk hc0_0
    clear h hq hr0_0 hc0_0
    have HB := Aside0.mk (Below.refl w.heap.size w)
    have hu1 := Try.underlying90
    have hu2 := Try.underlying45
    have hu3 := Try.underlying29
    go_enter Try.func27, Try.ntmps27
    go_upto_region 1 with (first
      | ((with_reducible refine gate_dst (N := 2) rfl ?_)
         refine box_event ?hg (N := 2) ?hd (cs := #[.slice A0_0 l0_0.length c0_0]) (t := 45) ?hr ?_
         (case hd => rfl)
         (case hg => rfl)
         (case hr => first | (go_simp; done) | (go_simp; rfl))
         intro g2 hg w3 hbox hb
         have n1_ := Aside0.mk (below_step (bl HB) hb)
         have BK2 := Aside0.mk hbox
         clear HB
         have HB := n1_
         clear n1_ hg hbox hb)
      | ((with_reducible refine gate_dst (N := 3) rfl ?_)
         refine box_event ?hg (N := 3) ?hd (cs := #[.int .i64 a1_0, .int .i64 a1_1]) (t := 29) ?hr ?_
         (case hd => rfl)
         (case hg => rfl)
         (case hr => first | (go_simp; done) | (go_simp; rfl))
         intro g3 hg w4 hbox hb
         have n1_ := Aside0.mk (below_step (bl HB) hb)
         have n2_ := bkB BK2 hb
         have BK3 := Aside0.mk hbox
         clear HB BK2
         have HB := n1_
         have BK2 := n2_
         clear n1_ n2_ hg hbox hb))
    (try simp only [Act.put, List.setIfInBounds_toArray, List.set_cons_zero, List.set_cons_succ])
    have n1_ := Aside0.mk (blk_drew BK2.out)
    have n2_ := Aside0.mk (blk_drew BK3.out)
    have n3_ := Aside0.mk (below_drew1 HB.out)
    clear BK2 BK3 HB
    have BK2 := n1_
    have BK3 := n2_
    have HB := n3_
    clear n1_ n2_ n3_
    refine start_ (n := 6) (S := fun w' => w'.cell? ⟨g2, 0, none⟩ = some (.slice A0_0 l0_0.length c0_0) ∧ w'.cell? ⟨g3, 0, none⟩ = some (.int .i64 a1_0) ∧ w'.cell? ⟨g3, 1, none⟩ = some (.int .i64 a1_1)) (ds := []) #[false, false, false, false, false, false] (by kernel_rfl) rfl rfl ⟨(blk_cell BK2.out 0).trans rfl, (blk_cell BK3.out 0).trans rfl, (blk_cell BK3.out 1).trans rfl⟩ (fun hHeld => ?_)
    generalize w4.drew = w5 at BK2 BK3 HB hHeld ⊢
    refine take_ (i := 0) (N := some 5) (v := ?_) (a' := ?_) #[true, false, false, false, false, false] rfl rfl (by kernel_rfl) (fun _ _ _ h => h) (Or.inl ⟨by rfl, ?_⟩) hHeld ?_ ?_
    rotate_left
    · rintro w' ⟨s0, s1, s2⟩
      go_simp
      with_reducible rfl
    rotate_left
    · simp only [Act.put, List.setIfInBounds_toArray, List.set_cons_zero, List.set_cons_succ, i64_w, i32_w]
      rfl
    refine take_ (i := 3) (N := some 8) (v := ?_) (a' := ?_) #[true, false, false, true, false, false] rfl rfl (by kernel_rfl) (fun _ _ _ h => h) (Or.inl ⟨by rfl, ?_⟩) hHeld ?_ ?_
    rotate_left
    · rintro w' ⟨s0, s1, s2⟩
      go_simp
      with_reducible rfl
    rotate_left
    · simp only [Act.put, List.setIfInBounds_toArray, List.set_cons_zero, List.set_cons_succ, i64_w, i32_w]
      rfl
    refine one_ (i := 1) (N := some 6) #[true, true, false, true, false, false] rfl rfl (by kernel_rfl) (by decide) (fun K hK => ?_)
    refine goes_ Try.func67 (by kernel_rfl) rfl #[.agg #[.slice A0_0 l0_0.length c0_0]] (by rfl) rfl rfl (by (try simp only [List.map_toArray, List.map_cons, List.map_nil]); first | done | rfl) ?_
    with_reducible refine (portsOf_walk A0_0 c0_0 l0_0 _ (Kd.C_below HR.out HB.out) HC.out HQ.out.1 (wf_all HQ.out.2.1)).mono ?_
    rintro e w6 ⟨b1, b2, rfl, hT, hb⟩
    refine ⟨_, rfl, ?_⟩
    have n1_ := bkB BK2 hb
    have n2_ := bkB BK3 hb
    have n3_ := Aside0.mk (below_step HB.out hb)
    clear BK2 BK3 HB
    have BK2 := n1_
    have BK3 := n2_
    have HB := n3_
    have HT := Aside0.mk hT
    clear n1_ n2_ n3_ hT hb
    refine hK.out _ _ ⟨(blk_cell BK2.out 0).trans rfl, (blk_cell BK3.out 0).trans rfl, (blk_cell BK3.out 1).trans rfl⟩ (fun hHeld => ?_)
    clear hK K
    refine norm_ (a' := ?_) ?_ ?_
    rotate_left
    · show Act.put _ (some 6) _ = _
      simp only [Act.put, List.setIfInBounds_toArray, List.set_cons_zero, List.set_cons_succ, i64_w, i32_w]
      rfl
    refine pure_ (i := 2) (N := some 7) (v := ?_) (a' := ?_) #[true, true, true, true, false, false] rfl rfl (by kernel_rfl) (fun _ _ _ h => h) (Or.inl ⟨by rfl, ?_⟩) ?_ ?_
    rotate_left
    · intro w'
      have hf := field0 b1 b2
      go_simp
      with_reducible rfl
    rotate_left
    · simp only [Act.put, List.setIfInBounds_toArray, List.set_cons_zero, List.set_cons_succ, i64_w, i32_w]
      rfl
    refine one_ (i := 4) (N := some 9) #[true, true, true, true, true, false] rfl rfl (by kernel_rfl) (by decide) (fun K hK => ?_)
    obtain ⟨n1, n2, D1, D2, h1, h2, _, _, s1, s2⟩ := HT.out
    obtain ⟨c, hrun, hat, hwc⟩ := h1.lookup_int endKeyed Try.underlying87 Try.underlying3 (zero3 _) (endKey HQ.out.2.2.1 HQ.out.2.2.2)
    have hc : c = r := by
      rw [s1 _ _ HQ.out.2.2.1 HQ.out.2.2.2] at hat
      rw [← HP.out]
      unfold portV
      cases hf : fnd l0_0 a1_0 a1_1 <;> rw [hf] at hat <;> simp at hat <;> simp [hat]
    subst hc
    rw [if_pos (by rfl)]
    unfold Oper.wp
    simp [execOp, Act.eval, hrun, Result.andThen]
    refine hK.out _ _ ⟨(blk_cell BK2.out 0).trans rfl, (blk_cell BK3.out 0).trans rfl, (blk_cell BK3.out 1).trans rfl⟩ (fun hHeld => ?_)
    clear hK K
    refine norm_ (a' := ?_) ?_ ?_
    rotate_left
    · show Act.put _ (some 9) _ = _
      simp only [Act.put, List.setIfInBounds_toArray, List.set_cons_zero, List.set_cons_succ, i64_w, i32_w]
      rfl
    refine pure_ (i := 5) (N := some 4) (v := ?_) (a' := ?_) #[true, true, true, true, true, true] rfl rfl (by kernel_rfl) (fun _ _ _ h => h) (Or.inl ⟨by rfl, ?_⟩) ?_ ?_
    rotate_left
    · intro w'
      go_simp
      with_reducible rfl
    rotate_left
    · simp only [Act.put, List.setIfInBounds_toArray, List.set_cons_zero, List.set_cons_succ, i64_w, i32_w]
      rfl
    refine done_ (by kernel_rfl) ?_
    go_wp2
    go_ret
    exact ⟨rfl, HB.out⟩
  · rw [if_neg hq] at h
    cases h
set_option maxHeartbeats 8000000 in
set_option maxRecDepth 100000 in
theorem impl_MapEnd.calls (A0_0 : Option Addr) (c0_0 : Nat) (l0_0 : List (S29)) (a1 : Int) (r1 : Int) (r2 : Int) (r3 : Bool) (w : World) (hr0_0 : Kd.C k29 w A0_0 l0_0.length l0_0) (hc0_0 : l0_0.length ≤ c0_0) (h : impl_MapEnd.f l0_0 a1 = some (r1, r2, r3)) :
    Calls Try.prog 37 #[.agg #[.slice A0_0 l0_0.length c0_0], .int .i64 a1] w fun e w' => e = .returned (.tuple #[.agg #[.int .i64 r1, .int .i64 r2], .bool r3]) ∧ Below w.heap.size w w' := by
  unfold impl_MapEnd.f at h
  by_cases hq : l0_0.length < 1000000 ∧ l0_0.all wfE = true ∧ wfB a1 = true
  · rw [if_pos hq] at h
    have HP := Aside0.mk (Option.some.inj h)
    have HQ := Aside0.mk hq
    have HR := Aside0.mk hr0_0
    have HC := Aside0.mk hc0_0
    clear h hq hr0_0 hc0_0
    have HB := Aside0.mk (Below.refl w.heap.size w)
    have hu1 := Try.underlying90
    have hu2 := Try.underlying45
    have hu3 := Try.underlying29
    have hfl := field1
    go_enter Try.func37, Try.ntmps37
    go_wp2_with (first
      | ((with_reducible refine gate_dst (N := 2) rfl ?_)
         refine box_event ?hg (N := 2) ?hd (cs := #[.slice A0_0 l0_0.length c0_0]) (t := 45) ?hr ?_
         (case hd => rfl)
         (case hg => rfl)
         (case hr => first | (go_simp; done) | (go_simp; rfl))
         intro g2 hg w3 hbox hb
         have n1_ := Aside0.mk (below_step (bl HB) hb)
         have BK2 := Aside0.mk hbox
         clear HB
         have HB := n1_
         clear n1_ hg hbox hb
         have c20 : w3.cell? ⟨g2, 0, none⟩ = some (.slice A0_0 l0_0.length c0_0) := (blk_cell BK2.out 0).trans rfl)
      | ((with_reducible refine gate_dst (N := 4) rfl ?_)
         refine box_event ?hg (N := 4) ?hd (cs := #[.int .i64 0, .int .i64 0]) (t := 29) ?hr ?_
         (case hd => rfl)
         (case hg => rfl)
         (case hr => first | (go_simp; done) | (go_simp; rfl))
         intro g4 hg w4 hbox hb
         have n1_ := Aside0.mk (below_step (bl HB) hb)
         have n2_ := bkB BK2 hb
         have G4 := Aside0.mk (show w.heap.size ≤ g4 from by rw [hg]; exact below_size (bl HB))
         have BK4 := Aside0.mk hbox
         clear HB BK2 c20
         have HB := n1_
         have BK2 := n2_
         clear n1_ n2_ hg hbox hb
         have c20 : w4.cell? ⟨g2, 0, none⟩ = some (.slice A0_0 l0_0.length c0_0) := (blk_cell BK2.out 0).trans rfl)
      | ((with_reducible refine gate_callee (f := 67) rfl ?_)
         refine goesL_ _ rfl rfl Try.func67 (by kernel_rfl) rfl #[.agg #[.slice A0_0 l0_0.length c0_0]] rfl (by (try simp only [List.map_toArray, List.map_cons, List.map_nil]); first | done | rfl) ?_
         (with_reducible refine (portsOf_walk A0_0 c0_0 l0_0 _ (Kd.C_below HR.out HB.out) HC.out HQ.out.1 (wf_all HQ.out.2.1)).mono ?_)
         rintro e w6 ⟨b1, b2, rfl, hT, hb⟩
         refine ⟨_, rfl, ?_⟩
         have n1_ := bkB BK4 hb
         have n3_ := Aside0.mk (below_step (bl HB) hb)
         clear BK2 BK4 HB c20
         have BK4 := n1_
         have HB := n3_
         obtain ⟨n1, n2, D1, D2, h1, h2, _, _, s1, s2⟩ := hT
         have M2 := Aside0.mk h2
         have S2 := Aside0.mk s2
         clear n1_ n3_ hb h1 h2 s1 s2)
      | ((with_reducible refine gate_dst (N := 13) rfl ?_)
         at_lookup
         refine wpList_lookup_own_ok _ rfl _ _ 88 rfl 3 29 intKeyed Try.underlying88 _ (zeroEnd _) (endD 0 0) [] (endR_mk 0 0) b2 n2 D2 rfl M2.out _ _ rfl (intKey HQ.out.2.2) ?_
         intro v13 ps13 hv13
         obtain ⟨xa, xb, rfl, hx⟩ := endR_inv hv13
         have hh := mapEnd_hit S2.out HQ.out.2.2 hx HP.out
         obtain ⟨rfl, rfl, hh3⟩ := hh
         rw [hh3]
         clear hv13 hx hh3)
      | ((with_reducible refine gate_dst (N := 6) rfl ?_)
         refine box_event ?hg (N := 6) ?hd (cs := #[.int .i64 0, .int .i64 0]) (t := 29) ?hr ?_
         (case hd => rfl)
         (case hg => rfl)
         (case hr => first | (go_simp; done) | (go_simp; rfl))
         intro g6 hg w7 hbox hb
         have n1_ := Aside0.mk (below_step (bl HB) hb)
         have n2_ := bkB BK4 hb
         have G6 := Aside0.mk (show w.heap.size ≤ g6 from by rw [hg]; exact below_size (bl HB))
         have e46 : g4 ≠ g6 := by rw [hg]; exact Nat.ne_of_lt (bkL BK4)
         have e64 := e46.symm
         have BK6 := Aside0.mk hbox
         clear HB BK4
         have HB := n1_
         have BK4 := n2_
         clear n1_ n2_ hg hbox hb
         have c40 : w7.cell? ⟨g4, 0, none⟩ = some (.int .i64 0) := (blk_cell BK4.out 0).trans rfl
         have c41 : w7.cell? ⟨g4, 1, none⟩ = some (.int .i64 0) := (blk_cell BK4.out 1).trans rfl
         have c60 : w7.cell? ⟨g6, 0, none⟩ = some (.int .i64 0) := (blk_cell BK6.out 0).trans rfl
         have c61 : w7.cell? ⟨g6, 1, none⟩ = some (.int .i64 0) := (blk_cell BK6.out 1).trans rfl
         have z40 := blk_frozen BK4.out 0
         have z41 := blk_frozen BK4.out 1
         have z60 := blk_frozen BK6.out 0
         have z61 := blk_frozen BK6.out 1))
    refine bodyPost_ret (results_ct rfl _ _ g4 29 #[.int .i64 xa, .int .i64 xb] (0, 0) _ rfl (by (with_reducible repeat refine bu ?_); refine blk_put (cs := #[.int .i64 xa, .int .i64 0]) ?_ 1 _ rfl; (with_reducible repeat refine bu ?_); refine blk_put (cs := #[.int .i64 0, .int .i64 0]) ?_ 0 _ rfl; (with_reducible repeat refine bu ?_); refine blk_far ?_ e46 _; (with_reducible repeat refine bu ?_); refine blk_far ?_ e46 _; (with_reducible repeat refine bu ?_); exact BK4.out) Try.underlying29 rfl (by kernel_rfl)) rfl ?_
    exact ⟨rfl, below_set (below_set (below_set (below_set HB.out G6.out) G6.out) G4.out) G4.out⟩
  · rw [if_neg hq] at h
    cases h
end Go.Proofs.Ytiocgkggegahhaa.P

-- written by hw.py for this claim
namespace Go.Proofs.Ytiocgkggegahhaa.P
open Go.RowKit Go.Proofs.YtiocgkggegahhaaUFnMapPut.PrintWords Go.Proofs.YtiocgkggegahhaaUFnMapPut.PrintLast Go.Proofs.YtiocgkggegahhaaUFnMapPut.PrintMore
attribute [local go_sem] max2_int min2_int max_two min_two max_three min_three max_four min_four
set_option linter.unusedVariables false
set_option linter.unusedSimpArgs false

/-! ### impl_MapTab_put: function 66 -/
def impl_MapTab_put.f (l0_0 : List (S29)) (a1_0 : Int) (a1_1 : Int) : Option ((List (S29)) × Int) := (impl_MapTab_copied.f l0_0).bind fun t635 => ((impl_MapPort.f l0_0 a1_0 a1_1).bind fun t639 => (if t639 = 0 then (if (l0_0.length : Int) ≥ 6 then (some (t635, t639)) else (if t635.length < 8796093022208 then ((impl_EndPoint_93.f (t635 ++ [(⟨a1_0, a1_1⟩ : S29)])).bind fun bt643 => (some (bt643.1, wrap64 (500 + (l0_0.length : Int))))) else (none))) else (some (t635, t639))))
set_option maxHeartbeats 8000000 in
set_option maxRecDepth 100000 in
theorem impl_MapTab_put.calls (A0_0 : Option Addr) (c0_0 : Nat) (l0_0 : List (S29)) (a1_0 : Int) (a1_1 : Int) (r1 : List (S29)) (r2 : Int) (w : World) (hr0_0 : Kd.C k29 w A0_0 l0_0.length l0_0) (hc0_0 : l0_0.length ≤ c0_0) (h : impl_MapTab_put.f l0_0 a1_0 a1_1 = some (r1, r2)) :
    Calls Try.prog 66 #[.agg #[.slice A0_0 l0_0.length c0_0], .agg #[.int .i64 a1_0, .int .i64 a1_1]] w fun e w' => ∃ v0_ : Value, e = .returned (.tuple #[.agg #[v0_], .int .i64 r2]) ∧ Kd.R k29 29 w' w.heap.size (fun _ => True) v0_ r1 ∧ Below w.heap.size w w' := by
  have hu45 := Try.underlying45
  have hu29 := Try.underlying29
  have HR0_0 := Aside0.mk hr0_0
  have HC0_0 := Aside0.mk hc0_0
  clear hr0_0 hc0_0
  have HB := Aside0.mk (Below.refl w.heap.size w)
  have H : ((impl_MapTab_copied.f l0_0).bind fun t635 => ((impl_MapPort.f l0_0 a1_0 a1_1).bind fun t639 => (if t639 = 0 then (if (l0_0.length : Int) ≥ 6 then (some (t635, t639)) else (if t635.length < 8796093022208 then ((impl_EndPoint_93.f (t635 ++ [(⟨a1_0, a1_1⟩ : S29)])).bind fun bt643 => (some (bt643.1, wrap64 (500 + (l0_0.length : Int))))) else (none))) else (some (t635, t639))))) = some (r1, r2) := h
  clear h
  replace H := Option.bind_eq_some_iff.mp H
  obtain ⟨t635, A30, H⟩ := H
  replace H : ((impl_MapPort.f l0_0 a1_0 a1_1).bind fun t639 => (if t639 = 0 then (if (l0_0.length : Int) ≥ 6 then (some (t635, t639)) else (if t635.length < 8796093022208 then ((impl_EndPoint_93.f (t635 ++ [(⟨a1_0, a1_1⟩ : S29)])).bind fun bt643 => (some (bt643.1, wrap64 (500 + (l0_0.length : Int))))) else (none))) else (some (t635, t639)))) = some (r1, r2) := H
  have A3 := Aside0.mk A30
  clear A30
  replace H := Option.bind_eq_some_iff.mp H
  obtain ⟨t639, A40, H⟩ := H
  replace H : (if t639 = 0 then (if (l0_0.length : Int) ≥ 6 then (some (t635, t639)) else (if t635.length < 8796093022208 then ((impl_EndPoint_93.f (t635 ++ [(⟨a1_0, a1_1⟩ : S29)])).bind fun bt643 => (some (bt643.1, wrap64 (500 + (l0_0.length : Int))))) else (none))) else (some (t635, t639))) = some (r1, r2) := H
  have A4 := Aside0.mk A40
  clear A40
  by_cases c5 : t639 = 0
  · rw [if_pos c5] at H
    have c5b0 : (t639 == 0) = true := beq_iff_eq.mpr c5
    have c5b1 : (t639 != 0) = false := bne_eq_false_iff_eq.mpr c5
    clear c5
    by_cases c6 : (l0_0.length : Int) ≥ 6
    · rw [if_pos c6] at H
      have c6b0 : decide (6 ≤ (l0_0.length : Int)) = true := decide_eq_true c6
      have c6b1 : decide (6 ≤ l0_0.length) = true := decide_eq_true (by omega)
      clear c6
      simp only [Option.some.injEq, Prod.mk.injEq] at H
      obtain ⟨rfl, rfl⟩ := H
      go_enter Try.func66, Try.ntmps66
      go_wp2_with (first | ((with_reducible refine gate_dst (N := 2) rfl ?_); refine box_event ?hg (N := 2) ?hd (cs := #[.slice A0_0 l0_0.length c0_0]) (t := 45) ?hr ?_; (case hd => rfl); (case hg => rfl); (case hr => first | (go_simp; done) | (go_simp; rfl)); intro gb632 hg w7 hbox hb; have n0_ := Aside0.mk (below_step (bl HB) hb); have n1_ := Aside0.mk (hbox); have n2_ := Aside0.mk ((by rw [hg]; exact (below_size (bl HB)) : w.heap.size ≤ gb632)); have n3_ := Aside0.mk ((by rw [hg]; exact (below_size (bl HB)) : w.heap.size ≤ gb632)); clear HB; have HB := n0_; have BK632 := n1_; have GW632 := n2_; have GE632 := n3_; clear n0_ n1_ n2_ n3_; clear hb hbox hg) | ((with_reducible refine gate_dst (N := 3) rfl ?_); refine box_event ?hg (N := 3) ?hd (cs := #[.int .i64 a1_0, .int .i64 a1_1]) (t := 29) ?hr ?_; (case hd => rfl); (case hg => rfl); (case hr => first | (go_simp; done) | (go_simp; rfl)); intro gb633 hg w8 hbox hb; have n0_ := bkB BK632 hb; have n1_ := Aside0.mk (below_step (bl HB) hb); have n2_ := Aside0.mk (hbox); have n3_ := Aside0.mk ((by rw [hg]; exact (below_size (bl HB)) : w.heap.size ≤ gb633)); have n4_ := Aside0.mk ((by rw [hg]; exact (below_size (bl HB)) : w.heap.size ≤ gb633)); have n5_ := Aside0.mk ((by rw [hg]; exact Nat.ne_of_lt (bkL BK632) : gb632 ≠ gb633)); have n6_ := Aside0.mk ((by rw [hg]; exact Nat.ne_of_gt (bkL BK632) : gb633 ≠ gb632)); clear BK632; clear HB; have BK632 := n0_; have HB := n1_; have BK633 := n2_; have GW633 := n3_; have GE633 := n4_; have NB632_633 := n5_; have NB633_632 := n6_; clear n0_ n1_ n2_ n3_ n4_ n5_ n6_; clear hb hbox hg) | ((with_reducible refine gate_dst (N := 4) rfl ?_); refine box_event ?hg (N := 4) ?hd (cs := #[.slice none 0 0]) (t := 45) ?hr ?_; (case hd => rfl); (case hg => rfl); (case hr => first | (go_simp; done) | (go_simp; rfl)); intro gb634 hg w9 hbox hb; have n0_ := bkB BK632 hb; have n1_ := bkB BK633 hb; have n2_ := Aside0.mk (below_step (bl HB) hb); have n3_ := Aside0.mk (hbox); have n4_ := Aside0.mk ((by rw [hg]; exact (below_size (bl HB)) : w.heap.size ≤ gb634)); have n5_ := Aside0.mk ((by rw [hg]; exact (below_size (bl HB)) : w.heap.size ≤ gb634)); have n6_ := Aside0.mk ((by rw [hg]; exact Nat.ne_of_lt (bkL BK632) : gb632 ≠ gb634)); have n7_ := Aside0.mk ((by rw [hg]; exact Nat.ne_of_gt (bkL BK632) : gb634 ≠ gb632)); have n8_ := Aside0.mk ((by rw [hg]; exact Nat.ne_of_lt (bkL BK633) : gb633 ≠ gb634)); have n9_ := Aside0.mk ((by rw [hg]; exact Nat.ne_of_gt (bkL BK633) : gb634 ≠ gb633)); clear BK632; clear BK633; clear HB; have BK632 := n0_; have BK633 := n1_; have HB := n2_; have BK634 := n3_; have GW634 := n4_; have GE634 := n5_; have NB632_634 := n6_; have NB634_632 := n7_; have NB633_634 := n8_; have NB634_633 := n9_; clear n0_ n1_ n2_ n3_ n4_ n5_ n6_ n7_ n8_ n9_; clear hb hbox hg; have hnb10 := NB632_633.out; have hnc10 := NB633_632.out; have hnb11 := NB632_634.out; have hnc11 := NB634_632.out; have hcz12_0 : w9.cell? ⟨gb632, 0, none⟩ = some (.slice A0_0 l0_0.length c0_0) := (blk_cell BK632.out 0).trans rfl; have hfz12_0 := blk_frozen BK632.out 0) | ((with_reducible refine gate_callee (f := 92) rfl ?_); refine goesL_ (some 9) rfl rfl Try.func92 (by kernel_rfl) rfl #[.agg #[.slice A0_0 l0_0.length c0_0]] rfl (by (try simp only [List.map_toArray, List.map_cons, List.map_nil]); first | done | rfl | (simp only [List.length_drop, List.length_take]; rfl)) ?_; (with_reducible refine (impl_MapTab_copied.calls _ _ l0_0 t635 _ ?side1 ?side2 A3.out).mono ?_); (case side1 => repeat (first | exact (Kd.C_below HR0_0.out HB.out) | (with_reducible refine Kd.C_alloc ?_ _) | (with_reducible refine Kd.C_drewN ?_ _) | (with_reducible refine Kd.C_drew ?_))); (case side2 => exact HC0_0.out); rintro e w13 ⟨v636, rfl, ho0, hb⟩; refine ⟨_, rfl, ?_⟩; have n0_ := Aside0.mk (Kd.R_lower (Kd.R_newB ho0 (g := gb633) (o := .cells #[.int .i64 a1_0, .int .i64 a1_1] 29 (0, 0)) (bk BK633)) (below_size (bl HB))); have n1_ := bkB BK632 hb; have n2_ := bkB BK633 hb; have n3_ := bkB BK634 hb; have n4_ := Aside0.mk (below_step (bl HB) hb); clear BK632; clear BK633; clear BK634; clear HB; have HO637 := n0_; have BK632 := n1_; have BK633 := n2_; have BK634 := n3_; have HB := n4_; clear n0_ n1_ n2_ n3_ n4_; (try clear hb); (try clear hb2); (try clear hk); (try clear hi); (try clear ho0)) | ((with_reducible refine gate_dst (N := 6) rfl ?_); refine box_event ?hg (N := 6) ?hd (cs := #[.slice none 0 0]) (t := 45) ?hr ?_; (case hd => rfl); (case hg => rfl); (case hr => first | (go_simp; done) | (go_simp; rfl)); intro gb638 hg w14 hbox hb; have n0_ := Aside0.mk (Kd.R_below (rs HO637) hb); have n1_ := bkB BK632 hb; have n2_ := bkB BK633 hb; have n3_ := bkB BK634 hb; have n4_ := Aside0.mk (below_step (bl HB) hb); have n5_ := Aside0.mk (hbox); have n6_ := Aside0.mk ((by rw [hg]; exact (below_size (bl HB)) : w.heap.size ≤ gb638)); have n7_ := Aside0.mk ((by rw [hg]; exact (below_size (bl HB)) : w.heap.size ≤ gb638)); have n8_ := Aside0.mk ((by rw [hg]; exact Nat.ne_of_lt (bkL BK632) : gb632 ≠ gb638)); have n9_ := Aside0.mk ((by rw [hg]; exact Nat.ne_of_gt (bkL BK632) : gb638 ≠ gb632)); have n10_ := Aside0.mk ((by rw [hg]; exact Nat.ne_of_lt (bkL BK633) : gb633 ≠ gb638)); have n11_ := Aside0.mk ((by rw [hg]; exact Nat.ne_of_gt (bkL BK633) : gb638 ≠ gb633)); have n12_ := Aside0.mk ((by rw [hg]; exact Nat.ne_of_lt (bkL BK634) : gb634 ≠ gb638)); have n13_ := Aside0.mk ((by rw [hg]; exact Nat.ne_of_gt (bkL BK634) : gb638 ≠ gb634)); clear HO637; clear BK632; clear BK633; clear BK634; clear HB; have HO637 := n0_; have BK632 := n1_; have BK633 := n2_; have BK634 := n3_; have HB := n4_; have BK638 := n5_; have GW638 := n6_; have GE638 := n7_; have NB632_638 := n8_; have NB638_632 := n9_; have NB633_638 := n10_; have NB638_633 := n11_; have NB634_638 := n12_; have NB638_634 := n13_; clear n0_ n1_ n2_ n3_ n4_ n5_ n6_ n7_ n8_ n9_ n10_ n11_ n12_ n13_; clear hb hbox hg; obtain ⟨Ao15, co15, eo15⟩ := Kd.R_slice HO637.out; subst eo15; have hnb16 := NB638_632.out; have hnc16 := NB632_638.out; have hnb17 := NB638_633.out; have hnc17 := NB633_638.out; have hnb18 := NB638_634.out; have hnc18 := NB634_638.out; have hcz19_0 : w14.cell? ⟨gb638, 0, none⟩ = some (.slice none 0 0) := (blk_cell BK638.out 0).trans rfl; have hfz19_0 := blk_frozen BK638.out 0; have hcz20_0 : w14.cell? ⟨gb632, 0, none⟩ = some (.slice A0_0 l0_0.length c0_0) := (blk_cell BK632.out 0).trans rfl; have hfz20_0 := blk_frozen BK632.out 0; have hnb21 := NB633_634.out; have hnc21 := NB634_633.out; have hcz22_0 : w14.cell? ⟨gb633, 0, none⟩ = some (.int .i64 a1_0) := (blk_cell BK633.out 0).trans rfl; have hcz22_1 : w14.cell? ⟨gb633, 1, none⟩ = some (.int .i64 a1_1) := (blk_cell BK633.out 1).trans rfl; have hfz22_0 := blk_frozen BK633.out 0; have hfz22_1 := blk_frozen BK633.out 1) | ((with_reducible refine gate_callee (f := 27) rfl ?_); refine goesL_ (some 12) rfl rfl Try.func27 (by kernel_rfl) rfl #[.agg #[.slice A0_0 l0_0.length c0_0], .agg #[.int .i64 a1_0, .int .i64 a1_1]] rfl (by (try simp only [List.map_toArray, List.map_cons, List.map_nil]); first | done | rfl | (simp only [List.length_drop, List.length_take]; rfl)) ?_; (with_reducible refine (impl_MapPort.calls _ _ l0_0 a1_0 a1_1 t639 _ ?side1 ?side2 A4.out).mono ?_); (case side1 => exact Kd.C_below HR0_0.out (bl HB)); (case side2 => exact HC0_0.out); rintro e w23 ⟨rfl, hb⟩; refine ⟨_, rfl, ?_⟩; have n0_ := Aside0.mk (Kd.R_below (by (with_reducible repeat apply ru); exact (Kd.R_mono (Kd.R_far (p := ⟨gb638, 0, none⟩) (Kd.R_types HO637.out BK638.out (by decide)) (fun _ hk => hk.2) (.slice Ao15 t635.length co15)) (fun _ h_ => h_.1))) hb); have n1_ := Aside0.mk (blk_below (g := gb632) (o := .cells #[.slice A0_0 l0_0.length c0_0] 45 (0, 0)) (by (with_reducible repeat refine bu ?_); refine blk_far ?_ NB632_638.out _; (with_reducible repeat refine bu ?_); exact BK632.out) hb); have n2_ := Aside0.mk (blk_below (g := gb633) (o := .cells #[.int .i64 a1_0, .int .i64 a1_1] 29 (0, 0)) (by (with_reducible repeat refine bu ?_); refine blk_far ?_ NB633_638.out _; (with_reducible repeat refine bu ?_); exact BK633.out) hb); have n3_ := Aside0.mk (blk_below (g := gb634) (o := .cells #[.slice none 0 0] 45 (0, 0)) (by (with_reducible repeat refine bu ?_); refine blk_far ?_ NB634_638.out _; (with_reducible repeat refine bu ?_); exact BK634.out) hb); have n4_ := Aside0.mk (blk_below (g := gb638) (o := .cells #[.slice Ao15 t635.length co15] 45 (0, 0)) (by (with_reducible repeat refine bu ?_); refine blk_put (cs := #[.slice none 0 0]) ?_ 0 _ rfl; (with_reducible repeat refine bu ?_); exact BK638.out) hb); have n5_ := Aside0.mk (below_step (bl HB) hb); clear HO637; clear BK632; clear BK633; clear BK634; clear BK638; clear HB; have HO637 := n0_; have BK632 := n1_; have BK633 := n2_; have BK634 := n3_; have BK638 := n4_; have HB := n5_; clear n0_ n1_ n2_ n3_ n4_ n5_; (try clear hb); (try clear hb2); (try clear hk); (try clear hi); have hcz24_0 : w23.cell? ⟨gb632, 0, none⟩ = some (.slice A0_0 l0_0.length c0_0) := (blk_cell BK632.out 0).trans rfl; have hfz24_0 := blk_frozen BK632.out 0; have hcz25_0 : w23.cell? ⟨gb638, 0, none⟩ = some (.slice Ao15 t635.length co15) := (blk_cell BK638.out 0).trans rfl; have hfz25_0 := blk_frozen BK638.out 0; have hcz26_0 : w23.cell? ⟨gb634, 0, none⟩ = some (.slice none 0 0) := (blk_cell BK634.out 0).trans rfl; have hfz26_0 := blk_frozen BK634.out 0))
      refine bodyPost_ret (results_ct rfl _ _ gb634 45 #[.slice Ao15 t635.length co15] (0, 0) _ rfl (by (with_reducible repeat refine bu ?_); refine blk_put (cs := #[.slice none 0 0]) ?_ 0 _ rfl; (with_reducible repeat refine bu ?_); exact BK634.out) Try.underlying45 rfl (by kernel_rfl)) rfl ?_
      exact ⟨_, by first | rfl | (simp [errW_none, errW_some] <;> rfl) | (simp [*, errW_none, errW_some] <;> rfl), by (with_reducible repeat apply ru); exact Kd.R_mono (Kd.R_far (p := ⟨gb634, 0, none⟩) (Kd.R_types HO637.out BK634.out (by decide)) (fun _ hk => hk.2) (.slice Ao15 t635.length co15)) (fun _ hk => trivial), by repeat (first | (with_reducible first | exact HB.out | apply below_alloc | apply pw_below_drewN | apply below_drew1 | refine below_set ?_ GE632.out | refine below_set ?_ GE633.out | refine below_set ?_ GE634.out | refine below_set ?_ GE638.out) | exact HB.out)⟩
    · rw [if_neg c6] at H
      have c6b0 : decide (6 ≤ (l0_0.length : Int)) = false := decide_eq_false c6
      have c6b1 : decide (6 ≤ l0_0.length) = false := decide_eq_false (by omega)
      clear c6
      by_cases c27 : t635.length < 8796093022208
      · rw [if_pos c27] at H
        have LMc27 := Aside0.mk c27
        clear c27
        obtain ⟨y640, hy640⟩ : ∃ y_ : List (S29), y_ = (t635 ++ [(⟨a1_0, a1_1⟩ : S29)]) := ⟨_, rfl⟩
        replace H : ((impl_EndPoint_93.f y640).bind fun bt643 => (some (bt643.1, wrap64 (500 + (l0_0.length : Int))))) = some (r1, r2) := by first | (rw [hy640]; with_reducible exact H) | (have H2_ := (Option.bind_some _ _).symm.trans H; rw [hy640]; with_reducible exact H2_) | (have H2_ := (Option.bind_some _ _).symm.trans H; with_reducible exact H2_) | with_reducible exact H | (rw [hy640]; exact H) | exact H
        have Ny640 := Aside0.mk hy640
        clear hy640
        replace H := Option.bind_eq_some_iff.mp H
        obtain ⟨⟨t643, t646⟩, A280, H⟩ := H
        replace H : (some (t643, wrap64 (500 + (l0_0.length : Int)))) = some (r1, r2) := H
        have A28 := Aside0.mk A280
        clear A280
        simp only [Option.some.injEq, Prod.mk.injEq] at H
        obtain ⟨rfl, rfl⟩ := H
        go_enter Try.func66, Try.ntmps66
        try go_wp2_with (first | ((with_reducible refine gate_dst (N := 2) rfl ?_); refine box_event ?hg (N := 2) ?hd (cs := #[.slice A0_0 l0_0.length c0_0]) (t := 45) ?hr ?_; (case hd => rfl); (case hg => rfl); (case hr => first | (go_simp; done) | (go_simp; rfl)); intro gb632 hg w29 hbox hb; have n0_ := Aside0.mk (below_step (bl HB) hb); have n1_ := Aside0.mk (hbox); have n2_ := Aside0.mk ((by rw [hg]; exact (below_size (bl HB)) : w.heap.size ≤ gb632)); have n3_ := Aside0.mk ((by rw [hg]; exact (below_size (bl HB)) : w.heap.size ≤ gb632)); clear HB; have HB := n0_; have BK632 := n1_; have GW632 := n2_; have GE632 := n3_; clear n0_ n1_ n2_ n3_; clear hb hbox hg) | ((with_reducible refine gate_dst (N := 3) rfl ?_); refine box_event ?hg (N := 3) ?hd (cs := #[.int .i64 a1_0, .int .i64 a1_1]) (t := 29) ?hr ?_; (case hd => rfl); (case hg => rfl); (case hr => first | (go_simp; done) | (go_simp; rfl)); intro gb633 hg w30 hbox hb; have n0_ := bkB BK632 hb; have n1_ := Aside0.mk (below_step (bl HB) hb); have n2_ := Aside0.mk (hbox); have n3_ := Aside0.mk ((by rw [hg]; exact (below_size (bl HB)) : w.heap.size ≤ gb633)); have n4_ := Aside0.mk ((by rw [hg]; exact (below_size (bl HB)) : w.heap.size ≤ gb633)); have n5_ := Aside0.mk ((by rw [hg]; exact Nat.ne_of_lt (bkL BK632) : gb632 ≠ gb633)); have n6_ := Aside0.mk ((by rw [hg]; exact Nat.ne_of_gt (bkL BK632) : gb633 ≠ gb632)); clear BK632; clear HB; have BK632 := n0_; have HB := n1_; have BK633 := n2_; have GW633 := n3_; have GE633 := n4_; have NB632_633 := n5_; have NB633_632 := n6_; clear n0_ n1_ n2_ n3_ n4_ n5_ n6_; clear hb hbox hg) | ((with_reducible refine gate_dst (N := 4) rfl ?_); refine box_event ?hg (N := 4) ?hd (cs := #[.slice none 0 0]) (t := 45) ?hr ?_; (case hd => rfl); (case hg => rfl); (case hr => first | (go_simp; done) | (go_simp; rfl)); intro gb634 hg w31 hbox hb; have n0_ := bkB BK632 hb; have n1_ := bkB BK633 hb; have n2_ := Aside0.mk (below_step (bl HB) hb); have n3_ := Aside0.mk (hbox); have n4_ := Aside0.mk ((by rw [hg]; exact (below_size (bl HB)) : w.heap.size ≤ gb634)); have n5_ := Aside0.mk ((by rw [hg]; exact (below_size (bl HB)) : w.heap.size ≤ gb634)); have n6_ := Aside0.mk ((by rw [hg]; exact Nat.ne_of_lt (bkL BK632) : gb632 ≠ gb634)); have n7_ := Aside0.mk ((by rw [hg]; exact Nat.ne_of_gt (bkL BK632) : gb634 ≠ gb632)); have n8_ := Aside0.mk ((by rw [hg]; exact Nat.ne_of_lt (bkL BK633) : gb633 ≠ gb634)); have n9_ := Aside0.mk ((by rw [hg]; exact Nat.ne_of_gt (bkL BK633) : gb634 ≠ gb633)); clear BK632; clear BK633; clear HB; have BK632 := n0_; have BK633 := n1_; have HB := n2_; have BK634 := n3_; have GW634 := n4_; have GE634 := n5_; have NB632_634 := n6_; have NB634_632 := n7_; have NB633_634 := n8_; have NB634_633 := n9_; clear n0_ n1_ n2_ n3_ n4_ n5_ n6_ n7_ n8_ n9_; clear hb hbox hg; have hnb32 := NB632_633.out; have hnc32 := NB633_632.out; have hnb33 := NB632_634.out; have hnc33 := NB634_632.out; have hcz34_0 : w31.cell? ⟨gb632, 0, none⟩ = some (.slice A0_0 l0_0.length c0_0) := (blk_cell BK632.out 0).trans rfl; have hfz34_0 := blk_frozen BK632.out 0) | ((with_reducible refine gate_callee (f := 92) rfl ?_); refine goesL_ (some 9) rfl rfl Try.func92 (by kernel_rfl) rfl #[.agg #[.slice A0_0 l0_0.length c0_0]] rfl (by (try simp only [List.map_toArray, List.map_cons, List.map_nil]); first | done | rfl | (simp only [List.length_drop, List.length_take]; rfl)) ?_; (with_reducible refine (impl_MapTab_copied.calls _ _ l0_0 t635 _ ?side1 ?side2 A3.out).mono ?_); (case side1 => repeat (first | exact (Kd.C_below HR0_0.out HB.out) | (with_reducible refine Kd.C_alloc ?_ _) | (with_reducible refine Kd.C_drewN ?_ _) | (with_reducible refine Kd.C_drew ?_))); (case side2 => exact HC0_0.out); rintro e w35 ⟨v636, rfl, ho0, hb⟩; refine ⟨_, rfl, ?_⟩; have n0_ := Aside0.mk (Kd.R_lower (Kd.R_newB ho0 (g := gb633) (o := .cells #[.int .i64 a1_0, .int .i64 a1_1] 29 (0, 0)) (bk BK633)) (below_size (bl HB))); have n1_ := bkB BK632 hb; have n2_ := bkB BK633 hb; have n3_ := bkB BK634 hb; have n4_ := Aside0.mk (below_step (bl HB) hb); clear BK632; clear BK633; clear BK634; clear HB; have HO637 := n0_; have BK632 := n1_; have BK633 := n2_; have BK634 := n3_; have HB := n4_; clear n0_ n1_ n2_ n3_ n4_; (try clear hb); (try clear hb2); (try clear hk); (try clear hi); (try clear ho0)) | ((with_reducible refine gate_dst (N := 6) rfl ?_); refine box_event ?hg (N := 6) ?hd (cs := #[.slice none 0 0]) (t := 45) ?hr ?_; (case hd => rfl); (case hg => rfl); (case hr => first | (go_simp; done) | (go_simp; rfl)); intro gb638 hg w36 hbox hb; have n0_ := Aside0.mk (Kd.R_below (rs HO637) hb); have n1_ := bkB BK632 hb; have n2_ := bkB BK633 hb; have n3_ := bkB BK634 hb; have n4_ := Aside0.mk (below_step (bl HB) hb); have n5_ := Aside0.mk (hbox); have n6_ := Aside0.mk ((by rw [hg]; exact (below_size (bl HB)) : w.heap.size ≤ gb638)); have n7_ := Aside0.mk ((by rw [hg]; exact (below_size (bl HB)) : w.heap.size ≤ gb638)); have n8_ := Aside0.mk ((by rw [hg]; exact Nat.ne_of_lt (bkL BK632) : gb632 ≠ gb638)); have n9_ := Aside0.mk ((by rw [hg]; exact Nat.ne_of_gt (bkL BK632) : gb638 ≠ gb632)); have n10_ := Aside0.mk ((by rw [hg]; exact Nat.ne_of_lt (bkL BK633) : gb633 ≠ gb638)); have n11_ := Aside0.mk ((by rw [hg]; exact Nat.ne_of_gt (bkL BK633) : gb638 ≠ gb633)); have n12_ := Aside0.mk ((by rw [hg]; exact Nat.ne_of_lt (bkL BK634) : gb634 ≠ gb638)); have n13_ := Aside0.mk ((by rw [hg]; exact Nat.ne_of_gt (bkL BK634) : gb638 ≠ gb634)); clear HO637; clear BK632; clear BK633; clear BK634; clear HB; have HO637 := n0_; have BK632 := n1_; have BK633 := n2_; have BK634 := n3_; have HB := n4_; have BK638 := n5_; have GW638 := n6_; have GE638 := n7_; have NB632_638 := n8_; have NB638_632 := n9_; have NB633_638 := n10_; have NB638_633 := n11_; have NB634_638 := n12_; have NB638_634 := n13_; clear n0_ n1_ n2_ n3_ n4_ n5_ n6_ n7_ n8_ n9_ n10_ n11_ n12_ n13_; clear hb hbox hg; obtain ⟨Ao37, co37, eo37⟩ := Kd.R_slice HO637.out; subst eo37; have hnb38 := NB638_632.out; have hnc38 := NB632_638.out; have hnb39 := NB638_633.out; have hnc39 := NB633_638.out; have hnb40 := NB638_634.out; have hnc40 := NB634_638.out; have hcz41_0 : w36.cell? ⟨gb638, 0, none⟩ = some (.slice none 0 0) := (blk_cell BK638.out 0).trans rfl; have hfz41_0 := blk_frozen BK638.out 0; have hcz42_0 : w36.cell? ⟨gb632, 0, none⟩ = some (.slice A0_0 l0_0.length c0_0) := (blk_cell BK632.out 0).trans rfl; have hfz42_0 := blk_frozen BK632.out 0; have hnb43 := NB633_634.out; have hnc43 := NB634_633.out; have hcz44_0 : w36.cell? ⟨gb633, 0, none⟩ = some (.int .i64 a1_0) := (blk_cell BK633.out 0).trans rfl; have hcz44_1 : w36.cell? ⟨gb633, 1, none⟩ = some (.int .i64 a1_1) := (blk_cell BK633.out 1).trans rfl; have hfz44_0 := blk_frozen BK633.out 0; have hfz44_1 := blk_frozen BK633.out 1) | ((with_reducible refine gate_callee (f := 27) rfl ?_); refine goesL_ (some 12) rfl rfl Try.func27 (by kernel_rfl) rfl #[.agg #[.slice A0_0 l0_0.length c0_0], .agg #[.int .i64 a1_0, .int .i64 a1_1]] rfl (by (try simp only [List.map_toArray, List.map_cons, List.map_nil]); first | done | rfl | (simp only [List.length_drop, List.length_take]; rfl)) ?_; (with_reducible refine (impl_MapPort.calls _ _ l0_0 a1_0 a1_1 t639 _ ?side1 ?side2 A4.out).mono ?_); (case side1 => exact Kd.C_below HR0_0.out (bl HB)); (case side2 => exact HC0_0.out); rintro e w45 ⟨rfl, hb⟩; refine ⟨_, rfl, ?_⟩; have n0_ := Aside0.mk (Kd.R_below (by (with_reducible repeat apply ru); exact (Kd.R_mono (Kd.R_far (p := ⟨gb638, 0, none⟩) (Kd.R_types HO637.out BK638.out (by decide)) (fun _ hk => hk.2) (.slice Ao37 t635.length co37)) (fun _ h_ => h_.1))) hb); have n1_ := Aside0.mk (blk_below (g := gb632) (o := .cells #[.slice A0_0 l0_0.length c0_0] 45 (0, 0)) (by (with_reducible repeat refine bu ?_); refine blk_far ?_ NB632_638.out _; (with_reducible repeat refine bu ?_); exact BK632.out) hb); have n2_ := Aside0.mk (blk_below (g := gb633) (o := .cells #[.int .i64 a1_0, .int .i64 a1_1] 29 (0, 0)) (by (with_reducible repeat refine bu ?_); refine blk_far ?_ NB633_638.out _; (with_reducible repeat refine bu ?_); exact BK633.out) hb); have n3_ := Aside0.mk (blk_below (g := gb634) (o := .cells #[.slice none 0 0] 45 (0, 0)) (by (with_reducible repeat refine bu ?_); refine blk_far ?_ NB634_638.out _; (with_reducible repeat refine bu ?_); exact BK634.out) hb); have n4_ := Aside0.mk (blk_below (g := gb638) (o := .cells #[.slice Ao37 t635.length co37] 45 (0, 0)) (by (with_reducible repeat refine bu ?_); refine blk_put (cs := #[.slice none 0 0]) ?_ 0 _ rfl; (with_reducible repeat refine bu ?_); exact BK638.out) hb); have n5_ := Aside0.mk (below_step (bl HB) hb); clear HO637; clear BK632; clear BK633; clear BK634; clear BK638; clear HB; have HO637 := n0_; have BK632 := n1_; have BK633 := n2_; have BK634 := n3_; have BK638 := n4_; have HB := n5_; clear n0_ n1_ n2_ n3_ n4_ n5_; (try clear hb); (try clear hb2); (try clear hk); (try clear hi); have hcz46_0 : w45.cell? ⟨gb632, 0, none⟩ = some (.slice A0_0 l0_0.length c0_0) := (blk_cell BK632.out 0).trans rfl; have hfz46_0 := blk_frozen BK632.out 0; have hcz47_0 : w45.cell? ⟨gb638, 0, none⟩ = some (.slice Ao37 t635.length co37) := (blk_cell BK638.out 0).trans rfl; have hfz47_0 := blk_frozen BK638.out 0; have hcz48_0 : w45.cell? ⟨gb633, 0, none⟩ = some (.int .i64 a1_0) := (blk_cell BK633.out 0).trans rfl; have hcz48_1 : w45.cell? ⟨gb633, 1, none⟩ = some (.int .i64 a1_1) := (blk_cell BK633.out 1).trans rfl; have hfz48_0 := blk_frozen BK633.out 0; have hfz48_1 := blk_frozen BK633.out 1) | ((with_reducible refine gate_builtin (b := .append) (xs := #[.tmp 24, .tmp 26]) rfl ?_); at_builtin; refine Kd.R_append k29 (w0 := w) w.heap.size rfl (.tmp 24) (.tmp 26) 43 29 (.agg #[(.int .i64 0), (.int .i64 0)]) 16 rfl Try.underlying43 info29 rfl (by decide) (by omega) (.slice Ao37 t635.length co37) t635 (⟨a1_0, a1_1⟩ : S29) [.int .i64 a1_0, .int .i64 a1_1] (fun k_ => k_ ≠ gb633) (fun _ => False) rfl rfl ?aP (fun _ hk => hk.elim) ?aF ?aO ?aB ?aS ?aL ?_; (case aP => exact k29_mkM _ _ _ (⟨a1_0, a1_1⟩ : S29)); (case aB => exact (bl HB)); (case aF => exact (fun k_ hk => Kd.freshB (g := gb633) (o := .cells #[.int .i64 a1_0, .int .i64 a1_1] 29 (0, 0)) (bk BK633) k_ hk)); (case aO => exact (by (with_reducible repeat apply ru); exact Kd.R_mono HO637.out (fun _ hk => hk.2))); (case aS => exact (below_size (bl HB))); (case aL => have := LMc27.out; omega); intro v641 w49 ho hb hg hat; rw [← Ny640.out] at ho; have n0_ := Aside0.mk (blk_grown (g := gb632) (o := .cells #[.slice A0_0 l0_0.length c0_0] 45 (0, 0)) (bk BK632) hg (Kd.R_ne HO637.out BK632.out (by decide))); have n1_ := Aside0.mk (blk_grown (g := gb633) (o := .cells #[.int .i64 a1_0, .int .i64 a1_1] 29 (0, 0)) (bk BK633) hg (Kd.R_away HO637.out (fun _ hk => hk.2))); have n2_ := Aside0.mk (blk_grown (g := gb634) (o := .cells #[.slice none 0 0] 45 (0, 0)) (bk BK634) hg (Kd.R_ne HO637.out BK634.out (by decide))); have n3_ := Aside0.mk (blk_grown (g := gb638) (o := .cells #[.slice Ao37 t635.length co37] 45 (0, 0)) (bk BK638) hg (Kd.R_ne HO637.out BK638.out (by decide))); have n4_ := Aside0.mk (hb); have n5_ := Aside0.mk (ho); clear BK632; clear BK633; clear BK634; clear BK638; clear HB; clear HO637; have BK632 := n0_; have BK633 := n1_; have BK634 := n2_; have BK638 := n3_; have HB := n4_; have HO642 := n5_; clear n0_ n1_ n2_ n3_ n4_ n5_; clear ho hb hg hat; obtain ⟨Ao50, co50, eo50⟩ := Kd.R_slice HO642.out; subst eo50) | ((with_reducible refine gate_callee (f := 93) rfl ?_); refine goesL_ (some 28) rfl rfl Try.func93 (by kernel_rfl) rfl #[.slice Ao50 y640.length co50] rfl (by (try simp only [List.map_toArray, List.map_cons, List.map_nil]); first | done | rfl | (simp only [List.length_drop, List.length_take]; rfl)) ?_; (with_reducible refine (clip_end Ao50 y640.length co50 (Kd.R_reads' HO642.out).2.1 _).mono ?_); rintro e w51 ⟨v644, rfl, hv_, hw_⟩; refine ⟨_, rfl, ?_⟩; have n0_ := bkW BK632 hw_; have n1_ := bkW BK633 hw_; have n2_ := bkW BK634 hw_; have n3_ := bkW BK638 hw_; have n4_ := clipNil HO642 w51 A28.out; have n5_ := clipR (ok' := fun k_ => some k_ ≠ (.slice none 0 0 : Value).ownBlock ∧ k_ ≠ gb633) HO642 hv_ hw_ A28.out (fun k_ hk_ => by first | exact ⟨by simp [Value.ownBlock], hk_⟩ | (simp [Value.ownBlock]; done) | exact hk_); have n6_ := blW HB hw_; clear hv_ hw_; clear BK632; clear BK633; clear BK634; clear BK638; clear HO642; clear HB; have BK632 := n0_; have BK633 := n1_; have BK634 := n2_; have BK638 := n3_; have HO642 := n4_; have HO645 := n5_; have HB := n6_; clear n0_ n1_ n2_ n3_ n4_ n5_ n6_; (try clear hb); (try clear hkp); (try clear ho0); (try clear hy0); obtain ⟨Ao52, co52, eo52⟩ := Kd.R_slice HO645.out; subst eo52; have hcz53_0 : w51.cell? ⟨gb638, 0, none⟩ = some (.slice Ao37 t635.length co37) := (blk_cell BK638.out 0).trans rfl; have hfz53_0 := blk_frozen BK638.out 0))
        have n0_ : Aside0 (Kd.R k29 29 (w51.setCell ⟨gb638, 0, none⟩ (.slice Ao52 t643.length co52)) w.heap.size (fun k_ => k_ ≠ gb633) (.slice none 0 0) t646) := ⟨by (with_reducible repeat apply ru); exact Kd.R_mono (Kd.R_far (p := ⟨gb638, 0, none⟩) (Kd.R_types HO642.out BK638.out (by decide)) (fun _ hk => hk.2) (.slice Ao52 t643.length co52)) (fun _ hk => hk.1)⟩
        have n1_ : Aside0 (Kd.R k29 29 (w51.setCell ⟨gb638, 0, none⟩ (.slice Ao52 t643.length co52)) w.heap.size (fun k_ => some k_ ≠ (.slice none 0 0 : Value).ownBlock ∧ k_ ≠ gb633) (.slice Ao52 t643.length co52) t643) := ⟨by (with_reducible repeat apply ru); exact Kd.R_mono (Kd.R_far (p := ⟨gb638, 0, none⟩) (Kd.R_types HO645.out BK638.out (by decide)) (fun _ hk => hk.2) (.slice Ao52 t643.length co52)) (fun _ hk => ⟨hk.1.1, hk.1.2⟩)⟩
        have n2_ : Aside0 ((w51.setCell ⟨gb638, 0, none⟩ (.slice Ao52 t643.length co52)).heap[gb632]? = some (.cells #[.slice A0_0 l0_0.length c0_0] 45 (0, 0))) := ⟨by (with_reducible repeat refine bu ?_); refine blk_far ?_ NB632_638.out _; (with_reducible repeat refine bu ?_); exact BK632.out⟩
        have n3_ : Aside0 ((w51.setCell ⟨gb638, 0, none⟩ (.slice Ao52 t643.length co52)).heap[gb633]? = some (.cells #[.int .i64 a1_0, .int .i64 a1_1] 29 (0, 0))) := ⟨by (with_reducible repeat refine bu ?_); refine blk_far ?_ NB633_638.out _; (with_reducible repeat refine bu ?_); exact BK633.out⟩
        have n4_ : Aside0 ((w51.setCell ⟨gb638, 0, none⟩ (.slice Ao52 t643.length co52)).heap[gb634]? = some (.cells #[.slice none 0 0] 45 (0, 0))) := ⟨by (with_reducible repeat refine bu ?_); refine blk_far ?_ NB634_638.out _; (with_reducible repeat refine bu ?_); exact BK634.out⟩
        have n5_ : Aside0 ((w51.setCell ⟨gb638, 0, none⟩ (.slice Ao52 t643.length co52)).heap[gb638]? = some (.cells #[.slice Ao52 t643.length co52] 45 (0, 0))) := ⟨by (with_reducible repeat refine bu ?_); refine blk_put (cs := #[.slice Ao37 t635.length co37]) ?_ 0 _ rfl; (with_reducible repeat refine bu ?_); exact BK638.out⟩
        have n6_ : Aside0 (Below w.heap.size w (w51.setCell ⟨gb638, 0, none⟩ (.slice Ao52 t643.length co52))) := ⟨by repeat (first | (with_reducible first | exact HB.out | apply below_alloc | apply pw_below_drewN | apply below_drew1 | refine below_set ?_ GE632.out | refine below_set ?_ GE633.out | refine below_set ?_ GE634.out | refine below_set ?_ GE638.out) | exact HB.out)⟩
        (try clear HO642)
        (try clear HO645)
        (try clear BK632)
        (try clear BK633)
        (try clear BK634)
        (try clear BK638)
        (try clear HB)
        generalize (w51.setCell ⟨gb638, 0, none⟩ (.slice Ao52 t643.length co52)) = w54 at n0_ n1_ n2_ n3_ n4_ n5_ n6_ ⊢
        have HO642 := n0_
        have HO645 := n1_
        have BK632 := n2_
        have BK633 := n3_
        have BK634 := n4_
        have BK638 := n5_
        have HB := n6_
        clear n0_ n1_ n2_ n3_ n4_ n5_ n6_
        have n0_ := Aside0.mk (Kd.R_drew HO642.out)
        have n1_ := Aside0.mk (Kd.R_drew HO645.out)
        have n2_ := Aside0.mk (blk_drew BK632.out)
        have n3_ := Aside0.mk (blk_drew BK633.out)
        have n4_ := Aside0.mk (blk_drew BK634.out)
        have n5_ := Aside0.mk (blk_drew BK638.out)
        have n6_ := Aside0.mk (below_drew1 HB.out)
        clear HO642
        clear HO645
        clear BK632
        clear BK633
        clear BK634
        clear BK638
        clear HB
        have HO642 := n0_
        have HO645 := n1_
        have BK632 := n2_
        have BK633 := n3_
        have BK634 := n4_
        have BK638 := n5_
        have HB := n6_
        clear n0_ n1_ n2_ n3_ n4_ n5_ n6_
        refine start_ (n := 7) (S := fun w' => w'.cell? ⟨gb638, 0, none⟩ = some (.slice Ao52 t643.length co52) ∧ w'.cell? ⟨gb632, 0, none⟩ = some (.slice A0_0 l0_0.length c0_0)) (ds := []) #[false, false, false, false, false, false, false] (by kernel_rfl) rfl rfl ⟨(blk_cell BK638.out 0).trans rfl, (blk_cell BK632.out 0).trans rfl⟩ (fun hHeld => ?_)
        generalize w54.drew = w55 at HO642 HO645 BK632 BK633 BK634 BK638 HB hHeld ⊢
        refine pure_ (i := 1) (N := some 31) (v := ?_) (a' := ?_) #[false, true, false, false, false, false, false] rfl rfl (by kernel_rfl) (fun _ _ _ h => h) (Or.inl ⟨by rfl, ?_⟩) ?_ ?_
        rotate_left
        · intro w'
          go_simp
          with_reducible rfl
        rotate_left
        · simp only [Act.put, List.setIfInBounds_toArray, List.set_cons_zero, List.set_cons_succ, i64_w, i32_w]
          rfl
        refine take_ (i := 0) (N := some 30) (v := ?_) (a' := ?_) #[true, true, false, false, false, false, false] rfl rfl (by kernel_rfl) (fun _ _ _ h => h) (Or.inl ⟨by rfl, ?_⟩) hHeld ?_ ?_
        rotate_left
        · rintro w' ⟨s0, s1⟩
          go_simp
          with_reducible rfl
        rotate_left
        · simp only [Act.put, List.setIfInBounds_toArray, List.set_cons_zero, List.set_cons_succ, i64_w, i32_w]
          rfl
        refine take_ (i := 2) (N := some 32) (v := ?_) (a' := ?_) #[true, true, true, false, false, false, false] rfl rfl (by kernel_rfl) (fun _ _ _ h => h) (Or.inl ⟨by rfl, ?_⟩) hHeld ?_ ?_
        rotate_left
        · rintro w' ⟨s0, s1⟩
          go_simp
          with_reducible rfl
        rotate_left
        · simp only [Act.put, List.setIfInBounds_toArray, List.set_cons_zero, List.set_cons_succ, i64_w, i32_w]
          rfl
        refine pure_ (i := 3) (N := some 33) (v := ?_) (a' := ?_) #[true, true, true, true, false, false, false] rfl rfl (by kernel_rfl) (fun _ _ _ h => h) (Or.inl ⟨by rfl, ?_⟩) ?_ ?_
        rotate_left
        · intro w'
          go_simp
          with_reducible rfl
        rotate_left
        · simp only [Act.put, List.setIfInBounds_toArray, List.set_cons_zero, List.set_cons_succ, i64_w, i32_w]
          rfl
        refine pure_ (i := 4) (N := some 34) (v := ?_) (a' := ?_) #[true, true, true, true, true, false, false] rfl rfl (by kernel_rfl) (fun _ _ _ h => h) (Or.inl ⟨by rfl, ?_⟩) ?_ ?_
        rotate_left
        · intro w'
          go_simp
          with_reducible rfl
        rotate_left
        · simp only [Act.put, List.setIfInBounds_toArray, List.set_cons_zero, List.set_cons_succ, i64_w, i32_w]
          rfl
        refine one_ (i := 5) (N := none) #[true, true, true, true, true, true, false] rfl rfl (by kernel_rfl) (by decide) (fun K hK => ?_)
        have hs56 : w55.cell? ⟨gb634, 0, none⟩ = some (.slice none 0 0) := (blk_cell BK634.out 0).trans rfl
        have hfs56 := blk_frozen BK634.out 0
        have hns56_0 := NB632_634.out
        have hns56_1 := NB633_634.out
        have hns56_3 := NB638_634.out
        have hms56_0 := NB634_632.out
        have hms56_1 := NB634_633.out
        have hms56_3 := NB634_638.out
        refine skip_ (w1 := ?_) (by rfl) rfl ?_ ?_
        rotate_left
        · go_simp
          rfl
        refine hK.out _ _ ⟨((cell_far (p := ⟨gb634, _, none⟩) NB638_634.out _).trans (hHeld.1)), ((cell_far (p := ⟨gb634, _, none⟩) NB632_634.out _).trans (hHeld.2))⟩ (fun hHeld => ?_)
        clear hK K
        refine pure_ (i := 6) (N := some 5) (v := ?_) (a' := ?_) #[true, true, true, true, true, true, true] rfl rfl (by kernel_rfl) (fun _ _ _ h => h) (Or.inl ⟨by rfl, ?_⟩) ?_ ?_
        rotate_left
        · intro w'
          go_simp
          with_reducible rfl
        rotate_left
        · simp only [Act.put, List.setIfInBounds_toArray, List.set_cons_zero, List.set_cons_succ, i64_w, i32_w]
          rfl
        refine done_ (by kernel_rfl) ?_
        try go_wp2
        refine bodyPost_ret (results_ct rfl _ _ gb634 45 #[.slice Ao52 t643.length co52] (0, 0) _ rfl (by (with_reducible repeat refine bu ?_); refine blk_put (cs := #[.slice none 0 0]) ?_ 0 _ rfl; (with_reducible repeat refine bu ?_); exact BK634.out) Try.underlying45 rfl (by kernel_rfl)) rfl ?_
        exact ⟨_, by first | rfl | (simp [errW_none, errW_some] <;> rfl) | (simp [*, errW_none, errW_some] <;> rfl), by (with_reducible repeat apply ru); exact Kd.R_mono (Kd.R_far (p := ⟨gb634, 0, none⟩) (Kd.R_types HO645.out BK634.out (by decide)) (fun _ hk => hk.2) (.slice Ao52 t643.length co52)) (fun _ hk => trivial), by repeat (first | (with_reducible first | exact HB.out | apply below_alloc | apply pw_below_drewN | apply below_drew1 | refine below_set ?_ GE632.out | refine below_set ?_ GE633.out | refine below_set ?_ GE634.out | refine below_set ?_ GE638.out) | exact HB.out)⟩
      · rw [if_neg c27] at H
        exact absurd H (by simp)
  · rw [if_neg c5] at H
    have c5b0 : (t639 == 0) = false := beq_eq_false_iff_ne.mpr c5
    have c5b1 : (t639 != 0) = true := bne_iff_ne.mpr c5
    simp only [Option.some.injEq, Prod.mk.injEq] at H
    obtain ⟨rfl, rfl⟩ := H
    go_enter Try.func66, Try.ntmps66
    go_wp2_with (first | ((with_reducible refine gate_dst (N := 2) rfl ?_); refine box_event ?hg (N := 2) ?hd (cs := #[.slice A0_0 l0_0.length c0_0]) (t := 45) ?hr ?_; (case hd => rfl); (case hg => rfl); (case hr => first | (go_simp; done) | (go_simp; rfl)); intro gb632 hg w57 hbox hb; have n0_ := Aside0.mk (below_step (bl HB) hb); have n1_ := Aside0.mk (hbox); have n2_ := Aside0.mk ((by rw [hg]; exact (below_size (bl HB)) : w.heap.size ≤ gb632)); have n3_ := Aside0.mk ((by rw [hg]; exact (below_size (bl HB)) : w.heap.size ≤ gb632)); clear HB; have HB := n0_; have BK632 := n1_; have GW632 := n2_; have GE632 := n3_; clear n0_ n1_ n2_ n3_; clear hb hbox hg) | ((with_reducible refine gate_dst (N := 3) rfl ?_); refine box_event ?hg (N := 3) ?hd (cs := #[.int .i64 a1_0, .int .i64 a1_1]) (t := 29) ?hr ?_; (case hd => rfl); (case hg => rfl); (case hr => first | (go_simp; done) | (go_simp; rfl)); intro gb633 hg w58 hbox hb; have n0_ := bkB BK632 hb; have n1_ := Aside0.mk (below_step (bl HB) hb); have n2_ := Aside0.mk (hbox); have n3_ := Aside0.mk ((by rw [hg]; exact (below_size (bl HB)) : w.heap.size ≤ gb633)); have n4_ := Aside0.mk ((by rw [hg]; exact (below_size (bl HB)) : w.heap.size ≤ gb633)); have n5_ := Aside0.mk ((by rw [hg]; exact Nat.ne_of_lt (bkL BK632) : gb632 ≠ gb633)); have n6_ := Aside0.mk ((by rw [hg]; exact Nat.ne_of_gt (bkL BK632) : gb633 ≠ gb632)); clear BK632; clear HB; have BK632 := n0_; have HB := n1_; have BK633 := n2_; have GW633 := n3_; have GE633 := n4_; have NB632_633 := n5_; have NB633_632 := n6_; clear n0_ n1_ n2_ n3_ n4_ n5_ n6_; clear hb hbox hg) | ((with_reducible refine gate_dst (N := 4) rfl ?_); refine box_event ?hg (N := 4) ?hd (cs := #[.slice none 0 0]) (t := 45) ?hr ?_; (case hd => rfl); (case hg => rfl); (case hr => first | (go_simp; done) | (go_simp; rfl)); intro gb634 hg w59 hbox hb; have n0_ := bkB BK632 hb; have n1_ := bkB BK633 hb; have n2_ := Aside0.mk (below_step (bl HB) hb); have n3_ := Aside0.mk (hbox); have n4_ := Aside0.mk ((by rw [hg]; exact (below_size (bl HB)) : w.heap.size ≤ gb634)); have n5_ := Aside0.mk ((by rw [hg]; exact (below_size (bl HB)) : w.heap.size ≤ gb634)); have n6_ := Aside0.mk ((by rw [hg]; exact Nat.ne_of_lt (bkL BK632) : gb632 ≠ gb634)); have n7_ := Aside0.mk ((by rw [hg]; exact Nat.ne_of_gt (bkL BK632) : gb634 ≠ gb632)); have n8_ := Aside0.mk ((by rw [hg]; exact Nat.ne_of_lt (bkL BK633) : gb633 ≠ gb634)); have n9_ := Aside0.mk ((by rw [hg]; exact Nat.ne_of_gt (bkL BK633) : gb634 ≠ gb633)); clear BK632; clear BK633; clear HB; have BK632 := n0_; have BK633 := n1_; have HB := n2_; have BK634 := n3_; have GW634 := n4_; have GE634 := n5_; have NB632_634 := n6_; have NB634_632 := n7_; have NB633_634 := n8_; have NB634_633 := n9_; clear n0_ n1_ n2_ n3_ n4_ n5_ n6_ n7_ n8_ n9_; clear hb hbox hg; have hnb60 := NB632_633.out; have hnc60 := NB633_632.out; have hnb61 := NB632_634.out; have hnc61 := NB634_632.out; have hcz62_0 : w59.cell? ⟨gb632, 0, none⟩ = some (.slice A0_0 l0_0.length c0_0) := (blk_cell BK632.out 0).trans rfl; have hfz62_0 := blk_frozen BK632.out 0) | ((with_reducible refine gate_callee (f := 92) rfl ?_); refine goesL_ (some 9) rfl rfl Try.func92 (by kernel_rfl) rfl #[.agg #[.slice A0_0 l0_0.length c0_0]] rfl (by (try simp only [List.map_toArray, List.map_cons, List.map_nil]); first | done | rfl | (simp only [List.length_drop, List.length_take]; rfl)) ?_; (with_reducible refine (impl_MapTab_copied.calls _ _ l0_0 t635 _ ?side1 ?side2 A3.out).mono ?_); (case side1 => repeat (first | exact (Kd.C_below HR0_0.out HB.out) | (with_reducible refine Kd.C_alloc ?_ _) | (with_reducible refine Kd.C_drewN ?_ _) | (with_reducible refine Kd.C_drew ?_))); (case side2 => exact HC0_0.out); rintro e w63 ⟨v636, rfl, ho0, hb⟩; refine ⟨_, rfl, ?_⟩; have n0_ := Aside0.mk (Kd.R_lower (Kd.R_newB ho0 (g := gb633) (o := .cells #[.int .i64 a1_0, .int .i64 a1_1] 29 (0, 0)) (bk BK633)) (below_size (bl HB))); have n1_ := bkB BK632 hb; have n2_ := bkB BK633 hb; have n3_ := bkB BK634 hb; have n4_ := Aside0.mk (below_step (bl HB) hb); clear BK632; clear BK633; clear BK634; clear HB; have HO637 := n0_; have BK632 := n1_; have BK633 := n2_; have BK634 := n3_; have HB := n4_; clear n0_ n1_ n2_ n3_ n4_; (try clear hb); (try clear hb2); (try clear hk); (try clear hi); (try clear ho0)) | ((with_reducible refine gate_dst (N := 6) rfl ?_); refine box_event ?hg (N := 6) ?hd (cs := #[.slice none 0 0]) (t := 45) ?hr ?_; (case hd => rfl); (case hg => rfl); (case hr => first | (go_simp; done) | (go_simp; rfl)); intro gb638 hg w64 hbox hb; have n0_ := Aside0.mk (Kd.R_below (rs HO637) hb); have n1_ := bkB BK632 hb; have n2_ := bkB BK633 hb; have n3_ := bkB BK634 hb; have n4_ := Aside0.mk (below_step (bl HB) hb); have n5_ := Aside0.mk (hbox); have n6_ := Aside0.mk ((by rw [hg]; exact (below_size (bl HB)) : w.heap.size ≤ gb638)); have n7_ := Aside0.mk ((by rw [hg]; exact (below_size (bl HB)) : w.heap.size ≤ gb638)); have n8_ := Aside0.mk ((by rw [hg]; exact Nat.ne_of_lt (bkL BK632) : gb632 ≠ gb638)); have n9_ := Aside0.mk ((by rw [hg]; exact Nat.ne_of_gt (bkL BK632) : gb638 ≠ gb632)); have n10_ := Aside0.mk ((by rw [hg]; exact Nat.ne_of_lt (bkL BK633) : gb633 ≠ gb638)); have n11_ := Aside0.mk ((by rw [hg]; exact Nat.ne_of_gt (bkL BK633) : gb638 ≠ gb633)); have n12_ := Aside0.mk ((by rw [hg]; exact Nat.ne_of_lt (bkL BK634) : gb634 ≠ gb638)); have n13_ := Aside0.mk ((by rw [hg]; exact Nat.ne_of_gt (bkL BK634) : gb638 ≠ gb634)); clear HO637; clear BK632; clear BK633; clear BK634; clear HB; have HO637 := n0_; have BK632 := n1_; have BK633 := n2_; have BK634 := n3_; have HB := n4_; have BK638 := n5_; have GW638 := n6_; have GE638 := n7_; have NB632_638 := n8_; have NB638_632 := n9_; have NB633_638 := n10_; have NB638_633 := n11_; have NB634_638 := n12_; have NB638_634 := n13_; clear n0_ n1_ n2_ n3_ n4_ n5_ n6_ n7_ n8_ n9_ n10_ n11_ n12_ n13_; clear hb hbox hg; obtain ⟨Ao65, co65, eo65⟩ := Kd.R_slice HO637.out; subst eo65; have hnb66 := NB638_632.out; have hnc66 := NB632_638.out; have hnb67 := NB638_633.out; have hnc67 := NB633_638.out; have hnb68 := NB638_634.out; have hnc68 := NB634_638.out; have hcz69_0 : w64.cell? ⟨gb638, 0, none⟩ = some (.slice none 0 0) := (blk_cell BK638.out 0).trans rfl; have hfz69_0 := blk_frozen BK638.out 0; have hcz70_0 : w64.cell? ⟨gb632, 0, none⟩ = some (.slice A0_0 l0_0.length c0_0) := (blk_cell BK632.out 0).trans rfl; have hfz70_0 := blk_frozen BK632.out 0; have hnb71 := NB633_634.out; have hnc71 := NB634_633.out; have hcz72_0 : w64.cell? ⟨gb633, 0, none⟩ = some (.int .i64 a1_0) := (blk_cell BK633.out 0).trans rfl; have hcz72_1 : w64.cell? ⟨gb633, 1, none⟩ = some (.int .i64 a1_1) := (blk_cell BK633.out 1).trans rfl; have hfz72_0 := blk_frozen BK633.out 0; have hfz72_1 := blk_frozen BK633.out 1) | ((with_reducible refine gate_callee (f := 27) rfl ?_); refine goesL_ (some 12) rfl rfl Try.func27 (by kernel_rfl) rfl #[.agg #[.slice A0_0 l0_0.length c0_0], .agg #[.int .i64 a1_0, .int .i64 a1_1]] rfl (by (try simp only [List.map_toArray, List.map_cons, List.map_nil]); first | done | rfl | (simp only [List.length_drop, List.length_take]; rfl)) ?_; (with_reducible refine (impl_MapPort.calls _ _ l0_0 a1_0 a1_1 t639 _ ?side1 ?side2 A4.out).mono ?_); (case side1 => exact Kd.C_below HR0_0.out (bl HB)); (case side2 => exact HC0_0.out); rintro e w73 ⟨rfl, hb⟩; refine ⟨_, rfl, ?_⟩; have n0_ := Aside0.mk (Kd.R_below (by (with_reducible repeat apply ru); exact (Kd.R_mono (Kd.R_far (p := ⟨gb638, 0, none⟩) (Kd.R_types HO637.out BK638.out (by decide)) (fun _ hk => hk.2) (.slice Ao65 t635.length co65)) (fun _ h_ => h_.1))) hb); have n1_ := Aside0.mk (blk_below (g := gb632) (o := .cells #[.slice A0_0 l0_0.length c0_0] 45 (0, 0)) (by (with_reducible repeat refine bu ?_); refine blk_far ?_ NB632_638.out _; (with_reducible repeat refine bu ?_); exact BK632.out) hb); have n2_ := Aside0.mk (blk_below (g := gb633) (o := .cells #[.int .i64 a1_0, .int .i64 a1_1] 29 (0, 0)) (by (with_reducible repeat refine bu ?_); refine blk_far ?_ NB633_638.out _; (with_reducible repeat refine bu ?_); exact BK633.out) hb); have n3_ := Aside0.mk (blk_below (g := gb634) (o := .cells #[.slice none 0 0] 45 (0, 0)) (by (with_reducible repeat refine bu ?_); refine blk_far ?_ NB634_638.out _; (with_reducible repeat refine bu ?_); exact BK634.out) hb); have n4_ := Aside0.mk (blk_below (g := gb638) (o := .cells #[.slice Ao65 t635.length co65] 45 (0, 0)) (by (with_reducible repeat refine bu ?_); refine blk_put (cs := #[.slice none 0 0]) ?_ 0 _ rfl; (with_reducible repeat refine bu ?_); exact BK638.out) hb); have n5_ := Aside0.mk (below_step (bl HB) hb); clear HO637; clear BK632; clear BK633; clear BK634; clear BK638; clear HB; have HO637 := n0_; have BK632 := n1_; have BK633 := n2_; have BK634 := n3_; have BK638 := n4_; have HB := n5_; clear n0_ n1_ n2_ n3_ n4_ n5_; (try clear hb); (try clear hb2); (try clear hk); (try clear hi); have hcz74_0 : w73.cell? ⟨gb638, 0, none⟩ = some (.slice Ao65 t635.length co65) := (blk_cell BK638.out 0).trans rfl; have hfz74_0 := blk_frozen BK638.out 0; have hcz75_0 : w73.cell? ⟨gb634, 0, none⟩ = some (.slice none 0 0) := (blk_cell BK634.out 0).trans rfl; have hfz75_0 := blk_frozen BK634.out 0))
    refine bodyPost_ret (results_ct rfl _ _ gb634 45 #[.slice Ao65 t635.length co65] (0, 0) _ rfl (by (with_reducible repeat refine bu ?_); refine blk_put (cs := #[.slice none 0 0]) ?_ 0 _ rfl; (with_reducible repeat refine bu ?_); exact BK634.out) Try.underlying45 rfl (by kernel_rfl)) rfl ?_
    exact ⟨_, by first | rfl | (simp [errW_none, errW_some] <;> rfl) | (simp [*, errW_none, errW_some] <;> rfl), by (with_reducible repeat apply ru); exact Kd.R_mono (Kd.R_far (p := ⟨gb634, 0, none⟩) (Kd.R_types HO637.out BK634.out (by decide)) (fun _ hk => hk.2) (.slice Ao65 t635.length co65)) (fun _ hk => trivial), by repeat (first | (with_reducible first | exact HB.out | apply below_alloc | apply pw_below_drewN | apply below_drew1 | refine below_set ?_ GE632.out | refine below_set ?_ GE633.out | refine below_set ?_ GE634.out | refine below_set ?_ GE638.out) | exact HB.out)⟩

end Go.Proofs.Ytiocgkggegahhaa.P

-- written by hw.py for this claim
namespace Go.Proofs.Ytiocgkggegahhaa.P
open Go.RowKit Go.Proofs.YtiocgkggegahhaaUFnMapPut.PrintWords Go.Proofs.YtiocgkggegahhaaUFnMapPut.PrintLast Go.Proofs.YtiocgkggegahhaaUFnMapPut.PrintMore
attribute [local go_sem] max2_int min2_int max_two min_two max_three min_three max_four min_four
set_option linter.unusedVariables false
set_option linter.unusedSimpArgs false

/-! ### impl_MapPut: function 26 -/
def impl_MapPut.f (k : Nat) (l0_0 : List (S29)) (a1_0 : Int) (a1_1 : Int) : Option ((List (S29)) × Int) := (impl_MapOk.f k l0_0).bind fun t650 => (if t650 = true then ((impl_EndInside.f a1_0 a1_1).bind fun t651 => (if t651 = true then ((impl_MapTab_put.f l0_0 a1_0 a1_1).bind fun bt652 => (some (bt652.1, bt652.2))) else (some (([] : List (S29)), 0)))) else (some (([] : List (S29)), 0)))
theorem impl_MapPut.mono : ∀ a0 a1 a2 k, LeO (impl_MapPut.f k a0 a1 a2) (impl_MapPut.f (k + 1) a0 a1 a2) := by
  intro a0 a1 a2 k
  unfold impl_MapPut.f
  repeat' first
      | (with_reducible exact impl_MapOk.mono _ _)
      | (with_reducible exact LeO.refl _)
      | (with_reducible exact LeO.none _)
      | (with_reducible refine LeO.ite ?_ ?_)
      | (with_reducible refine LeO.bind ?_ (fun _ => ?_))
      | exact impl_MapOk.mono _ _
      | exact LeO.none _
      | refine LeO.ite ?_ ?_
      | refine LeO.bind ?_ (fun _ => ?_)
set_option maxHeartbeats 8000000 in
set_option maxRecDepth 100000 in
theorem impl_MapPut.calls (k : Nat) (A0_0 : Option Addr) (c0_0 : Nat) (l0_0 : List (S29)) (a1_0 : Int) (a1_1 : Int) (r1 : List (S29)) (r2 : Int) (w : World) (hr0_0 : Kd.C k29 w A0_0 l0_0.length l0_0) (hc0_0 : l0_0.length ≤ c0_0) (h : impl_MapPut.f k l0_0 a1_0 a1_1 = some (r1, r2)) :
    Calls Try.prog 26 #[.agg #[.slice A0_0 l0_0.length c0_0], .agg #[.int .i64 a1_0, .int .i64 a1_1]] w fun e w' => ∃ v0_ : Value, e = .returned (.tuple #[.agg #[v0_], .int .i64 r2]) ∧ Kd.R k29 29 w' w.heap.size (fun _ => True) v0_ r1 ∧ Below w.heap.size w w' := by
  have hu45 := Try.underlying45
  have hu29 := Try.underlying29
  have HR0_0 := Aside0.mk hr0_0
  have HC0_0 := Aside0.mk hc0_0
  clear hr0_0 hc0_0
  have HB := Aside0.mk (Below.refl w.heap.size w)
  have H : ((impl_MapOk.f k l0_0).bind fun t650 => (if t650 = true then ((impl_EndInside.f a1_0 a1_1).bind fun t651 => (if t651 = true then ((impl_MapTab_put.f l0_0 a1_0 a1_1).bind fun bt652 => (some (bt652.1, bt652.2))) else (some (([] : List (S29)), 0)))) else (some (([] : List (S29)), 0)))) = some (r1, r2) := h
  clear h
  replace H := Option.bind_eq_some_iff.mp H
  obtain ⟨t650, A30, H⟩ := H
  replace H : (if t650 = true then ((impl_EndInside.f a1_0 a1_1).bind fun t651 => (if t651 = true then ((impl_MapTab_put.f l0_0 a1_0 a1_1).bind fun bt652 => (some (bt652.1, bt652.2))) else (some (([] : List (S29)), 0)))) else (some (([] : List (S29)), 0))) = some (r1, r2) := H
  have A3 := Aside0.mk A30
  clear A30
  by_cases c4 : t650 = true
  · subst c4
    have H1 : ((impl_EndInside.f a1_0 a1_1).bind fun t651 => (if t651 = true then ((impl_MapTab_put.f l0_0 a1_0 a1_1).bind fun bt652 => (some (bt652.1, bt652.2))) else (some (([] : List (S29)), 0)))) = some (r1, r2) := by rw [if_pos rfl] at H; exact H
    clear H
    have H := H1
    clear H1
    replace H := Option.bind_eq_some_iff.mp H
    obtain ⟨t651, A50, H⟩ := H
    replace H : (if t651 = true then ((impl_MapTab_put.f l0_0 a1_0 a1_1).bind fun bt652 => (some (bt652.1, bt652.2))) else (some (([] : List (S29)), 0))) = some (r1, r2) := H
    have A5 := Aside0.mk A50
    clear A50
    by_cases c6 : t651 = true
    · subst c6
      have H1 : ((impl_MapTab_put.f l0_0 a1_0 a1_1).bind fun bt652 => (some (bt652.1, bt652.2))) = some (r1, r2) := by rw [if_pos rfl] at H; exact H
      clear H
      have H := H1
      clear H1
      replace H := Option.bind_eq_some_iff.mp H
      obtain ⟨⟨t652, t655⟩, A70, H⟩ := H
      replace H : (some (t652, t655)) = some (r1, r2) := H
      have A7 := Aside0.mk A70
      clear A70
      simp only [Option.some.injEq, Prod.mk.injEq] at H
      obtain ⟨rfl, rfl⟩ := H
      go_enter Try.func26, Try.ntmps26
      go_wp2_with (first | ((with_reducible refine gate_dst (N := 2) rfl ?_); refine box_event ?hg (N := 2) ?hd (cs := #[.slice A0_0 l0_0.length c0_0]) (t := 45) ?hr ?_; (case hd => rfl); (case hg => rfl); (case hr => first | (go_simp; done) | (go_simp; rfl)); intro gb647 hg w8 hbox hb; have n0_ := Aside0.mk (below_step (bl HB) hb); have n1_ := Aside0.mk (hbox); have n2_ := Aside0.mk ((by rw [hg]; exact (below_size (bl HB)) : w.heap.size ≤ gb647)); have n3_ := Aside0.mk ((by rw [hg]; exact (below_size (bl HB)) : w.heap.size ≤ gb647)); clear HB; have HB := n0_; have BK647 := n1_; have GW647 := n2_; have GE647 := n3_; clear n0_ n1_ n2_ n3_; clear hb hbox hg) | ((with_reducible refine gate_dst (N := 3) rfl ?_); refine box_event ?hg (N := 3) ?hd (cs := #[.int .i64 a1_0, .int .i64 a1_1]) (t := 29) ?hr ?_; (case hd => rfl); (case hg => rfl); (case hr => first | (go_simp; done) | (go_simp; rfl)); intro gb648 hg w9 hbox hb; have n0_ := bkB BK647 hb; have n1_ := Aside0.mk (below_step (bl HB) hb); have n2_ := Aside0.mk (hbox); have n3_ := Aside0.mk ((by rw [hg]; exact (below_size (bl HB)) : w.heap.size ≤ gb648)); have n4_ := Aside0.mk ((by rw [hg]; exact (below_size (bl HB)) : w.heap.size ≤ gb648)); have n5_ := Aside0.mk ((by rw [hg]; exact Nat.ne_of_lt (bkL BK647) : gb647 ≠ gb648)); have n6_ := Aside0.mk ((by rw [hg]; exact Nat.ne_of_gt (bkL BK647) : gb648 ≠ gb647)); clear BK647; clear HB; have BK647 := n0_; have HB := n1_; have BK648 := n2_; have GW648 := n3_; have GE648 := n4_; have NB647_648 := n5_; have NB648_647 := n6_; clear n0_ n1_ n2_ n3_ n4_ n5_ n6_; clear hb hbox hg) | ((with_reducible refine gate_dst (N := 4) rfl ?_); refine box_event ?hg (N := 4) ?hd (cs := #[.slice none 0 0]) (t := 45) ?hr ?_; (case hd => rfl); (case hg => rfl); (case hr => first | (go_simp; done) | (go_simp; rfl)); intro gb649 hg w10 hbox hb; have n0_ := bkB BK647 hb; have n1_ := bkB BK648 hb; have n2_ := Aside0.mk (below_step (bl HB) hb); have n3_ := Aside0.mk (hbox); have n4_ := Aside0.mk ((by rw [hg]; exact (below_size (bl HB)) : w.heap.size ≤ gb649)); have n5_ := Aside0.mk ((by rw [hg]; exact (below_size (bl HB)) : w.heap.size ≤ gb649)); have n6_ := Aside0.mk ((by rw [hg]; exact Nat.ne_of_lt (bkL BK647) : gb647 ≠ gb649)); have n7_ := Aside0.mk ((by rw [hg]; exact Nat.ne_of_gt (bkL BK647) : gb649 ≠ gb647)); have n8_ := Aside0.mk ((by rw [hg]; exact Nat.ne_of_lt (bkL BK648) : gb648 ≠ gb649)); have n9_ := Aside0.mk ((by rw [hg]; exact Nat.ne_of_gt (bkL BK648) : gb649 ≠ gb648)); clear BK647; clear BK648; clear HB; have BK647 := n0_; have BK648 := n1_; have HB := n2_; have BK649 := n3_; have GW649 := n4_; have GE649 := n5_; have NB647_649 := n6_; have NB649_647 := n7_; have NB648_649 := n8_; have NB649_648 := n9_; clear n0_ n1_ n2_ n3_ n4_ n5_ n6_ n7_ n8_ n9_; clear hb hbox hg; have hnb11 := NB647_648.out; have hnc11 := NB648_647.out; have hnb12 := NB647_649.out; have hnc12 := NB649_647.out; have hcz13_0 : w10.cell? ⟨gb647, 0, none⟩ = some (.slice A0_0 l0_0.length c0_0) := (blk_cell BK647.out 0).trans rfl; have hfz13_0 := blk_frozen BK647.out 0) | ((with_reducible refine gate_callee (f := 35) rfl ?_); refine goesL_ (some 7) rfl rfl Try.func35 (by kernel_rfl) rfl #[.agg #[.slice A0_0 l0_0.length c0_0]] rfl (by (try simp only [List.map_toArray, List.map_cons, List.map_nil]); first | done | rfl | (simp only [List.length_drop, List.length_take]; rfl)) ?_; (with_reducible refine (impl_MapOk.calls k _ _ l0_0 true _ ?side1 ?side2 A3.out).mono ?_); (case side1 => repeat (first | exact (Kd.C_below HR0_0.out HB.out) | (with_reducible refine Kd.C_alloc ?_ _) | (with_reducible refine Kd.C_drewN ?_ _) | (with_reducible refine Kd.C_drew ?_))); (case side2 => exact HC0_0.out); rintro e w14 ⟨rfl, hb⟩; refine ⟨_, rfl, ?_⟩; have n0_ := bkB BK647 hb; have n1_ := bkB BK648 hb; have n2_ := bkB BK649 hb; have n3_ := Aside0.mk (below_step (bl HB) hb); clear BK647; clear BK648; clear BK649; clear HB; have BK647 := n0_; have BK648 := n1_; have BK649 := n2_; have HB := n3_; clear n0_ n1_ n2_ n3_; (try clear hb); (try clear hb2); (try clear hk); (try clear hi); have hnb15 := NB648_649.out; have hnc15 := NB649_648.out; have hcz16_0 : w14.cell? ⟨gb648, 0, none⟩ = some (.int .i64 a1_0) := (blk_cell BK648.out 0).trans rfl; have hcz16_1 : w14.cell? ⟨gb648, 1, none⟩ = some (.int .i64 a1_1) := (blk_cell BK648.out 1).trans rfl; have hfz16_0 := blk_frozen BK648.out 0; have hfz16_1 := blk_frozen BK648.out 1) | (go_at_call 65; (with_reducible refine (impl_EndInside.calls a1_0 a1_1 true _ A5.out).mono ?_); rintro e w17 ⟨rfl, hb⟩; have n0_ := bkB BK647 hb; have n1_ := bkB BK648 hb; have n2_ := bkB BK649 hb; have n3_ := Aside0.mk (below_step (bl HB) hb); clear BK647; clear BK648; clear BK649; clear HB; have BK647 := n0_; have BK648 := n1_; have BK649 := n2_; have HB := n3_; clear n0_ n1_ n2_ n3_; (try clear hb); (try clear hb2); (try clear hk); (try clear hi); have hcz18_0 : w17.cell? ⟨gb647, 0, none⟩ = some (.slice A0_0 l0_0.length c0_0) := (blk_cell BK647.out 0).trans rfl; have hfz18_0 := blk_frozen BK647.out 0; have hcz19_0 : w17.cell? ⟨gb648, 0, none⟩ = some (.int .i64 a1_0) := (blk_cell BK648.out 0).trans rfl; have hcz19_1 : w17.cell? ⟨gb648, 1, none⟩ = some (.int .i64 a1_1) := (blk_cell BK648.out 1).trans rfl; have hfz19_0 := blk_frozen BK648.out 0; have hfz19_1 := blk_frozen BK648.out 1) | ((with_reducible refine gate_callee (f := 66) rfl ?_); refine goesL_ (some 17) rfl rfl Try.func66 (by kernel_rfl) rfl #[.agg #[.slice A0_0 l0_0.length c0_0], .agg #[.int .i64 a1_0, .int .i64 a1_1]] rfl (by (try simp only [List.map_toArray, List.map_cons, List.map_nil]); first | done | rfl | (simp only [List.length_drop, List.length_take]; rfl)) ?_; (with_reducible refine (impl_MapTab_put.calls _ _ l0_0 a1_0 a1_1 t652 t655 _ ?side1 ?side2 A7.out).mono ?_); (case side1 => repeat (first | exact (Kd.C_below HR0_0.out HB.out) | (with_reducible refine Kd.C_alloc ?_ _) | (with_reducible refine Kd.C_drewN ?_ _) | (with_reducible refine Kd.C_drew ?_))); (case side2 => exact HC0_0.out); rintro e w20 ⟨v653, rfl, ho0, hb⟩; refine ⟨_, rfl, ?_⟩; have n0_ := Aside0.mk (Kd.R_lower (Kd.R_newB ho0 (g := gb648) (o := .cells #[.int .i64 a1_0, .int .i64 a1_1] 29 (0, 0)) (bk BK648)) (below_size (bl HB))); have n1_ := bkB BK647 hb; have n2_ := bkB BK648 hb; have n3_ := bkB BK649 hb; have n4_ := Aside0.mk (below_step (bl HB) hb); clear BK647; clear BK648; clear BK649; clear HB; have HO654 := n0_; have BK647 := n1_; have BK648 := n2_; have BK649 := n3_; have HB := n4_; clear n0_ n1_ n2_ n3_ n4_; (try clear hb); (try clear hb2); (try clear hk); (try clear hi); (try clear ho0); obtain ⟨Ao21, co21, eo21⟩ := Kd.R_slice HO654.out; subst eo21; have hcz22_0 : w20.cell? ⟨gb649, 0, none⟩ = some (.slice none 0 0) := (blk_cell BK649.out 0).trans rfl; have hfz22_0 := blk_frozen BK649.out 0))
      refine bodyPost_ret (results_ct rfl _ _ gb649 45 #[.slice Ao21 t652.length co21] (0, 0) _ rfl (by (with_reducible repeat refine bu ?_); refine blk_put (cs := #[.slice none 0 0]) ?_ 0 _ rfl; (with_reducible repeat refine bu ?_); exact BK649.out) Try.underlying45 rfl (by kernel_rfl)) rfl ?_
      exact ⟨_, by first | rfl | (simp [errW_none, errW_some] <;> rfl) | (simp [*, errW_none, errW_some] <;> rfl), by (with_reducible repeat apply ru); exact Kd.R_mono (Kd.R_far (p := ⟨gb649, 0, none⟩) (Kd.R_types HO654.out BK649.out (by decide)) (fun _ hk => hk.2) (.slice Ao21 t652.length co21)) (fun _ hk => trivial), by repeat (first | (with_reducible first | exact HB.out | apply below_alloc | apply pw_below_drewN | apply below_drew1 | refine below_set ?_ GE647.out | refine below_set ?_ GE648.out | refine below_set ?_ GE649.out) | exact HB.out)⟩
    · replace c6 := Bool.eq_false_iff.mpr c6
      subst c6
      have H1 : (some (([] : List (S29)), 0)) = some (r1, r2) := by rw [if_neg (show ¬ (false = true) by decide)] at H; exact H
      clear H
      have H := H1
      clear H1
      simp only [Option.some.injEq, Prod.mk.injEq] at H
      obtain ⟨rfl, rfl⟩ := H
      go_enter Try.func26, Try.ntmps26
      go_wp2_with (first | ((with_reducible refine gate_dst (N := 2) rfl ?_); refine box_event ?hg (N := 2) ?hd (cs := #[.slice A0_0 l0_0.length c0_0]) (t := 45) ?hr ?_; (case hd => rfl); (case hg => rfl); (case hr => first | (go_simp; done) | (go_simp; rfl)); intro gb647 hg w23 hbox hb; have n0_ := Aside0.mk (below_step (bl HB) hb); have n1_ := Aside0.mk (hbox); have n2_ := Aside0.mk ((by rw [hg]; exact (below_size (bl HB)) : w.heap.size ≤ gb647)); have n3_ := Aside0.mk ((by rw [hg]; exact (below_size (bl HB)) : w.heap.size ≤ gb647)); clear HB; have HB := n0_; have BK647 := n1_; have GW647 := n2_; have GE647 := n3_; clear n0_ n1_ n2_ n3_; clear hb hbox hg) | ((with_reducible refine gate_dst (N := 3) rfl ?_); refine box_event ?hg (N := 3) ?hd (cs := #[.int .i64 a1_0, .int .i64 a1_1]) (t := 29) ?hr ?_; (case hd => rfl); (case hg => rfl); (case hr => first | (go_simp; done) | (go_simp; rfl)); intro gb648 hg w24 hbox hb; have n0_ := bkB BK647 hb; have n1_ := Aside0.mk (below_step (bl HB) hb); have n2_ := Aside0.mk (hbox); have n3_ := Aside0.mk ((by rw [hg]; exact (below_size (bl HB)) : w.heap.size ≤ gb648)); have n4_ := Aside0.mk ((by rw [hg]; exact (below_size (bl HB)) : w.heap.size ≤ gb648)); have n5_ := Aside0.mk ((by rw [hg]; exact Nat.ne_of_lt (bkL BK647) : gb647 ≠ gb648)); have n6_ := Aside0.mk ((by rw [hg]; exact Nat.ne_of_gt (bkL BK647) : gb648 ≠ gb647)); clear BK647; clear HB; have BK647 := n0_; have HB := n1_; have BK648 := n2_; have GW648 := n3_; have GE648 := n4_; have NB647_648 := n5_; have NB648_647 := n6_; clear n0_ n1_ n2_ n3_ n4_ n5_ n6_; clear hb hbox hg) | ((with_reducible refine gate_dst (N := 4) rfl ?_); refine box_event ?hg (N := 4) ?hd (cs := #[.slice none 0 0]) (t := 45) ?hr ?_; (case hd => rfl); (case hg => rfl); (case hr => first | (go_simp; done) | (go_simp; rfl)); intro gb649 hg w25 hbox hb; have n0_ := bkB BK647 hb; have n1_ := bkB BK648 hb; have n2_ := Aside0.mk (below_step (bl HB) hb); have n3_ := Aside0.mk (hbox); have n4_ := Aside0.mk ((by rw [hg]; exact (below_size (bl HB)) : w.heap.size ≤ gb649)); have n5_ := Aside0.mk ((by rw [hg]; exact (below_size (bl HB)) : w.heap.size ≤ gb649)); have n6_ := Aside0.mk ((by rw [hg]; exact Nat.ne_of_lt (bkL BK647) : gb647 ≠ gb649)); have n7_ := Aside0.mk ((by rw [hg]; exact Nat.ne_of_gt (bkL BK647) : gb649 ≠ gb647)); have n8_ := Aside0.mk ((by rw [hg]; exact Nat.ne_of_lt (bkL BK648) : gb648 ≠ gb649)); have n9_ := Aside0.mk ((by rw [hg]; exact Nat.ne_of_gt (bkL BK648) : gb649 ≠ gb648)); clear BK647; clear BK648; clear HB; have BK647 := n0_; have BK648 := n1_; have HB := n2_; have BK649 := n3_; have GW649 := n4_; have GE649 := n5_; have NB647_649 := n6_; have NB649_647 := n7_; have NB648_649 := n8_; have NB649_648 := n9_; clear n0_ n1_ n2_ n3_ n4_ n5_ n6_ n7_ n8_ n9_; clear hb hbox hg; have hnb26 := NB647_648.out; have hnc26 := NB648_647.out; have hnb27 := NB647_649.out; have hnc27 := NB649_647.out; have hcz28_0 : w25.cell? ⟨gb647, 0, none⟩ = some (.slice A0_0 l0_0.length c0_0) := (blk_cell BK647.out 0).trans rfl; have hfz28_0 := blk_frozen BK647.out 0) | ((with_reducible refine gate_callee (f := 35) rfl ?_); refine goesL_ (some 7) rfl rfl Try.func35 (by kernel_rfl) rfl #[.agg #[.slice A0_0 l0_0.length c0_0]] rfl (by (try simp only [List.map_toArray, List.map_cons, List.map_nil]); first | done | rfl | (simp only [List.length_drop, List.length_take]; rfl)) ?_; (with_reducible refine (impl_MapOk.calls k _ _ l0_0 true _ ?side1 ?side2 A3.out).mono ?_); (case side1 => repeat (first | exact (Kd.C_below HR0_0.out HB.out) | (with_reducible refine Kd.C_alloc ?_ _) | (with_reducible refine Kd.C_drewN ?_ _) | (with_reducible refine Kd.C_drew ?_))); (case side2 => exact HC0_0.out); rintro e w29 ⟨rfl, hb⟩; refine ⟨_, rfl, ?_⟩; have n0_ := bkB BK647 hb; have n1_ := bkB BK648 hb; have n2_ := bkB BK649 hb; have n3_ := Aside0.mk (below_step (bl HB) hb); clear BK647; clear BK648; clear BK649; clear HB; have BK647 := n0_; have BK648 := n1_; have BK649 := n2_; have HB := n3_; clear n0_ n1_ n2_ n3_; (try clear hb); (try clear hb2); (try clear hk); (try clear hi); have hnb30 := NB648_649.out; have hnc30 := NB649_648.out; have hcz31_0 : w29.cell? ⟨gb648, 0, none⟩ = some (.int .i64 a1_0) := (blk_cell BK648.out 0).trans rfl; have hcz31_1 : w29.cell? ⟨gb648, 1, none⟩ = some (.int .i64 a1_1) := (blk_cell BK648.out 1).trans rfl; have hfz31_0 := blk_frozen BK648.out 0; have hfz31_1 := blk_frozen BK648.out 1) | (go_at_call 65; (with_reducible refine (impl_EndInside.calls a1_0 a1_1 false _ A5.out).mono ?_); rintro e w32 ⟨rfl, hb⟩; have n0_ := bkB BK647 hb; have n1_ := bkB BK648 hb; have n2_ := bkB BK649 hb; have n3_ := Aside0.mk (below_step (bl HB) hb); clear BK647; clear BK648; clear BK649; clear HB; have BK647 := n0_; have BK648 := n1_; have BK649 := n2_; have HB := n3_; clear n0_ n1_ n2_ n3_; (try clear hb); (try clear hb2); (try clear hk); (try clear hi); have hcz33_0 : w32.cell? ⟨gb649, 0, none⟩ = some (.slice none 0 0) := (blk_cell BK649.out 0).trans rfl; have hfz33_0 := blk_frozen BK649.out 0))
      refine bodyPost_ret (results_ct rfl _ _ gb649 45 #[.slice none 0 0] (0, 0) _ rfl (by (with_reducible repeat refine bu ?_); refine blk_put (cs := #[.slice none 0 0]) ?_ 0 _ rfl; (with_reducible repeat refine bu ?_); exact BK649.out) Try.underlying45 rfl (by kernel_rfl)) rfl ?_
      exact ⟨_, by first | rfl | (simp [errW_none, errW_some] <;> rfl) | (simp [*, errW_none, errW_some] <;> rfl), by first | exact Kd.R_nil _ _ _ _ _ | exact Kd.N_nil _ _ _ _ _ | exact Kd.V_nil _ _ _ _ _ | exact Kd.Q_nil _ _ _ _ _ | exact Kd.S_nil _ _ _ _ _, by repeat (first | (with_reducible first | exact HB.out | apply below_alloc | apply pw_below_drewN | apply below_drew1 | refine below_set ?_ GE647.out | refine below_set ?_ GE648.out | refine below_set ?_ GE649.out) | exact HB.out)⟩
  · replace c4 := Bool.eq_false_iff.mpr c4
    subst c4
    have H1 : (some (([] : List (S29)), 0)) = some (r1, r2) := by rw [if_neg (show ¬ (false = true) by decide)] at H; exact H
    clear H
    have H := H1
    clear H1
    simp only [Option.some.injEq, Prod.mk.injEq] at H
    obtain ⟨rfl, rfl⟩ := H
    go_enter Try.func26, Try.ntmps26
    go_wp2_with (first | ((with_reducible refine gate_dst (N := 2) rfl ?_); refine box_event ?hg (N := 2) ?hd (cs := #[.slice A0_0 l0_0.length c0_0]) (t := 45) ?hr ?_; (case hd => rfl); (case hg => rfl); (case hr => first | (go_simp; done) | (go_simp; rfl)); intro gb647 hg w34 hbox hb; have n0_ := Aside0.mk (below_step (bl HB) hb); have n1_ := Aside0.mk (hbox); have n2_ := Aside0.mk ((by rw [hg]; exact (below_size (bl HB)) : w.heap.size ≤ gb647)); have n3_ := Aside0.mk ((by rw [hg]; exact (below_size (bl HB)) : w.heap.size ≤ gb647)); clear HB; have HB := n0_; have BK647 := n1_; have GW647 := n2_; have GE647 := n3_; clear n0_ n1_ n2_ n3_; clear hb hbox hg) | ((with_reducible refine gate_dst (N := 3) rfl ?_); refine box_event ?hg (N := 3) ?hd (cs := #[.int .i64 a1_0, .int .i64 a1_1]) (t := 29) ?hr ?_; (case hd => rfl); (case hg => rfl); (case hr => first | (go_simp; done) | (go_simp; rfl)); intro gb648 hg w35 hbox hb; have n0_ := bkB BK647 hb; have n1_ := Aside0.mk (below_step (bl HB) hb); have n2_ := Aside0.mk (hbox); have n3_ := Aside0.mk ((by rw [hg]; exact (below_size (bl HB)) : w.heap.size ≤ gb648)); have n4_ := Aside0.mk ((by rw [hg]; exact (below_size (bl HB)) : w.heap.size ≤ gb648)); have n5_ := Aside0.mk ((by rw [hg]; exact Nat.ne_of_lt (bkL BK647) : gb647 ≠ gb648)); have n6_ := Aside0.mk ((by rw [hg]; exact Nat.ne_of_gt (bkL BK647) : gb648 ≠ gb647)); clear BK647; clear HB; have BK647 := n0_; have HB := n1_; have BK648 := n2_; have GW648 := n3_; have GE648 := n4_; have NB647_648 := n5_; have NB648_647 := n6_; clear n0_ n1_ n2_ n3_ n4_ n5_ n6_; clear hb hbox hg) | ((with_reducible refine gate_dst (N := 4) rfl ?_); refine box_event ?hg (N := 4) ?hd (cs := #[.slice none 0 0]) (t := 45) ?hr ?_; (case hd => rfl); (case hg => rfl); (case hr => first | (go_simp; done) | (go_simp; rfl)); intro gb649 hg w36 hbox hb; have n0_ := bkB BK647 hb; have n1_ := bkB BK648 hb; have n2_ := Aside0.mk (below_step (bl HB) hb); have n3_ := Aside0.mk (hbox); have n4_ := Aside0.mk ((by rw [hg]; exact (below_size (bl HB)) : w.heap.size ≤ gb649)); have n5_ := Aside0.mk ((by rw [hg]; exact (below_size (bl HB)) : w.heap.size ≤ gb649)); have n6_ := Aside0.mk ((by rw [hg]; exact Nat.ne_of_lt (bkL BK647) : gb647 ≠ gb649)); have n7_ := Aside0.mk ((by rw [hg]; exact Nat.ne_of_gt (bkL BK647) : gb649 ≠ gb647)); have n8_ := Aside0.mk ((by rw [hg]; exact Nat.ne_of_lt (bkL BK648) : gb648 ≠ gb649)); have n9_ := Aside0.mk ((by rw [hg]; exact Nat.ne_of_gt (bkL BK648) : gb649 ≠ gb648)); clear BK647; clear BK648; clear HB; have BK647 := n0_; have BK648 := n1_; have HB := n2_; have BK649 := n3_; have GW649 := n4_; have GE649 := n5_; have NB647_649 := n6_; have NB649_647 := n7_; have NB648_649 := n8_; have NB649_648 := n9_; clear n0_ n1_ n2_ n3_ n4_ n5_ n6_ n7_ n8_ n9_; clear hb hbox hg; have hnb37 := NB647_648.out; have hnc37 := NB648_647.out; have hnb38 := NB647_649.out; have hnc38 := NB649_647.out; have hcz39_0 : w36.cell? ⟨gb647, 0, none⟩ = some (.slice A0_0 l0_0.length c0_0) := (blk_cell BK647.out 0).trans rfl; have hfz39_0 := blk_frozen BK647.out 0) | ((with_reducible refine gate_callee (f := 35) rfl ?_); refine goesL_ (some 7) rfl rfl Try.func35 (by kernel_rfl) rfl #[.agg #[.slice A0_0 l0_0.length c0_0]] rfl (by (try simp only [List.map_toArray, List.map_cons, List.map_nil]); first | done | rfl | (simp only [List.length_drop, List.length_take]; rfl)) ?_; (with_reducible refine (impl_MapOk.calls k _ _ l0_0 false _ ?side1 ?side2 A3.out).mono ?_); (case side1 => repeat (first | exact (Kd.C_below HR0_0.out HB.out) | (with_reducible refine Kd.C_alloc ?_ _) | (with_reducible refine Kd.C_drewN ?_ _) | (with_reducible refine Kd.C_drew ?_))); (case side2 => exact HC0_0.out); rintro e w40 ⟨rfl, hb⟩; refine ⟨_, rfl, ?_⟩; have n0_ := bkB BK647 hb; have n1_ := bkB BK648 hb; have n2_ := bkB BK649 hb; have n3_ := Aside0.mk (below_step (bl HB) hb); clear BK647; clear BK648; clear BK649; clear HB; have BK647 := n0_; have BK648 := n1_; have BK649 := n2_; have HB := n3_; clear n0_ n1_ n2_ n3_; (try clear hb); (try clear hb2); (try clear hk); (try clear hi); have hnb41 := NB649_648.out; have hnc41 := NB648_649.out; have hcz42_0 : w40.cell? ⟨gb649, 0, none⟩ = some (.slice none 0 0) := (blk_cell BK649.out 0).trans rfl; have hfz42_0 := blk_frozen BK649.out 0))
    refine bodyPost_ret (results_ct rfl _ _ gb649 45 #[.slice none 0 0] (0, 0) _ rfl (by (with_reducible repeat refine bu ?_); refine blk_put (cs := #[.slice none 0 0]) ?_ 0 _ rfl; (with_reducible repeat refine bu ?_); exact BK649.out) Try.underlying45 rfl (by kernel_rfl)) rfl ?_
    exact ⟨_, by first | rfl | (simp [errW_none, errW_some] <;> rfl) | (simp [*, errW_none, errW_some] <;> rfl), by first | exact Kd.R_nil _ _ _ _ _ | exact Kd.N_nil _ _ _ _ _ | exact Kd.V_nil _ _ _ _ _ | exact Kd.Q_nil _ _ _ _ _ | exact Kd.S_nil _ _ _ _ _, by repeat (first | (with_reducible first | exact HB.out | apply below_alloc | apply pw_below_drewN | apply below_drew1 | refine below_set ?_ GE647.out | refine below_set ?_ GE648.out | refine below_set ?_ GE649.out) | exact HB.out)⟩

end Go.Proofs.Ytiocgkggegahhaa.P

-- written by hw.py for this claim
namespace Go.Proofs.Ytiocgkggegahhaa.P
open Go.RowKit Go.Proofs.YtiocgkggegahhaaUFnMapPut.PrintWords Go.Proofs.YtiocgkggegahhaaUFnMapPut.PrintLast Go.Proofs.YtiocgkggegahhaaUFnMapPut.PrintMore
attribute [local go_sem] max2_int min2_int max_two min_two max_three min_three max_four min_four
set_option linter.unusedVariables false
set_option linter.unusedSimpArgs false

attribute [local go_sem high] eqA29
/-! ### laws_haEnds: function 34 -/
def laws_haEnds.l0 : Nat → List (S29) → List (S29) → Int → Option (Bool)
  | 0, _, _, _ => none
  | k + 1, x0, x1, x5 => if x5 < (x0.length : Int) then (if 0 ≤ x5 then (if x5 < (x1.length : Int) then (if (!(((rd_T29 x0 x5).f0) == ((rd_T29 x1 x5).f0)) || (!(((rd_T29 x0 x5).f1) == ((rd_T29 x1 x5).f1)))) = true then (some false) else (laws_haEnds.l0 k x0 x1 (wrap64 (x5 + 1)))) else (none)) else (none)) else (some true)
def laws_haEnds.f (k : Nat) (l0 : List (S29)) (l1 : List (S29)) : Option (Bool) := if (l0.length : Int) = (l1.length : Int) then (laws_haEnds.l0 k l0 l1 0) else (some false)
theorem laws_haEnds.mono_l : ∀ k, (∀ y0 y1 y2, LeO (laws_haEnds.l0 k y0 y1 y2) (laws_haEnds.l0 (k + 1) y0 y1 y2))
  | 0 => fun _ _ _ r h => by simp [laws_haEnds.l0] at h
  | k + 1 => by
    have ih0 := laws_haEnds.mono_l k
    · intro y0 y1 y2
      unfold laws_haEnds.l0
      repeat' first
      | (with_reducible exact ih0 _ _ _)
      | (with_reducible exact LeO.refl _)
      | (with_reducible exact LeO.none _)
      | (with_reducible refine LeO.ite ?_ ?_)
      | (with_reducible refine LeO.bind ?_ (fun _ => ?_))
      | exact ih0 _ _ _
      | exact LeO.none _
      | refine LeO.ite ?_ ?_
      | refine LeO.bind ?_ (fun _ => ?_)
theorem laws_haEnds.mono : ∀ a0 a1 k, LeO (laws_haEnds.f k a0 a1) (laws_haEnds.f (k + 1) a0 a1) := by
  intro a0 a1 k
  have ih0 := laws_haEnds.mono_l k
  unfold laws_haEnds.f
  repeat' first
      | (with_reducible exact ih0 _ _ _)
      | (with_reducible exact LeO.refl _)
      | (with_reducible exact LeO.none _)
      | (with_reducible refine LeO.ite ?_ ?_)
      | (with_reducible refine LeO.bind ?_ (fun _ => ?_))
      | exact ih0 _ _ _
      | exact LeO.none _
      | refine LeO.ite ?_ ?_
      | refine LeO.bind ?_ (fun _ => ?_)
set_option maxHeartbeats 8000000 in
set_option maxRecDepth 100000 in
theorem laws_haEnds.calls (k : Nat) (A0 : Option Addr) (c0 : Nat) (l0 : List (S29)) (A1 : Option Addr) (c1 : Nat) (l1 : List (S29)) (r : Bool) (w : World) (hr0 : Kd.C k29 w A0 l0.length l0) (hc0 : l0.length ≤ c0) (hr1 : Kd.C k29 w A1 l1.length l1) (hc1 : l1.length ≤ c1) (h : laws_haEnds.f k l0 l1 = some r) :
    Calls Try.prog 34 #[.slice A0 l0.length c0, .slice A1 l1.length c1] w fun e w' => e = .returned (.bool r) ∧ Drawn0 w w' := by
  have hu29 := Try.underlying29
  have HR0 := Aside0.mk hr0
  have HC0 := Aside0.mk hc0
  clear hr0 hc0
  have HR1 := Aside0.mk hr1
  have HC1 := Aside0.mk hc1
  clear hr1 hc1
  have H : (if (l0.length : Int) = (l1.length : Int) then (laws_haEnds.l0 k l0 l1 0) else (some false)) = some r := h
  clear h
  by_cases c3 : (l0.length : Int) = (l1.length : Int)
  · rw [if_pos c3] at H
    have c3b0 : ((l0.length : Int) == (l1.length : Int)) = true := beq_iff_eq.mpr c3
    have c3b1 : ((l0.length : Int) != (l1.length : Int)) = false := bne_eq_false_iff_eq.mpr c3
    have c3b2 : (l0.length == l1.length) = true := by first | simpa using c3 | (simp at c3 ⊢; omega)
    clear c3
    have H' := Aside0.mk H
    clear H
    go_enter Try.func34, Try.ntmps34
    go_wp2
    repeat (go_quiet (fail); try go_wp2)
    go_loopg [5] k (fun kq v5 w' => ∃ (x5_1 : Int), v5 = .int .i64 x5_1 ∧ Aside0 (laws_haEnds.l0 kq l0 l1 x5_1 = some r) ∧ Aside0 (kq ≤ k) ∧ Drawn0 w w')
    case atStart => exact ⟨(0), (by first | rfl | (simp; done) | (simp [*]; done)), H', ⟨Nat.le_refl _⟩, by repeat (first | exact Drawn0.refl _ | apply Drawn0.step)⟩
    case round =>
      clear H'
      try clear c1
      try clear p2
      try clear c3
      try clear c3b0
      try clear c3b1
      try clear c3b2
      obtain ⟨x5_1, rfl, HA, HK1, ⟨m1, rfl⟩⟩ := hrel
      cases gk with
      | zero => exact absurd HA.out (by simp [laws_haEnds.l0])
      | succ k1 =>
        have H := HA.out
        clear HA
        simp only [laws_haEnds.l0] at H
        by_cases c4 : x5_1 < (l0.length : Int)
        · rw [if_pos c4] at H
          have c4b0 : decide (x5_1 < (l0.length : Int)) = true := decide_eq_true c4
          clear c4
          by_cases c5 : 0 ≤ x5_1
          · rw [if_pos c5] at H
            have c5b0 : decide (0 ≤ x5_1) = true := decide_eq_true c5
            clear c5
            by_cases c6 : x5_1 < (l1.length : Int)
            · rw [if_pos c6] at H
              have c6b0 : decide (x5_1 < (l1.length : Int)) = true := decide_eq_true c6
              clear c6
              by_cases c7 : (!(((rd_T29 l0 x5_1).f0) == ((rd_T29 l1 x5_1).f0)) || (!(((rd_T29 l0 x5_1).f1) == ((rd_T29 l1 x5_1).f1)))) = true
              · rw [if_pos c7] at H
                have c7b0 : (!(((rd_T29 l0 x5_1).f0) == ((rd_T29 l1 x5_1).f0)) || (!(((rd_T29 l0 x5_1).f1) == ((rd_T29 l1 x5_1).f1)))) = true := c7
                clear c7
                obtain rfl := Option.some.inj H
                have p784 : 0 ≤ (x5_1 : Int) := of_decide_eq_true (by first | (with_reducible assumption) | assumption)
                have q784 : x5_1 < (l0.length : Int) := of_decide_eq_true (by first | (with_reducible assumption) | assumption)
                obtain ⟨ad784, e784, hx784_0, hx784_1⟩ := at_T29 HR0.out x5_1 p784 q784
                cases e784
                replace p784 := eq_true p784
                replace q784 := eq_true q784
                have p785 : 0 ≤ (x5_1 : Int) := of_decide_eq_true (by first | (with_reducible assumption) | assumption)
                have q785 : x5_1 < (l1.length : Int) := of_decide_eq_true (by first | (with_reducible assumption) | assumption)
                obtain ⟨ad785, e785, hx785_0, hx785_1⟩ := at_T29 HR1.out x5_1 p785 q785
                cases e785
                replace p785 := eq_true p785
                replace q785 := eq_true q785
                go_wp2
                repeat (go_quiet (fail); try go_wp2)
                go_ret
                exact ⟨by first | rfl | (simp; done) | (simp [*]; done), by repeat (first | exact Drawn0.refl _ | apply Drawn0.step)⟩
              · rw [if_neg c7] at H
                have c7b0 : (!(((rd_T29 l0 x5_1).f0) == ((rd_T29 l1 x5_1).f0)) || (!(((rd_T29 l0 x5_1).f1) == ((rd_T29 l1 x5_1).f1)))) = false := by simpa using c7
                clear c7
                have H' := Aside0.mk H
                clear H
                have p784 : 0 ≤ (x5_1 : Int) := of_decide_eq_true (by first | (with_reducible assumption) | assumption)
                have q784 : x5_1 < (l0.length : Int) := of_decide_eq_true (by first | (with_reducible assumption) | assumption)
                obtain ⟨ad784, e784, hx784_0, hx784_1⟩ := at_T29 HR0.out x5_1 p784 q784
                cases e784
                replace p784 := eq_true p784
                replace q784 := eq_true q784
                have p785 : 0 ≤ (x5_1 : Int) := of_decide_eq_true (by first | (with_reducible assumption) | assumption)
                have q785 : x5_1 < (l1.length : Int) := of_decide_eq_true (by first | (with_reducible assumption) | assumption)
                obtain ⟨ad785, e785, hx785_0, hx785_1⟩ := at_T29 HR1.out x5_1 p785 q785
                cases e785
                replace p785 := eq_true p785
                replace q785 := eq_true q785
                go_wp2
                repeat (go_quiet (fail); try go_wp2)
                go_roundg k1
                case measure => have := HK1.out; omega
                case rel => exact ⟨(wrap64 (x5_1 + 1)), (by first | rfl | (simp; done) | (simp [*]; done)), H', ⟨by have := HK1.out; omega⟩, by repeat (first | exact Drawn0.refl _ | apply Drawn0.step)⟩
            · rw [if_neg c6] at H
              exact absurd H (by simp)
          · rw [if_neg c5] at H
            exact absurd H (by simp)
        · rw [if_neg c4] at H
          have c4b0 : decide (x5_1 < (l0.length : Int)) = false := decide_eq_false c4
          clear c4
          obtain rfl := Option.some.inj H
          go_wp2
          repeat (go_quiet (fail); try go_wp2)
          go_ret
          exact ⟨by first | rfl | (simp; done) | (simp [*]; done), by repeat (first | exact Drawn0.refl _ | apply Drawn0.step)⟩
  · rw [if_neg c3] at H
    have c3b0 : ((l0.length : Int) == (l1.length : Int)) = false := beq_eq_false_iff_ne.mpr c3
    have c3b1 : ((l0.length : Int) != (l1.length : Int)) = true := bne_iff_ne.mpr c3
    have c3b2 : (l0.length == l1.length) = false := by first | simpa using c3 | (simp at c3 ⊢; omega)
    obtain rfl := Option.some.inj H
    go_enter Try.func34, Try.ntmps34
    go_wp2
    repeat (go_quiet (fail); try go_wp2)
    go_ret
    exact ⟨by first | rfl | (simp; done) | (simp [*]; done), by repeat (first | exact Drawn0.refl _ | apply Drawn0.step)⟩

end Go.Proofs.Ytiocgkggegahhaa.P

-- written by hw.py for this claim
namespace Go.Proofs.Ytiocgkggegahhaa.P
open Go.RowKit Go.Proofs.YtiocgkggegahhaaUFnMapPut.PrintWords Go.Proofs.YtiocgkggegahhaaUFnMapPut.PrintLast Go.Proofs.YtiocgkggegahhaaUFnMapPut.PrintMore
attribute [local go_sem] max2_int min2_int max_two min_two max_three min_three max_four min_four
set_option linter.unusedVariables false
set_option linter.unusedSimpArgs false

/-! ### laws_haFirst: function 36 -/
def laws_haFirst.f (k : Nat) (l0 : List (S29)) (l1 : List (S29)) : Option (Bool) := if (l0.length : Int) ≥ (l1.length : Int) then (if 0 ≤ (l1.length : Int) then (if (l1.length : Int) ≤ (l0.length : Int) then ((laws_haEnds.f k (l0.take ((l1.length : Int) : Int).toNat) l1).bind fun t790 => (some t790)) else (none)) else (none)) else (some false)
theorem laws_haFirst.mono : ∀ a0 a1 k, LeO (laws_haFirst.f k a0 a1) (laws_haFirst.f (k + 1) a0 a1) := by
  intro a0 a1 k
  unfold laws_haFirst.f
  repeat' first
      | (with_reducible exact laws_haEnds.mono _ _ _)
      | (with_reducible exact LeO.refl _)
      | (with_reducible exact LeO.none _)
      | (with_reducible refine LeO.ite ?_ ?_)
      | (with_reducible refine LeO.bind ?_ (fun _ => ?_))
      | exact laws_haEnds.mono _ _ _
      | exact LeO.none _
      | refine LeO.ite ?_ ?_
      | refine LeO.bind ?_ (fun _ => ?_)
set_option maxHeartbeats 8000000 in
set_option maxRecDepth 100000 in
theorem laws_haFirst.calls (k : Nat) (A0 : Option Addr) (c0 : Nat) (l0 : List (S29)) (A1 : Option Addr) (c1 : Nat) (l1 : List (S29)) (r : Bool) (w : World) (hr0 : Kd.C k29 w A0 l0.length l0) (hc0 : l0.length ≤ c0) (hr1 : Kd.C k29 w A1 l1.length l1) (hc1 : l1.length ≤ c1) (h : laws_haFirst.f k l0 l1 = some r) :
    Calls Try.prog 36 #[.slice A0 l0.length c0, .slice A1 l1.length c1] w fun e w' => e = .returned (.bool r) ∧ Drawn0 w w' := by
  have HR0 := Aside0.mk hr0
  have HC0 := Aside0.mk hc0
  clear hr0 hc0
  have HR1 := Aside0.mk hr1
  have HC1 := Aside0.mk hc1
  clear hr1 hc1
  have H : (if (l0.length : Int) ≥ (l1.length : Int) then (if 0 ≤ (l1.length : Int) then (if (l1.length : Int) ≤ (l0.length : Int) then ((laws_haEnds.f k (l0.take ((l1.length : Int) : Int).toNat) l1).bind fun t790 => (some t790)) else (none)) else (none)) else (some false)) = some r := h
  clear h
  by_cases c3 : (l0.length : Int) ≥ (l1.length : Int)
  · rw [if_pos c3] at H
    have c3b0 : decide ((l1.length : Int) ≤ (l0.length : Int)) = true := decide_eq_true c3
    have c3b1 : decide (l1.length ≤ l0.length) = true := decide_eq_true (Int.ofNat_le.mp c3)
    clear c3
    by_cases c4 : 0 ≤ (l1.length : Int)
    · rw [if_pos c4] at H
      have c4b0 := eq_true c4
      have c4b1 : decide (0 ≤ (l1.length : Int)) = true := decide_eq_true c4
      clear c4
      by_cases c5 : (l1.length : Int) ≤ (l0.length : Int)
      · rw [if_pos c5] at H
        have c5b0 := eq_true c5
        have c5b1 : decide ((l1.length : Int) ≤ (l0.length : Int)) = true := decide_eq_true c5
        clear c5
        obtain ⟨y786, hy786⟩ : ∃ y_ : List (S29), y_ = (l0.take ((l1.length : Int) : Int).toNat) := ⟨_, rfl⟩
        replace H : ((laws_haEnds.f k y786 l1).bind fun t790 => (some t790)) = some r := by first | (rw [hy786]; with_reducible exact H) | (have H2_ := (Option.bind_some _ _).symm.trans H; rw [hy786]; with_reducible exact H2_) | (have H2_ := (Option.bind_some _ _).symm.trans H; with_reducible exact H2_) | with_reducible exact H | (rw [hy786]; exact H) | exact H
        have Ny786 := Aside0.mk hy786
        clear hy786
        replace H := Option.bind_eq_some_iff.mp H
        obtain ⟨t790, A60, H⟩ := H
        replace H : (some t790) = some r := H
        have A6 := Aside0.mk A60
        clear A60
        obtain rfl := Option.some.inj H
        have q7 : ((l1.length : Int) : Int) ≤ ((l0.length : Int) : Int) := of_decide_eq_true (by first | (with_reducible assumption) | assumption)
        obtain ⟨i07, hi07, _, hsz7, _⟩ := info_parts info29
        have hroom7 : l0.length ≤ c0 := HC0.out
        have hC7 : Kd.C k29 _ A0 l0.length l0 := HR0.out
        have hcut7 := cut_to (P := Try.prog) 43 29 .i64 Try.underlying43 hi07 A0 l0.length c0 (l1.length : Int) (of_decide_eq_true (by first | (with_reducible assumption) | assumption)) q7 hroom7
        have hr7 := Kd.C_take (m := ((l1.length : Int) : Int).toNat) hC7 (by omega)
        have hy7 : y786.length = ((l1.length : Int) : Int).toNat := (by rw [Ny786.out, List.length_take]; omega)
        rw [← Ny786.out] at hr7
        rw [← hy7] at hcut7
        have HR789 := Aside0.mk hr7
        have HC789 := Aside0.mk (show y786.length ≤ c0 from by omega)
        clear hr7 hC7 hroom7 hi07 hsz7
        have KY7 := Aside0.mk hy7
        clear hy7
        replace q7 := eq_true q7
        go_enter Try.func36, Try.ntmps36
        go_wp2_with (first | (go_at_call 34; (with_reducible refine (laws_haEnds.calls k _ _ y786 _ _ l1 t790 _ ?side1 ?side2 ?side3 ?side4 A6.out).mono ?_); (case side1 => repeat (first | exact HR789.out | (with_reducible refine Kd.C_alloc ?_ _) | (with_reducible refine Kd.C_drewN ?_ _) | (with_reducible refine Kd.C_drew ?_))); (case side2 => exact HC789.out); (case side3 => repeat (first | exact HR1.out | (with_reducible refine Kd.C_alloc ?_ _) | (with_reducible refine Kd.C_drewN ?_ _) | (with_reducible refine Kd.C_drew ?_))); (case side4 => exact HC1.out); rintro e w' ⟨rfl, ⟨nd, rfl⟩⟩))
        go_ret
        exact ⟨by first | rfl | (simp; done) | (simp [*]; done), by repeat (first | exact Drawn0.refl _ | apply Drawn0.step)⟩
      · rw [if_neg c5] at H
        exact absurd H (by simp)
    · rw [if_neg c4] at H
      exact absurd H (by simp)
  · rw [if_neg c3] at H
    have c3b0 : decide ((l1.length : Int) ≤ (l0.length : Int)) = false := decide_eq_false c3
    have c3b1 : decide (l1.length ≤ l0.length) = false := decide_eq_false (fun h => c3 (Int.ofNat_le.mpr h))
    clear c3
    obtain rfl := Option.some.inj H
    go_enter Try.func36, Try.ntmps36
    go_wp2
    go_ret
    exact ⟨by first | rfl | (simp; done) | (simp [*]; done), by repeat (first | exact Drawn0.refl _ | apply Drawn0.step)⟩

end Go.Proofs.Ytiocgkggegahhaa.P
