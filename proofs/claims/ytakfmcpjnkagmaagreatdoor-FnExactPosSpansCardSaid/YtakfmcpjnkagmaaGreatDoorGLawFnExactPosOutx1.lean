import Derived.Test.YtakfmcpjnkagmaaGreatDoorGLawFnExactPosOutx0
import Derived.Maps.OwnSet
import Derived.Maps.OwnOps
import Derived.Maps.Views
import Derived.DeepKeys4
import Derived.Lib.SliceRun
namespace Go.Proofs.YtakfmcpjnkagmaaGreatDoor.P
open Go.Proofs.YtakfmcpjnkagmaaGreatDoorUFnExactPosOut.PrintLast Go.Proofs.YtakfmcpjnkagmaaGreatDoorUFnExactPosOut.PrintMore Go.Proofs.YtakfmcpjnkagmaaGreatDoorUFnExactPosOut.PrintWords Go.RowKit
set_option linter.unusedVariables false
set_option linter.unusedSimpArgs false
def I64 (n : Int) : Prop := (Lit.int .i64 n).wf = true
theorem i64_iff (n : Int) : I64 n ↔ -9223372036854775808 ≤ n ∧ n ≤ 9223372036854775807 := by
  unfold I64
  simp [Lit.wf, IntKind.min, IntKind.max, IntKind.signed, IntKind.bits]
theorem mapLaid : laidOutB Tryz.prog = true := by kernel_rfl
theorem endKeyed : Maps.Keyed Tryz.prog 55 := Maps.Keyed.of_law (deep_law_laid mapLaid (m := 2) (by omega) (of_decide_eq_true (by kernel_rfl)) (by kernel_rfl) (by rw [Tryz.underlying55]))
theorem intKeyed : Maps.Keyed Tryz.prog 3 := Maps.int_keyed Tryz.underlying3
def eK (a b : Int) : Lit := .string (keyBytes [.int .i64 a, .int .i64 b])
theorem eK_key (a b : Int) : WideAt.IsKeyLit (eK a b) := trivial
theorem pK_key (n : Int) : WideAt.IsKeyLit (Lit.int .i64 n) := trivial
theorem endKey {a b : Int} (wa : I64 a) (wb : I64 b) : keyOf Tryz.prog 55 (.agg #[.int .i64 a, .int .i64 b]) = some (eK a b) := by
  have hk : Tryz.prog.keyType 55 = true := by kernel_rfl
  have hc : Tryz.prog.cellsOf 55 = 2 := by kernel_rfl
  have hc3 : Tryz.prog.cellsOf 3 = 1 := by kernel_rfl
  obtain ⟨m, hm⟩ : ∃ m, Tryz.prog.types.size = m + 2 := ⟨Tryz.prog.types.size - 2, by kernel_rfl⟩
  unfold I64 at wa wb
  unfold keyOf eK
  simp only [Tryz.underlying55]
  rw [if_pos (by simp [hk, Value.formed, Tryz.underlying55, hc]), hm]
  unfold Program.keyLits
  simp only [Tryz.underlying55, Value.cells]
  rw [if_pos (by rw [hc]; exact ⟨rfl, by simp⟩)]
  simp [hc3, Program.keyLits, Tryz.underlying3, wa, wb]
theorem intKey {n : Int} (w : I64 n) : keyOf Tryz.prog 3 (.int .i64 n) = some (.int .i64 n) := by
  unfold I64 at w
  simp [keyOf, mapKey, Tryz.underlying3, w]
theorem eK_inj {a b c d : Int} (wa : I64 a) (wb : I64 b) (wc : I64 c) (wd : I64 d) (h : eK a b = eK c d) : a = c ∧ b = d := by
  have := endKeyed.inj (endKey wa wb) (by rw [h]; exact endKey wc wd)
  simpa using this
def endD (a b : Int) : DataW Unit := .map [(.int .i64 0, .lit (.int .i64 a)), (.int .i64 0, .lit (.int .i64 b))]
def endR (v : Value) : Option (DataW Unit × List MemPlace) := match v with
  | .agg cs => (match cs.toList with
    | [.int .i64 a, .int .i64 b] => some (endD a b, [])
    | _ => none)
  | _ => none
theorem endR_mk (a b : Int) : endR (.agg #[.int .i64 a, .int .i64 b]) = some (endD a b, []) := rfl
theorem endR_inv {v : Value} {z : DataW Unit × List MemPlace} (h : endR v = some z) : ∃ a b, v = .agg #[.int .i64 a, .int .i64 b] ∧ z.1 = endD a b := by
  unfold endR at h
  split at h
  · rename_i cs
    split at h
    · rename_i a b he
      obtain ⟨l⟩ := cs
      simp at he
      subst he
      injection h with h
      subst h
      exact ⟨a, b, rfl, rfl⟩
    · cases h
  · cases h
def fnd (l : List S55) (a b : Int) : Option Nat := l.findIdx? (fun x => x.f0 == a && x.f1 == b)
theorem fnd_snoc (l : List S55) (x : S55) (a b : Int) : fnd (l ++ [x]) a b = (match fnd l a b with | some i => some i | none => if x.f0 = a ∧ x.f1 = b then some l.length else none) := by
  unfold fnd
  rw [List.findIdx?_append]
  cases l.findIdx? (fun x => x.f0 == a && x.f1 == b) with
  | some i => simp
  | none => by_cases h : x.f0 = a ∧ x.f1 = b <;> simp [List.findIdx?_cons, h]
def Says1 (l : List S55) (D : DataW Unit) : Prop := ∀ a b, I64 a → I64 b → ∀ z, D.atKey (eK a b) z = (match fnd l a b with | none => z | some i => .lit (.int .i64 (500 + i)))
def Says2 (l : List S55) (D : DataW Unit) : Prop := ∀ n, I64 n → ∀ z, D.atKey (.int .i64 n) z = (match (if 500 ≤ n then l[(n - 500).toNat]? else none) with | none => z | some x => endD x.f0 x.f1)
theorem says1_nil : Says1 [] (.map []) := fun a b _ _ z => rfl
theorem says2_nil : Says2 [] (.map []) := fun n _ z => by
  have : (if 500 ≤ n then ([] : List S55)[(n - 500).toNat]? else none) = none := by split <;> rfl
  rw [this]; rfl
theorem says1_has {l : List S55} {D : DataW Unit} (h : Says1 l D) {a b : Int} (wa : I64 a) (wb : I64 b) : Maps.has D (eK a b) = (fnd l a b).isSome := by
  cases hf : fnd l a b with
  | none => exact Maps.has_false_of_atKey (fun z => by rw [h a b wa wb z, hf])
  | some i => exact Maps.has_true_of_atKey (fun z => by rw [h a b wa wb z, hf])
theorem says1_old {l : List S55} {D : DataW Unit} (h : Says1 l D) (x : S55) (wx : I64 x.f0 ∧ I64 x.f1) (hx : Maps.has D (eK x.f0 x.f1) = true) : Says1 (l ++ [x]) D := by
  intro a b wa wb z
  rw [h a b wa wb z, fnd_snoc]
  cases hf : fnd l a b with
  | some i => rfl
  | none =>
    have hne : ¬ (x.f0 = a ∧ x.f1 = b) := by
      rintro ⟨rfl, rfl⟩
      rw [says1_has h wx.1 wx.2, hf] at hx
      cases hx
    simp [hne]
theorem says1_new {l : List S55} {D : DataW Unit} (h : Says1 l D) (hD : Maps.IsMap D) (x : S55) (wx : I64 x.f0 ∧ I64 x.f1) (hx : Maps.has D (eK x.f0 x.f1) = false) : Says1 (l ++ [x]) (D.put (eK x.f0 x.f1) (.lit (.int .i64 (500 + l.length)))) := by
  intro a b wa wb z
  rw [fnd_snoc]
  by_cases he : x.f0 = a ∧ x.f1 = b
  · obtain ⟨rfl, rfl⟩ := he
    rw [says1_has h wx.1 wx.2] at hx
    cases hf : fnd l x.f0 x.f1 with
    | some i => rw [hf] at hx; cases hx
    | none =>
      rw [Maps.atKey_put_same hD (eK_key _ _)]
      simp
  · have hne : eK a b ≠ eK x.f0 x.f1 := fun e => he (by obtain ⟨h1, h2⟩ := eK_inj wa wb wx.1 wx.2 e; exact ⟨h1.symm, h2.symm⟩)
    rw [Maps.atKey_put_other hne, h a b wa wb z]
    cases fnd l a b <;> simp [he]
theorem says2_has {l : List S55} {D : DataW Unit} (h : Says2 l D) (hl : l.length < 1000000000) : Maps.has D (.int .i64 (500 + l.length)) = false :=
  Maps.has_false_of_atKey (fun z => by
    rw [h _ ((i64_iff _).mpr (by omega)) z]
    have : (if 500 ≤ (500 + (l.length : Int)) then l[((500 + (l.length : Int)) - 500).toNat]? else none) = none := by
      rw [if_pos (by omega)]
      exact List.getElem?_eq_none (by omega)
    rw [this])
theorem says2_put {l : List S55} {D : DataW Unit} (h : Says2 l D) (hD : Maps.IsMap D) (x : S55) (hl : l.length < 1000000000) : Says2 (l ++ [x]) (D.put (.int .i64 (500 + l.length)) (endD x.f0 x.f1)) := by
  intro n wn z
  by_cases he : n = 500 + l.length
  · subst he
    rw [Maps.atKey_put_same hD (pK_key _)]
    have : (if 500 ≤ (500 + (l.length : Int)) then (l ++ [x])[((500 + (l.length : Int)) - 500).toNat]? else none) = some x := by
      rw [if_pos (by omega), show ((500 + (l.length : Int)) - 500).toNat = l.length by omega]
      simp
    rw [this]
  · have hne : (Lit.int .i64 n) ≠ Lit.int .i64 (500 + l.length) := fun e => he (by injection e)
    rw [Maps.atKey_put_other hne, h n wn z]
    have : (if 500 ≤ n then (l ++ [x])[(n - 500).toNat]? else none) = (if 500 ≤ n then l[(n - 500).toNat]? else none) := by
      by_cases h5 : 500 ≤ n
      · rw [if_pos h5, if_pos h5]
        rw [List.getElem?_append]
        split
        · rfl
        · rename_i hge
          rw [List.getElem?_eq_none (by simp; omega), List.getElem?_eq_none (by omega)]
      · rw [if_neg h5, if_neg h5]
    rw [this]
theorem says2_again {l : List S55} {D : DataW Unit} {x : S55} (h : Says2 (l ++ [x]) D) (hD : Maps.IsMap D) (hl : l.length < 1000000000) : Says2 (l ++ [x]) (D.put (.int .i64 (500 + l.length)) (endD x.f0 x.f1)) := by
  intro n wn z
  by_cases he : n = 500 + l.length
  · subst he
    rw [Maps.atKey_put_same hD (pK_key _)]
    have : (if 500 ≤ (500 + (l.length : Int)) then (l ++ [x])[((500 + (l.length : Int)) - 500).toNat]? else none) = some x := by
      rw [if_pos (by omega), show ((500 + (l.length : Int)) - 500).toNat = l.length by omega]
      simp
    rw [this]
  · have hne : (Lit.int .i64 n) ≠ Lit.int .i64 (500 + l.length) := fun e => he (by injection e)
    rw [Maps.atKey_put_other hne, h n wn z]
theorem zero3 (w : World) : (zeroValue 3).run Tryz.prog w = .ok (.int .i64 0) w := by kernel_rfl
theorem zeroEnd (w : World) : (zeroValue 55).run Tryz.prog w = .ok (.agg #[.int .i64 0, .int .i64 0]) w := by kernel_rfl
structure Fr (w w' : World) (b1 b2 : Nat) : Prop where
  os : w'.os = w.os
  tape : w'.tape = w.tape
  output : w'.output = w.output
  size : w.heap.size ≤ w'.heap.size
  block : ∀ i, i < w.heap.size → i ≠ b1 → i ≠ b2 → w'.heap[i]? = w.heap[i]?
theorem Fr.refl (w : World) (b1 b2 : Nat) : Fr w w b1 b2 := ⟨rfl, rfl, rfl, Nat.le_refl _, fun _ _ _ _ => rfl⟩
theorem Fr.trans {w w' w'' : World} {b1 b2 : Nat} (h : Fr w w' b1 b2) (k : Fr w' w'' b1 b2) : Fr w w'' b1 b2 :=
  ⟨k.os.trans h.os, k.tape.trans h.tape, k.output.trans h.output, Nat.le_trans h.size k.size, fun i hi h1 h2 => (k.block i (Nat.lt_of_lt_of_le hi h.size) h1 h2).trans (h.block i hi h1 h2)⟩
theorem Fr.below {w w' w'' : World} {b1 b2 : Nat} (h : Fr w w' b1 b2) (k : Below w'.heap.size w' w'') : Fr w w'' b1 b2 :=
  h.trans ⟨k.os, k.tape, k.output, k.size, fun i hi _ _ => k.block i hi⟩
theorem Fr.one {w w' w'' : World} {b1 b2 : Nat} (h : Fr w w' b1 b2) (k : w'.grownBy w'' (some b1)) : Fr w w'' b1 b2 :=
  h.trans ⟨k.os, k.tape, k.output, k.size, fun i hi h1 _ => k.block i hi (by simpa using h1)⟩
theorem Fr.two {w w' w'' : World} {b1 b2 : Nat} (h : Fr w w' b1 b2) (k : w'.grownBy w'' (some b2)) : Fr w w'' b1 b2 :=
  h.trans ⟨k.os, k.tape, k.output, k.size, fun i hi _ h2 => k.block i hi (by simpa using h2)⟩
theorem Fr.set {w w' : World} {b1 b2 g j : Nat} {v : Value} (h : Fr w w' b1 b2) (hg : w.heap.size ≤ g) : Fr w (w'.setCell ⟨g, j, none⟩ v) b1 b2 :=
  ⟨h.os, h.tape, h.output, by simpa [World.setCell] using h.size, fun i hi h1 h2 => (heap_setCell_other w' ⟨g, j, none⟩ i v (fun e => by simp at e; omega)).trans (h.block i hi h1 h2)⟩
theorem om_below {k : TypeId} {R : Value → Option (DataW Unit × List MemPlace)} {w w' : World} {b n : Nat} {D : DataW Unit} (h : w.ownsMap Tryz.prog k R b n D) (hb : Below w.heap.size w w') : w'.ownsMap Tryz.prog k R b n D := by
  have hlt := h.lt
  obtain ⟨es, c, h1, h2⟩ := h
  exact ⟨es, c, (hb.block b hlt).trans h1, h2⟩
theorem om_ne {k : TypeId} {R : Value → Option (DataW Unit × List MemPlace)} {w : World} {b n g : Nat} {D : DataW Unit} {cs : Array Value} {t : TypeId} (h : w.ownsMap Tryz.prog k R b n D) (hg : w.heap[g]? = some (.cells cs t (0, 0))) : g ≠ b := by
  rintro rfl
  obtain ⟨es, c, h1, h2⟩ := h
  rw [hg] at h1
  cases h1
set_option maxHeartbeats 8000000 in
set_option maxRecDepth 100000 in
theorem set_old (b1 b2 n1 n2 : Nat) (D1 D2 : DataW Unit) (a b n : Int) (wa : I64 a) (wb : I64 b) (wn : I64 n) (w : World) (hne : b1 ≠ b2)
    (h1 : w.ownsMap Tryz.prog 55 (plainElem Tryz.prog 3) b1 n1 D1) (h2 : w.ownsMap Tryz.prog 3 endR b2 n2 D2) (hn1 : n1 < 1000000000) (hn2 : n2 < 1000000000)
    (f1 : Maps.has D1 (eK a b) = true) (f2 : Maps.has D2 (.int .i64 n) = false) :
    Calls Tryz.prog 145 #[.agg #[.map (some b1), .map (some b2)], .agg #[.int .i64 a, .int .i64 b], .int .i64 n] w fun e w' =>
      e = .returned (.tuple #[]) ∧ w'.ownsMap Tryz.prog 55 (plainElem Tryz.prog 3) b1 n1 D1 ∧ w'.ownsMap Tryz.prog 3 endR b2 (n2 + 1) (D2.put (.int .i64 n) (endD a b)) ∧ Fr w w' b1 b2 := by
  have H1 := Aside0.mk h1
  have H2 := Aside0.mk h2
  have F1 := Aside0.mk f1
  have F2 := Aside0.mk f2
  have HNE := Aside0.mk hne
  have HF := Aside0.mk (Fr.refl w b1 b2)
  have HN1 := Aside0.mk (show n1 < maxLen by simp only [maxLen]; omega)
  have HN2 := Aside0.mk (show n2 < maxLen by simp only [maxLen]; omega)
  clear h1 h2 f1 f2 hne hn1 hn2
  go_enter Tryz.func145, Tryz.ntmps145
  go_wp2_with (first
    | ((with_reducible refine gate_dst (N := 3) rfl ?_)
       refine box_event ?hg (N := 3) ?hd (cs := #[.map (some b1), .map (some b2)]) (t := 131) ?hr ?_
       (case hd => rfl)
       (case hg => rfl)
       (case hr => first | (go_simp; done) | (go_simp; rfl))
       intro g3 hg w3 hbox hb
       have n1_ := Aside0.mk (om_below (w' := w3) H1.out hb)
       have n2_ := Aside0.mk (om_below (w' := w3) H2.out hb)
       have n3_ := Aside0.mk (Fr.below HF.out (w'' := w3) hb)
       have BK3 := Aside0.mk hbox
       clear H1 H2 HF
       have H1 := n1_
       have H2 := n2_
       have HF := n3_
       clear n1_ n2_ n3_ hb hbox hg)
    | ((with_reducible refine gate_dst (N := 4) rfl ?_)
       refine box_event ?hg (N := 4) ?hd (cs := #[.int .i64 a, .int .i64 b]) (t := 55) ?hr ?_
       (case hd => rfl)
       (case hg => rfl)
       (case hr => first | (go_simp; done) | (go_simp; rfl))
       intro g4 hg w4 hbox hb
       have n1_ := Aside0.mk (om_below (w' := w4) H1.out hb)
       have n2_ := Aside0.mk (om_below (w' := w4) H2.out hb)
       have n3_ := Aside0.mk (Fr.below HF.out (w'' := w4) hb)
       have n4_ := bkB BK3 hb
       have BK4 := Aside0.mk hbox
       have NB := Aside0.mk (show g3 ≠ g4 from by rw [hg]; exact Nat.ne_of_lt (bkL BK3))
       clear H1 H2 HF BK3
       have H1 := n1_
       have H2 := n2_
       have HF := n3_
       have BK3 := n4_
       clear n1_ n2_ n3_ n4_ hb hbox hg
       have c30 : w4.cell? ⟨g3, 0, none⟩ = some (.map (some b1)) := (blk_cell BK3.out 0).trans rfl
       have c31 : w4.cell? ⟨g3, 1, none⟩ = some (.map (some b2)) := (blk_cell BK3.out 1).trans rfl
       have c40 : w4.cell? ⟨g4, 0, none⟩ = some (.int .i64 a) := (blk_cell BK4.out 0).trans rfl
       have c41 : w4.cell? ⟨g4, 1, none⟩ = some (.int .i64 b) := (blk_cell BK4.out 1).trans rfl)
    | ((with_reducible refine gate_dst (N := 14) rfl ?_)
       at_lookup
       refine wpList_lookup_own_ok_int _ rfl _ _ 128 rfl 55 3 .i64 endKeyed Tryz.underlying128 Tryz.underlying3 (zero3 _) b1 n1 D1 rfl H1.out _ _ rfl (endKey wa wb) ?_
       intro c14 hat hwc
       rw [F1.out]
       clear hat hwc)
    | ((with_reducible refine gate_dst (N := 27) rfl ?_)
       at_lookup
       refine wpList_lookup_own_ok _ rfl _ _ 129 rfl 3 55 intKeyed Tryz.underlying129 _ (zeroEnd _) (endD 0 0) [] (endR_mk 0 0) b2 n2 D2 rfl H2.out _ _ rfl (intKey wn) ?_
       intro v27 ps27 hv27
       rw [F2.out]
       obtain ⟨xa, xb, rfl, _⟩ := endR_inv hv27
       clear hv27)
    | ((with_reducible refine gate_dst (N := 8) rfl ?_)
       refine box_event ?hg (N := 8) ?hd (cs := #[.int .i64 0, .int .i64 0]) (t := 55) ?hr ?_
       (case hd => rfl)
       (case hg => rfl)
       (case hr => first | (go_simp; done) | (go_simp; rfl))
       intro g8 hg w8 hbox hb
       have n1_ := Aside0.mk (om_below (w' := w8) H1.out hb)
       have n2_ := Aside0.mk (om_below (w' := w8) H2.out hb)
       have n3_ := Aside0.mk (Fr.below HF.out (w'' := w8) hb)
       have n4_ := bkB BK3 hb
       have n5_ := bkB BK4 hb
       have BK8 := Aside0.mk hbox
       have GE8 := Aside0.mk (show w.heap.size ≤ g8 from by rw [hg]; exact HF.out.size)
       have e38 : g3 ≠ g8 := by rw [hg]; exact Nat.ne_of_lt (bkL BK3)
       have e48 : g4 ≠ g8 := by rw [hg]; exact Nat.ne_of_lt (bkL BK4)
       have e83 := e38.symm
       have e84 := e48.symm
       clear H1 H2 HF BK3 BK4 c30 c31 c40 c41
       have H1 := n1_
       have H2 := n2_
       have HF := n3_
       have BK3 := n4_
       have BK4 := n5_
       clear n1_ n2_ n3_ n4_ n5_ hb hbox hg
       have c30 : w8.cell? ⟨g3, 0, none⟩ = some (.map (some b1)) := (blk_cell BK3.out 0).trans rfl
       have c31 : w8.cell? ⟨g3, 1, none⟩ = some (.map (some b2)) := (blk_cell BK3.out 1).trans rfl
       have c40 : w8.cell? ⟨g4, 0, none⟩ = some (.int .i64 a) := (blk_cell BK4.out 0).trans rfl
       have c41 : w8.cell? ⟨g4, 1, none⟩ = some (.int .i64 b) := (blk_cell BK4.out 1).trans rfl
       have c80 : w8.cell? ⟨g8, 0, none⟩ = some (.int .i64 0) := (blk_cell BK8.out 0).trans rfl
       have c81 : w8.cell? ⟨g8, 1, none⟩ = some (.int .i64 0) := (blk_cell BK8.out 1).trans rfl
       have z80 := blk_frozen BK8.out 0
       have z81 := blk_frozen BK8.out 1)
    | (at_mapUpdate
       refine wpList_mapUpdate_own _ rfl _ _ _ 129 rfl 3 55 intKeyed Tryz.underlying129 _ b2 n2 D2 rfl ((H2.out.setCell (om_ne H2.out BK8.out).symm _).setCell (om_ne H2.out BK8.out).symm _) HN2.out _ _ _ rfl rfl (intKey wn) _ _ (endR_mk a b) ?_
       intro w33 hm hg
       have n1_ := Aside0.mk (((H1.out.setCell (om_ne H1.out BK8.out).symm _).setCell (om_ne H1.out BK8.out).symm _).kept hg (by simpa using HNE.out))
       have n2_ := Aside0.mk hm
       have n3_ := Aside0.mk (((HF.out.set GE8.out).set GE8.out).two hg)
       clear H1 H2 HF BK3 BK4 BK8 c30 c31 c40 c41 c80 c81 z80 z81 hm hg
       have H1 := n1_
       have H2 := n2_
       have HF := n3_
       clear n1_ n2_ n3_))
  first | go_end0 | ((try simp only [Exit.inBlock, Exit.then]); refine bodyPost_ret (results_none rfl _ _ _) rfl ?_)
  exact ⟨rfl, H1.out, H2.out, HF.out⟩
set_option maxHeartbeats 8000000 in
set_option maxRecDepth 100000 in
theorem set_new (b1 b2 n1 n2 : Nat) (D1 D2 : DataW Unit) (a b n : Int) (wa : I64 a) (wb : I64 b) (wn : I64 n) (w : World) (hne : b1 ≠ b2)
    (h1 : w.ownsMap Tryz.prog 55 (plainElem Tryz.prog 3) b1 n1 D1) (h2 : w.ownsMap Tryz.prog 3 endR b2 n2 D2) (hn1 : n1 < 1000000000) (hn2 : n2 < 1000000000)
    (f1 : Maps.has D1 (eK a b) = false) (f2 : Maps.has D2 (.int .i64 n) = false) :
    Calls Tryz.prog 145 #[.agg #[.map (some b1), .map (some b2)], .agg #[.int .i64 a, .int .i64 b], .int .i64 n] w fun e w' =>
      e = .returned (.tuple #[]) ∧ w'.ownsMap Tryz.prog 55 (plainElem Tryz.prog 3) b1 (n1 + 1) (D1.put (eK a b) (.lit (.int .i64 n))) ∧ w'.ownsMap Tryz.prog 3 endR b2 (n2 + 1) (D2.put (.int .i64 n) (endD a b)) ∧ Fr w w' b1 b2 := by
  have H1 := Aside0.mk h1
  have H2 := Aside0.mk h2
  have F1 := Aside0.mk f1
  have F2 := Aside0.mk f2
  have HNE := Aside0.mk hne
  have HF := Aside0.mk (Fr.refl w b1 b2)
  have HN1 := Aside0.mk (show n1 < maxLen by simp only [maxLen]; omega)
  have HN2 := Aside0.mk (show n2 < maxLen by simp only [maxLen]; omega)
  clear h1 h2 f1 f2 hne hn1 hn2
  go_enter Tryz.func145, Tryz.ntmps145
  go_wp2_with (first
    | ((with_reducible refine gate_dst (N := 3) rfl ?_)
       refine box_event ?hg (N := 3) ?hd (cs := #[.map (some b1), .map (some b2)]) (t := 131) ?hr ?_
       (case hd => rfl)
       (case hg => rfl)
       (case hr => first | (go_simp; done) | (go_simp; rfl))
       intro g3 hg w3 hbox hb
       have n1_ := Aside0.mk (om_below (w' := w3) H1.out hb)
       have n2_ := Aside0.mk (om_below (w' := w3) H2.out hb)
       have n3_ := Aside0.mk (Fr.below HF.out (w'' := w3) hb)
       have BK3 := Aside0.mk hbox
       clear H1 H2 HF
       have H1 := n1_
       have H2 := n2_
       have HF := n3_
       clear n1_ n2_ n3_ hb hbox hg)
    | ((with_reducible refine gate_dst (N := 4) rfl ?_)
       refine box_event ?hg (N := 4) ?hd (cs := #[.int .i64 a, .int .i64 b]) (t := 55) ?hr ?_
       (case hd => rfl)
       (case hg => rfl)
       (case hr => first | (go_simp; done) | (go_simp; rfl))
       intro g4 hg w4 hbox hb
       have n1_ := Aside0.mk (om_below (w' := w4) H1.out hb)
       have n2_ := Aside0.mk (om_below (w' := w4) H2.out hb)
       have n3_ := Aside0.mk (Fr.below HF.out (w'' := w4) hb)
       have n4_ := bkB BK3 hb
       have BK4 := Aside0.mk hbox
       have NB := Aside0.mk (show g3 ≠ g4 from by rw [hg]; exact Nat.ne_of_lt (bkL BK3))
       clear H1 H2 HF BK3
       have H1 := n1_
       have H2 := n2_
       have HF := n3_
       have BK3 := n4_
       clear n1_ n2_ n3_ n4_ hb hbox hg
       have c30 : w4.cell? ⟨g3, 0, none⟩ = some (.map (some b1)) := (blk_cell BK3.out 0).trans rfl
       have c31 : w4.cell? ⟨g3, 1, none⟩ = some (.map (some b2)) := (blk_cell BK3.out 1).trans rfl
       have c40 : w4.cell? ⟨g4, 0, none⟩ = some (.int .i64 a) := (blk_cell BK4.out 0).trans rfl
       have c41 : w4.cell? ⟨g4, 1, none⟩ = some (.int .i64 b) := (blk_cell BK4.out 1).trans rfl)
    | ((with_reducible refine gate_dst (N := 14) rfl ?_)
       at_lookup
       refine wpList_lookup_own_ok_int _ rfl _ _ 128 rfl 55 3 .i64 endKeyed Tryz.underlying128 Tryz.underlying3 (zero3 _) b1 n1 D1 rfl H1.out _ _ rfl (endKey wa wb) ?_
       intro c14 hat hwc
       rw [F1.out]
       clear hat hwc)
    | (at_mapUpdate
       refine wpList_mapUpdate_own _ rfl _ _ _ 128 rfl 55 3 endKeyed Tryz.underlying128 _ b1 n1 D1 rfl H1.out HN1.out _ _ _ rfl rfl (endKey wa wb) _ _ (plainElem_int Tryz.underlying3 wn) ?_
       intro w20 hm hg
       have n1_ := Aside0.mk hm
       have n2_ := Aside0.mk (H2.out.kept hg (by simpa using HNE.out.symm))
       have n3_ := Aside0.mk (HF.out.one hg)
       have n4_ : Aside0 (w20.heap[g3]? = some (.cells #[.map (some b1), .map (some b2)] 131 (0, 0))) := ⟨(hg.block g3 (blk_lt BK3.out) (by simpa using om_ne H1.out BK3.out)).trans BK3.out⟩
       have n5_ : Aside0 (w20.heap[g4]? = some (.cells #[.int .i64 a, .int .i64 b] 55 (0, 0))) := ⟨(hg.block g4 (blk_lt BK4.out) (by simpa using om_ne H1.out BK4.out)).trans BK4.out⟩
       clear H1 H2 HF BK3 BK4 c30 c31 c40 c41
       have H1 := n1_
       have H2 := n2_
       have HF := n3_
       have BK3 := n4_
       have BK4 := n5_
       clear n1_ n2_ n3_ n4_ n5_ hm hg
       have c30 : w20.cell? ⟨g3, 0, none⟩ = some (.map (some b1)) := (blk_cell BK3.out 0).trans rfl
       have c31 : w20.cell? ⟨g3, 1, none⟩ = some (.map (some b2)) := (blk_cell BK3.out 1).trans rfl
       have c40 : w20.cell? ⟨g4, 0, none⟩ = some (.int .i64 a) := (blk_cell BK4.out 0).trans rfl
       have c41 : w20.cell? ⟨g4, 1, none⟩ = some (.int .i64 b) := (blk_cell BK4.out 1).trans rfl)
    | ((with_reducible refine gate_dst (N := 27) rfl ?_)
       at_lookup
       refine wpList_lookup_own_ok _ rfl _ _ 129 rfl 3 55 intKeyed Tryz.underlying129 _ (zeroEnd _) (endD 0 0) [] (endR_mk 0 0) b2 n2 D2 rfl H2.out _ _ rfl (intKey wn) ?_
       intro v27 ps27 hv27
       rw [F2.out]
       obtain ⟨xa, xb, rfl, _⟩ := endR_inv hv27
       clear hv27)
    | ((with_reducible refine gate_dst (N := 8) rfl ?_)
       refine box_event ?hg (N := 8) ?hd (cs := #[.int .i64 0, .int .i64 0]) (t := 55) ?hr ?_
       (case hd => rfl)
       (case hg => rfl)
       (case hr => first | (go_simp; done) | (go_simp; rfl))
       intro g8 hg w8 hbox hb
       have n1_ := Aside0.mk (om_below (w' := w8) H1.out hb)
       have n2_ := Aside0.mk (om_below (w' := w8) H2.out hb)
       have n3_ := Aside0.mk (Fr.below HF.out (w'' := w8) hb)
       have n4_ := bkB BK3 hb
       have n5_ := bkB BK4 hb
       have BK8 := Aside0.mk hbox
       have GE8 := Aside0.mk (show w.heap.size ≤ g8 from by rw [hg]; exact HF.out.size)
       have e38 : g3 ≠ g8 := by rw [hg]; exact Nat.ne_of_lt (bkL BK3)
       have e48 : g4 ≠ g8 := by rw [hg]; exact Nat.ne_of_lt (bkL BK4)
       have e83 := e38.symm
       have e84 := e48.symm
       clear H1 H2 HF BK3 BK4 c30 c31 c40 c41
       have H1 := n1_
       have H2 := n2_
       have HF := n3_
       have BK3 := n4_
       have BK4 := n5_
       clear n1_ n2_ n3_ n4_ n5_ hb hbox hg
       have c30 : w8.cell? ⟨g3, 0, none⟩ = some (.map (some b1)) := (blk_cell BK3.out 0).trans rfl
       have c31 : w8.cell? ⟨g3, 1, none⟩ = some (.map (some b2)) := (blk_cell BK3.out 1).trans rfl
       have c40 : w8.cell? ⟨g4, 0, none⟩ = some (.int .i64 a) := (blk_cell BK4.out 0).trans rfl
       have c41 : w8.cell? ⟨g4, 1, none⟩ = some (.int .i64 b) := (blk_cell BK4.out 1).trans rfl
       have c80 : w8.cell? ⟨g8, 0, none⟩ = some (.int .i64 0) := (blk_cell BK8.out 0).trans rfl
       have c81 : w8.cell? ⟨g8, 1, none⟩ = some (.int .i64 0) := (blk_cell BK8.out 1).trans rfl
       have z80 := blk_frozen BK8.out 0
       have z81 := blk_frozen BK8.out 1)
    | (at_mapUpdate
       refine wpList_mapUpdate_own _ rfl _ _ _ 129 rfl 3 55 intKeyed Tryz.underlying129 _ b2 n2 D2 rfl ((H2.out.setCell (om_ne H2.out BK8.out).symm _).setCell (om_ne H2.out BK8.out).symm _) HN2.out _ _ _ rfl rfl (intKey wn) _ _ (endR_mk a b) ?_
       intro w33 hm hg
       have n1_ := Aside0.mk (((H1.out.setCell (om_ne H1.out BK8.out).symm _).setCell (om_ne H1.out BK8.out).symm _).kept hg (by simpa using HNE.out))
       have n2_ := Aside0.mk hm
       have n3_ := Aside0.mk (((HF.out.set GE8.out).set GE8.out).two hg)
       clear H1 H2 HF BK3 BK4 BK8 c30 c31 c40 c41 c80 c81 z80 z81 hm hg
       have H1 := n1_
       have H2 := n2_
       have HF := n3_
       clear n1_ n2_ n3_))
  first | go_end0 | ((try simp only [Exit.inBlock, Exit.then]); refine bodyPost_ret (results_none rfl _ _ _) rfl ?_)
  exact ⟨rfl, H1.out, H2.out, HF.out⟩
def Tab (w : World) (l : List S55) (b1 b2 : Nat) : Prop := ∃ n1 n2 D1 D2, w.ownsMap Tryz.prog 55 (plainElem Tryz.prog 3) b1 n1 D1 ∧ w.ownsMap Tryz.prog 3 endR b2 n2 D2 ∧ n1 ≤ l.length ∧ n2 ≤ 2 * l.length ∧ Says1 l D1 ∧ Says2 l D2
def Wf (x : S55) : Prop := I64 x.f0 ∧ I64 x.f1
theorem Tab.kept {w w' : World} {l : List S55} {b1 b2 : Nat} (h : Tab w l b1 b2) (hk : ∀ i, i < w.heap.size → i = b1 ∨ i = b2 → w'.heap[i]? = w.heap[i]?) : Tab w' l b1 b2 := by
  obtain ⟨n1, n2, D1, D2, h1, h2, r⟩ := h
  have l1 := h1.lt
  have l2 := h2.lt
  obtain ⟨es, c, q1, q2⟩ := h1
  obtain ⟨es', c', q1', q2'⟩ := h2
  exact ⟨n1, n2, D1, D2, ⟨es, c, (hk b1 l1 (.inl rfl)).trans q1, q2⟩, ⟨es', c', (hk b2 l2 (.inr rfl)).trans q1', q2'⟩, r⟩
theorem Tab.below {w w' : World} {l : List S55} {b1 b2 : Nat} (h : Tab w l b1 b2) (hb : Below w.heap.size w w') : Tab w' l b1 b2 := h.kept fun i hi _ => hb.block i hi
theorem Tab.ne {w : World} {l : List S55} {b1 b2 g : Nat} {cs : Array Value} {t : TypeId} (h : Tab w l b1 b2) (hg : w.heap[g]? = some (.cells cs t (0, 0))) : g ≠ b1 ∧ g ≠ b2 := by
  obtain ⟨n1, n2, D1, D2, h1, h2, r⟩ := h
  exact ⟨om_ne h1 hg, om_ne h2 hg⟩
theorem Tab.set {w : World} {l : List S55} {b1 b2 g j : Nat} {v : Value} {cs : Array Value} {t : TypeId} (h : Tab w l b1 b2) (hg : w.heap[g]? = some (.cells cs t (0, 0))) : Tab (w.setCell ⟨g, j, none⟩ v) l b1 b2 :=
  h.kept fun i _ hi => heap_setCell_other w ⟨g, j, none⟩ i v (fun e => by
    have := h.ne hg
    simp at e
    rcases hi with rfl | rfl
    · exact this.1 e.symm
    · exact this.2 e.symm)
theorem set_tab (b1 b2 : Nat) (l : List S55) (x : S55) (p : Int) (w : World) (hne : b1 ≠ b2) (hx : Wf x) (hl : l.length < 100000000) (hp : p = 500 + l.length) (h : Tab w l b1 b2) :
    Calls Tryz.prog 145 #[.agg #[.map (some b1), .map (some b2)], .agg #[.int .i64 x.f0, .int .i64 x.f1], .int .i64 p] w fun e w' =>
      e = .returned (.tuple #[]) ∧ (∃ n1 n2 D1 D2, w'.ownsMap Tryz.prog 55 (plainElem Tryz.prog 3) b1 n1 D1 ∧ w'.ownsMap Tryz.prog 3 endR b2 n2 D2 ∧ n1 ≤ l.length + 1 ∧ n2 ≤ 2 * l.length + 1 ∧ Says1 (l ++ [x]) D1 ∧ Says2 (l ++ [x]) D2) ∧ Fr w w' b1 b2 := by
  subst hp
  obtain ⟨n1, n2, D1, D2, h1, h2, hn1, hn2, s1, s2⟩ := h
  have wn : I64 (500 + l.length) := (i64_iff _).mpr (by omega)
  have f2 := says2_has s2 (by omega)
  have s2' := says2_put s2 h2.isMap x (by omega)
  cases hf : Maps.has D1 (eK x.f0 x.f1) with
  | true =>
    refine (set_old b1 b2 n1 n2 D1 D2 x.f0 x.f1 _ hx.1 hx.2 wn w hne h1 h2 (by omega) (by omega) hf f2).mono ?_
    rintro e w' ⟨rfl, k1, k2, k3⟩
    exact ⟨rfl, ⟨_, _, _, _, k1, k2, by omega, by omega, says1_old s1 x hx hf, s2'⟩, k3⟩
  | false =>
    refine (set_new b1 b2 n1 n2 D1 D2 x.f0 x.f1 _ hx.1 hx.2 wn w hne h1 h2 (by omega) (by omega) hf f2).mono ?_
    rintro e w' ⟨rfl, k1, k2, k3⟩
    exact ⟨rfl, ⟨_, _, _, _, k1, k2, by omega, by omega, says1_new s1 h1.isMap x hx hf, s2'⟩, k3⟩
theorem mk_event {P : Program} {w : World} {ops : Array Oper} {rest : List Oper} {o : Oper} {a : Act} {Q : Exit → Act → World → Prop} (hgd : o.guard = none) {N : Tmp} (_hd : o.dst = some N) (t : TypeId) (hop : o.op = Op.makeMap t none)
    (h : ∀ g w1, g = w.heap.size → w1.heap[g]? = some (.map #[] 0) → Below w.heap.size w w1 → wpList P ops Q rest (a.put o.dst (.map (some g))) w1) : wpList P ops Q (o :: rest) a w := by
  refine Kd.event_run hgd (v := .map (some w.heap.size)) (w1 := w.alloc (.map #[] 0)) ?_ (h _ _ rfl (heap_alloc_new w _) (below_alloc (Below.refl _ _) _))
  simp [execOp, hop, run_makeMap, Result.andThen]
theorem tab_made {w : World} {b1 b2 : Nat} (h1 : w.heap[b1]? = some (.map #[] 0)) (h2 : w.heap[b2]? = some (.map #[] 0)) : Tab w [] b1 b2 := by
  have q1 : ∀ (k : TypeId) (R : Value → Option (DataW Unit × List MemPlace)) (b : Nat), w.heap[b]? = some (.map #[] 0) → w.ownsMap Tryz.prog k R b 0 (.map []) := by
    intro k R b hb
    obtain ⟨es, c, z1, z2, z3, z4⟩ := World.ownsMap_made (default : World) Tryz.prog k R
    rw [heap_alloc_new] at z1
    injection z1 with z1
    injection z1 with z1 z1'
    subst z1; subst z1'
    exact ⟨_, _, hb, z2, z3, z4⟩
  exact ⟨0, 0, _, _, q1 _ _ _ h1, q1 _ _ _ h2, Nat.le_refl _, Nat.le_refl _, says1_nil, says2_nil⟩
theorem fr_blk {W w' : World} {b1 b2 g : Nat} {o : Obj} (hF : Fr W w' b1 b2) (h : W.heap[g]? = some o) (n : g ≠ b1 ∧ g ≠ b2) : w'.heap[g]? = some o := (hF.block g (blk_lt h) n.1 n.2).trans h
theorem below_fr {w W w' : World} {b1 b2 : Nat} (h : Below w.heap.size w W) (hF : Fr W w' b1 b2) (h1 : w.heap.size ≤ b1) (h2 : w.heap.size ≤ b2) : Below w.heap.size w w' :=
  ⟨hF.os.trans h.os, hF.tape.trans h.tape, hF.output.trans h.output, Nat.le_trans h.size hF.size, fun i hi => (hF.block i (Nat.lt_of_lt_of_le hi h.size) (by omega) (by omega)).trans (h.block i hi)⟩
theorem rd29_get {l : List S55} {i : Nat} (h : i < l.length) : rd_T55 l (i : Int) = l[i] := by
  unfold rd_T55
  simp [List.getD, h]
set_option maxHeartbeats 8000000 in
set_option maxRecDepth 100000 in
theorem portsOf_walk (A : Option Addr) (c : Nat) (l : List S55) (w : World) (hr : Kd.C k55 w A l.length l) (hc : l.length ≤ c) (hl : l.length < 1000000) (hw : ∀ x ∈ l, Wf x) :
    Calls Tryz.prog 133 #[.agg #[.slice A l.length c]] w fun e w' => ∃ b1 b2, e = .returned (.agg #[.map (some b1), .map (some b2)]) ∧ Tab w' l b1 b2 ∧ Below w.heap.size w w' := by
  have HR := Aside0.mk hr
  have HW := Aside0.mk hw
  have HL := Aside0.mk hl
  clear hr hw hl hc
  have HB := Aside0.mk (Below.refl w.heap.size w)
  go_enter Tryz.func133, Tryz.ntmps133
  go_wp2_with (first
    | ((with_reducible refine gate_dst (N := 1) rfl ?_)
       refine box_event ?hg (N := 1) ?hd (cs := #[.slice A l.length c]) (t := 29) ?hr ?_
       (case hd => rfl)
       (case hg => rfl)
       (case hr => first | (go_simp; done) | (go_simp; rfl))
       intro g1 hg w3 hbox hb
       have n1_ := Aside0.mk (below_step (bl HB) hb)
       have G1 := Aside0.mk (show w.heap.size ≤ g1 from by rw [hg]; exact below_size (bl HB))
       have BK1 := Aside0.mk hbox
       clear HB
       have HB := n1_
       clear n1_ hg hbox hb)
    | ((with_reducible refine gate_dst (N := 2) rfl ?_)
       refine box_event ?hg (N := 2) ?hd (cs := #[.map none, .map none]) (t := 131) ?hr ?_
       (case hd => rfl)
       (case hg => rfl)
       (case hr => first | (go_simp; done) | (go_simp; rfl))
       intro g2 hg w4 hbox hb
       have n1_ := Aside0.mk (below_step (bl HB) hb)
       have n2_ := bkB BK1 hb
       have G2 := Aside0.mk (show w.heap.size ≤ g2 from by rw [hg]; exact below_size (bl HB))
       have E12 := Aside0.mk (show g1 ≠ g2 from by rw [hg]; exact Nat.ne_of_lt (bkL BK1))
       have BK2 := Aside0.mk hbox
       clear HB BK1
       have HB := n1_
       have BK1 := n2_
       clear n1_ n2_ hg hbox hb)
    | ((with_reducible refine gate_dst (N := 6) rfl ?_)
       refine mk_event ?hg (N := 6) ?hd _ rfl ?_
       (case hd => rfl)
       (case hg => rfl)
       intro b1 w5 hg hbox hb
       have n1_ := Aside0.mk (below_step (bl HB) hb)
       have n2_ := bkB BK1 hb
       have n3_ := bkB BK2 hb
       have GM1 := Aside0.mk (show w.heap.size ≤ b1 from by rw [hg]; exact below_size (bl HB))
       have MK1 := Aside0.mk hbox
       clear HB BK1 BK2
       have HB := n1_
       have BK1 := n2_
       have BK2 := n3_
       clear n1_ n2_ n3_ hg hbox hb)
    | ((with_reducible refine gate_dst (N := 7) rfl ?_)
       refine mk_event ?hg (N := 7) ?hd _ rfl ?_
       (case hd => rfl)
       (case hg => rfl)
       intro b2 w6 hg hbox hb
       have n1_ := Aside0.mk (below_step (bl HB) hb)
       have n2_ := bkB BK1 hb
       have n3_ := bkB BK2 hb
       have n4_ := bkB MK1 hb
       have GM2 := Aside0.mk (show w.heap.size ≤ b2 from by rw [hg]; exact below_size (bl HB))
       have HNE := Aside0.mk (show b1 ≠ b2 from by rw [hg]; exact Nat.ne_of_lt (bkL MK1))
       have MK2 := Aside0.mk hbox
       clear HB BK1 BK2 MK1
       have HB := n1_
       have BK1 := n2_
       have BK2 := n3_
       have MK1 := n4_
       clear n1_ n2_ n3_ n4_ hg hbox hb)
    | ((with_reducible refine gate_dst (N := 3) rfl ?_)
       refine box_event ?hg (N := 3) ?hd (cs := #[.map none, .map none]) (t := 131) ?hr ?_
       (case hd => rfl)
       (case hg => rfl)
       (case hr => first | (go_simp; done) | (go_simp; rfl))
       intro g3 hg w7 hbox hb
       have n1_ := Aside0.mk (below_step (bl HB) hb)
       have n2_ := bkB BK1 hb
       have n3_ := bkB BK2 hb
       have n4_ := bkB MK1 hb
       have n5_ := bkB MK2 hb
       have G3 := Aside0.mk (show w.heap.size ≤ g3 from by rw [hg]; exact below_size (bl HB))
       have e13 : g1 ≠ g3 := by rw [hg]; exact Nat.ne_of_lt (bkL BK1)
       have e31 := e13.symm
       have E23 := Aside0.mk (show g2 ≠ g3 from by rw [hg]; exact Nat.ne_of_lt (bkL BK2))
       have BK3 := Aside0.mk hbox
       clear HB BK1 BK2 MK1 MK2
       have HB := n1_
       have BK1 := n2_
       have BK2 := n3_
       have MK1 := n4_
       have MK2 := n5_
       clear n1_ n2_ n3_ n4_ n5_ hg hbox hb
       have c10 : w7.cell? ⟨g1, 0, none⟩ = some (.slice A l.length c) := (blk_cell BK1.out 0).trans rfl
       have c30 : w7.cell? ⟨g3, 0, none⟩ = some (.map none) := (blk_cell BK3.out 0).trans rfl
       have c31 : w7.cell? ⟨g3, 1, none⟩ = some (.map none) := (blk_cell BK3.out 1).trans rfl
       have z30 := blk_frozen BK3.out 0
       have z31 := blk_frozen BK3.out 1))
  have n1_ : Aside0 (((w7.setCell ⟨g3, 0, none⟩ (.map (some b1))).setCell ⟨g3, 1, none⟩ (.map (some b2))).heap[g1]? = some (.cells #[.slice A l.length c] 29 (0, 0))) := ⟨blk_far (blk_far BK1.out e13 _) e13 _⟩
  have n2_ : Aside0 (((w7.setCell ⟨g3, 0, none⟩ (.map (some b1))).setCell ⟨g3, 1, none⟩ (.map (some b2))).heap[g2]? = some (.cells #[.map none, .map none] 131 (0, 0))) := ⟨blk_far (blk_far BK2.out E23.out _) E23.out _⟩
  have n3_ : Aside0 (((w7.setCell ⟨g3, 0, none⟩ (.map (some b1))).setCell ⟨g3, 1, none⟩ (.map (some b2))).heap[g3]? = some (.cells #[.map (some b1), .map (some b2)] 131 (0, 0))) := ⟨by
    have z := blk_set (blk_set BK3.out 0 (.map (some b1))) 1 (.map (some b2))
    simpa using z⟩
  have n4_ : Aside0 (Tab ((w7.setCell ⟨g3, 0, none⟩ (.map (some b1))).setCell ⟨g3, 1, none⟩ (.map (some b2))) (l.take 0) b1 b2) := ⟨by
    have z := (tab_made MK1.out MK2.out).set (j := 0) (v := .map (some b1)) BK3.out
    exact z.set (j := 1) (v := .map (some b2)) (blk_set BK3.out 0 (.map (some b1)))⟩
  have n5_ : Aside0 (Below w.heap.size w ((w7.setCell ⟨g3, 0, none⟩ (.map (some b1))).setCell ⟨g3, 1, none⟩ (.map (some b2)))) := ⟨below_set (below_set HB.out G3.out) G3.out⟩
  clear c10 c30 c31 z30 z31 BK1 BK2 BK3 MK1 MK2 HB
  generalize (w7.setCell ⟨g3, 0, none⟩ (.map (some b1))).setCell ⟨g3, 1, none⟩ (.map (some b2)) = w8 at n1_ n2_ n3_ n4_ n5_ ⊢
  go_loopg [12] l.length (fun kq v12 w' => ∃ (x : Int) (m : Nat), v12 = .int .i64 x ∧ Aside0 (x = m) ∧ Aside0 (m + kq = l.length) ∧ Aside0 (w'.heap[g1]? = some (.cells #[.slice A l.length c] 29 (0, 0))) ∧ Aside0 (w'.heap[g2]? = some (.cells #[.map none, .map none] 131 (0, 0))) ∧ Aside0 (w'.heap[g3]? = some (.cells #[.map (some b1), .map (some b2)] 131 (0, 0))) ∧ Aside0 (Tab w' (l.take m) b1 b2) ∧ Aside0 (Below w.heap.size w w'))
  case atStart => exact ⟨0, 0, (by first | rfl | (simp; done)), ⟨rfl⟩, ⟨by omega⟩, n1_, n2_, n3_, n4_, n5_⟩
  case round =>
    clear n1_ n2_ n3_ n4_ n5_
    obtain ⟨x, m, rfl, HX, HM, BK1, BK2, BK3, HT, HB⟩ := hrel
    cases gk with
    | zero =>
      have hm : m = l.length := by have := HM.out; omega
      have HE := Aside0.mk hm
      have c0 : decide (x < (l.length : Int)) = false := by have := HX.out; simp; omega
      clear hm
      have c30 : wr.cell? ⟨g3, 0, none⟩ = some (.map (some b1)) := (blk_cell BK3.out 0).trans rfl
      have c31 : wr.cell? ⟨g3, 1, none⟩ = some (.map (some b2)) := (blk_cell BK3.out 1).trans rfl
      have c20 : wr.cell? ⟨g2, 0, none⟩ = some (.map none) := (blk_cell BK2.out 0).trans rfl
      have c21 : wr.cell? ⟨g2, 1, none⟩ = some (.map none) := (blk_cell BK2.out 1).trans rfl
      have z20 := blk_frozen BK2.out 0
      have z21 := blk_frozen BK2.out 1
      go_wp2
      refine bodyPost_ret (results_cell_row rfl _ _ g2 131 #[.map (some b1), .map (some b2)] (0, 0) _ rfl (by (with_reducible repeat refine bu ?_); refine blk_put (cs := #[.map (some b1), .map none]) ?_ 1 _ rfl; (with_reducible repeat refine bu ?_); refine blk_put (cs := #[.map none, .map none]) ?_ 0 _ rfl; (with_reducible repeat refine bu ?_); exact BK2.out) Tryz.underlying131 rfl (by kernel_rfl)) rfl ?_
      refine ⟨b1, b2, rfl, ?_, below_set (below_set HB.out G2.out) G2.out⟩
      have z := HT.out
      rw [HE.out, List.take_length] at z
      exact (z.set BK2.out).set (blk_set BK2.out 0 (.map (some b1)))
    | succ k1 =>
      have hm : m < l.length := by have := HM.out; omega
      have hx0 : (0 : Int) ≤ x := by have := HX.out; omega
      have hx1 : x < (l.length : Int) := by have := HX.out; omega
      have c0 : decide (x < (l.length : Int)) = true := decide_eq_true hx1
      obtain ⟨ad, e_, hc0, hc1⟩ := at_T55 (Kd.C_below HR.out HB.out) x hx0 hx1
      cases e_
      have WX := Aside0.mk (show Wf (rd_T55 l x) from by rw [HX.out, rd29_get hm]; exact HW.out _ (List.getElem_mem hm))
      have HTK := Aside0.mk (show l.take (m + 1) = l.take m ++ [rd_T55 l x] from by rw [HX.out, rd29_get hm]; exact List.take_succ_eq_append_getElem hm)
      have MM := Aside0.mk hm
      obtain ⟨p, hp⟩ : ∃ p : Int, p = 500 + ((l.take m).length : Int) := ⟨_, rfl⟩
      have hpw : IntKind.i64.wrap (500 + x) = p := by
        have := HX.out
        have hl' := HL.out
        rw [i64_w, hp, List.length_take]
        unfold wrap64
        omega
      have HP := Aside0.mk hp
      have HLT := Aside0.mk (show (l.take m).length < 100000000 from by have := HL.out; rw [List.length_take]; omega)
      clear hp hm
      replace hx0 := eq_true hx0
      replace hx1 := eq_true hx1
      go_wp2_with (first
        | ((with_reducible refine gate_dst (N := 5) rfl ?_)
           refine box_event ?hg (N := 5) ?hd (cs := #[.int .i64 0, .int .i64 0]) (t := 55) ?hr ?_
           (case hd => rfl)
           (case hg => rfl)
           (case hr => first | (go_simp; done) | (go_simp; rfl))
           intro g5 hg w9 hbox hb
           have n1_ := Aside0.mk (below_step (bl HB) hb)
           have n2_ := bkB BK1 hb
           have n3_ := bkB BK2 hb
           have n4_ := bkB BK3 hb
           have n5_ := Aside0.mk (Tab.below HT.out (w' := w9) hb)
           have G5 := Aside0.mk (show w.heap.size ≤ g5 from by rw [hg]; exact below_size (bl HB))
           have e15 : g1 ≠ g5 := by rw [hg]; exact Nat.ne_of_lt (bkL BK1)
           have e25 : g2 ≠ g5 := by rw [hg]; exact Nat.ne_of_lt (bkL BK2)
           have e35 : g3 ≠ g5 := by rw [hg]; exact Nat.ne_of_lt (bkL BK3)
           have e53 := e35.symm
           have BK5 := Aside0.mk hbox
           clear HB BK1 BK2 BK3 HT
           have HB := n1_
           have BK1 := n2_
           have BK2 := n3_
           have BK3 := n4_
           have HT := n5_
           clear n1_ n2_ n3_ n4_ n5_ hg hbox hb
           have c30 : w9.cell? ⟨g3, 0, none⟩ = some (.map (some b1)) := (blk_cell BK3.out 0).trans rfl
           have c31 : w9.cell? ⟨g3, 1, none⟩ = some (.map (some b2)) := (blk_cell BK3.out 1).trans rfl
           have c50 : w9.cell? ⟨g5, 0, none⟩ = some (.int .i64 0) := (blk_cell BK5.out 0).trans rfl
           have c51 : w9.cell? ⟨g5, 1, none⟩ = some (.int .i64 0) := (blk_cell BK5.out 1).trans rfl
           have z50 := blk_frozen BK5.out 0
           have z51 := blk_frozen BK5.out 1)
        | ((with_reducible refine gate_callee (f := 145) rfl ?_)
           refine goesL_ _ rfl rfl Tryz.func145 (by kernel_rfl) rfl #[.agg #[.map (some b1), .map (some b2)], .agg #[.int .i64 ((rd_T55 l x).f0), .int .i64 ((rd_T55 l x).f1)], .int .i64 p] rfl (by (try simp only [List.map_toArray, List.map_cons, List.map_nil]); first | done | rfl) ?_
           (with_reducible refine (set_tab b1 b2 (l.take m) (rd_T55 l x) p _ HNE.out WX.out HLT.out HP.out ?side).mono ?_)
           (case side => exact (HT.out.set BK5.out).set (blk_set BK5.out 0 (.int .i64 ((rd_T55 l x).f0))))
           rintro e w10 ⟨rfl, hT, hF⟩
           refine ⟨_, rfl, ?_⟩
           have n1_ := Aside0.mk (fr_blk hF (blk_far (blk_far BK1.out e15 _) e15 _) (HT.out.ne BK1.out))
           have n2_ := Aside0.mk (fr_blk hF (blk_far (blk_far BK2.out e25 _) e25 _) (HT.out.ne BK2.out))
           have n3_ := Aside0.mk (fr_blk hF (blk_far (blk_far BK3.out e35 _) e35 _) (HT.out.ne BK3.out))
           have n5_ : Aside0 (w10.heap[g5]? = some (.cells #[.int .i64 ((rd_T55 l x).f0), .int .i64 ((rd_T55 l x).f1)] 55 (0, 0))) := ⟨fr_blk hF (by
             have z := blk_set (blk_set BK5.out 0 (.int .i64 ((rd_T55 l x).f0))) 1 (.int .i64 ((rd_T55 l x).f1))
             simpa using z) (HT.out.ne BK5.out)⟩
           have n6_ := Aside0.mk (below_fr (below_set (below_set HB.out G5.out) G5.out) hF GM1.out GM2.out)
           have HT2 := Aside0.mk hT
           clear HT HB BK1 BK2 BK3 BK5 c30 c31 c50 c51 z50 z51 hT hF
           have BK1 := n1_
           have BK2 := n2_
           have BK3 := n3_
           have BK5 := n5_
           have HB := n6_
           clear n1_ n2_ n3_ n5_ n6_
           have c30 : w10.cell? ⟨g3, 0, none⟩ = some (.map (some b1)) := (blk_cell BK3.out 0).trans rfl
           have c31 : w10.cell? ⟨g3, 1, none⟩ = some (.map (some b2)) := (blk_cell BK3.out 1).trans rfl
           have c50 : w10.cell? ⟨g5, 0, none⟩ = some (.int .i64 ((rd_T55 l x).f0)) := (blk_cell BK5.out 0).trans rfl
           have c51 : w10.cell? ⟨g5, 1, none⟩ = some (.int .i64 ((rd_T55 l x).f1)) := (blk_cell BK5.out 1).trans rfl
           obtain ⟨n1, n2, D1, D2, h1, h2, hn1, hn2, s1, s2⟩ := HT2.out
           clear HT2
           have M1 := Aside0.mk h1
           have M2 := Aside0.mk h2
           have N1 := Aside0.mk hn1
           have N2 := Aside0.mk hn2
           have S1 := Aside0.mk s1
           have S2 := Aside0.mk s2
           clear h1 h2 hn1 hn2 s1 s2)
        | (at_mapUpdate
           refine wpList_mapUpdate_own _ rfl _ _ _ 129 rfl 3 55 intKeyed Tryz.underlying129 _ b2 n2 D2 rfl M2.out (by have := N2.out; have := HLT.out; simp only [maxLen]; omega) _ _ _ rfl rfl (intKey ((i64_iff _).mpr (by have := HP.out; have := HLT.out; omega))) _ _ (endR_mk _ _) ?_
           intro w33 hm hg
           have F : Fr w10 w33 b1 b2 := Fr.two (Fr.refl _ _ _) hg
           have TN : ∀ {g : Nat} {cs : Array Value} {t : TypeId}, w10.heap[g]? = some (.cells cs t (0, 0)) → g ≠ b1 ∧ g ≠ b2 := fun hg => ⟨om_ne M1.out hg, om_ne M2.out hg⟩
           have n1_ := Aside0.mk (fr_blk F BK1.out (TN BK1.out))
           have n2_ := Aside0.mk (fr_blk F BK2.out (TN BK2.out))
           have n3_ := Aside0.mk (fr_blk F BK3.out (TN BK3.out))
           have n6_ := Aside0.mk (below_fr HB.out F GM1.out GM2.out)
           have n7_ : Aside0 (Tab w33 (l.take (m + 1)) b1 b2) := ⟨by
             rw [HTK.out]
             refine ⟨n1, n2 + 1, D1, _, M1.out.kept hg (by simpa using HNE.out), hm, by have := N1.out; simp only [List.length_append, List.length_cons, List.length_nil]; omega, by have := N2.out; simp only [List.length_append, List.length_cons, List.length_nil]; omega, S1.out, ?_⟩
             rw [HP.out]
             exact says2_again S2.out M2.out.isMap (by have := HLT.out; omega)⟩
           clear HB BK1 BK2 BK3 BK5 c30 c31 c50 c51 M1 M2 N1 N2 S1 S2 hm hg F TN
           have BK1 := n1_
           have BK2 := n2_
           have BK3 := n3_
           have HB := n6_
           have HT := n7_
           clear n1_ n2_ n3_ n6_ n7_))
      go_roundg k1
      case measure => omega
      case rel => exact ⟨x + 1, m + 1, (by
        have := HX.out
        have := HL.out
        have := MM.out
        have e : wrap64 (x + 1) = x + 1 := by unfold wrap64; omega
        simp only [i64_w, e]), ⟨by have := HX.out; push_cast; omega⟩, ⟨by have := HM.out; omega⟩, BK1, BK2, BK3, HT, HB⟩
def wfB (n : Int) : Bool := (Lit.int .i64 n).wf
def wfE (x : S55) : Bool := wfB x.f0 && wfB x.f1
def portV (l : List S55) (a b : Int) : Int := match fnd l a b with | none => 0 | some i => 500 + i
def impl_MapPort.f (l : List S55) (a b : Int) : Option Int := if l.length < 1000000 ∧ l.all wfE = true ∧ wfB a = true ∧ wfB b = true then some (portV l a b) else none
theorem wf_all {l : List S55} (h : l.all wfE = true) : ∀ x ∈ l, Wf x := by
  intro x hx
  have := List.all_eq_true.mp h x hx
  simp only [wfE, wfB, Bool.and_eq_true] at this
  exact this
theorem field0 (b1 b2 : Nat) (w : World) : (Instr.field 131 (.agg #[.map (some b1), .map (some b2)]) 0).run Tryz.prog w = .ok (.map (some b1)) w := by kernel_rfl
set_option maxHeartbeats 8000000 in
set_option maxRecDepth 100000 in
theorem impl_MapPort.calls (A0_0 : Option Addr) (c0_0 : Nat) (l0_0 : List (S55)) (a1_0 : Int) (a1_1 : Int) (r : Int) (w : World) (hr0_0 : Kd.C k55 w A0_0 l0_0.length l0_0) (hc0_0 : l0_0.length ≤ c0_0) (h : impl_MapPort.f l0_0 a1_0 a1_1 = some r) :
    Calls Tryz.prog 120 #[.agg #[.slice A0_0 l0_0.length c0_0], .agg #[.int .i64 a1_0, .int .i64 a1_1]] w fun e w' => e = .returned (.int .i64 r) ∧ Below w.heap.size w w' := by
  unfold impl_MapPort.f at h
  by_cases hq : l0_0.length < 1000000 ∧ l0_0.all wfE = true ∧ wfB a1_0 = true ∧ wfB a1_1 = true
  · rw [if_pos hq] at h
    have HP := Aside0.mk (Option.some.inj h)
    have HQ := Aside0.mk hq
    have HR := Aside0.mk hr0_0
    have HC := Aside0.mk hc0_0
    clear h hq hr0_0 hc0_0
    have HB := Aside0.mk (Below.refl w.heap.size w)
    have hu1 := Tryz.underlying131
    have hu2 := Tryz.underlying29
    have hu3 := Tryz.underlying55
    go_enter Tryz.func120, Tryz.ntmps120
    go_upto_region 1 with (first
      | ((with_reducible refine gate_dst (N := 2) rfl ?_)
         refine box_event ?hg (N := 2) ?hd (cs := #[.slice A0_0 l0_0.length c0_0]) (t := 29) ?hr ?_
         (case hd => rfl)
         (case hg => rfl)
         (case hr => first | (go_simp; done) | (go_simp; rfl))
         intro g2 hg w3 hbox hb
         have n1_ := Aside0.mk (below_step (bl HB) hb)
         have BK2 := Aside0.mk hbox
         clear HB
         have HB := n1_
         clear n1_ hg hbox hb)
      | ((with_reducible refine gate_dst (N := 3) rfl ?_)
         refine box_event ?hg (N := 3) ?hd (cs := #[.int .i64 a1_0, .int .i64 a1_1]) (t := 55) ?hr ?_
         (case hd => rfl)
         (case hg => rfl)
         (case hr => first | (go_simp; done) | (go_simp; rfl))
         intro g3 hg w4 hbox hb
         have n1_ := Aside0.mk (below_step (bl HB) hb)
         have n2_ := bkB BK2 hb
         have BK3 := Aside0.mk hbox
         clear HB BK2
         have HB := n1_
         have BK2 := n2_
         clear n1_ n2_ hg hbox hb))
    (try simp only [Act.put, List.setIfInBounds_toArray, List.set_cons_zero, List.set_cons_succ])
    have n1_ := Aside0.mk (blk_drew BK2.out)
    have n2_ := Aside0.mk (blk_drew BK3.out)
    have n3_ := Aside0.mk (below_drew1 HB.out)
    clear BK2 BK3 HB
    have BK2 := n1_
    have BK3 := n2_
    have HB := n3_
    clear n1_ n2_ n3_
    refine start_ (n := 6) (S := fun w' => w'.cell? ⟨g2, 0, none⟩ = some (.slice A0_0 l0_0.length c0_0) ∧ w'.cell? ⟨g3, 0, none⟩ = some (.int .i64 a1_0) ∧ w'.cell? ⟨g3, 1, none⟩ = some (.int .i64 a1_1)) (ds := []) #[false, false, false, false, false, false] (by kernel_rfl) rfl rfl ⟨(blk_cell BK2.out 0).trans rfl, (blk_cell BK3.out 0).trans rfl, (blk_cell BK3.out 1).trans rfl⟩ (fun hHeld => ?_)
    generalize w4.drew = w5 at BK2 BK3 HB hHeld ⊢
    refine take_ (i := 0) (N := some 5) (v := ?_) (a' := ?_) #[true, false, false, false, false, false] rfl rfl (by kernel_rfl) (fun _ _ _ h => h) (Or.inl ⟨by rfl, ?_⟩) hHeld ?_ ?_
    rotate_left
    · rintro w' ⟨s0, s1, s2⟩
      go_simp
      with_reducible rfl
    rotate_left
    · simp only [Act.put, List.setIfInBounds_toArray, List.set_cons_zero, List.set_cons_succ, i64_w, i32_w]
      rfl
    refine take_ (i := 3) (N := some 8) (v := ?_) (a' := ?_) #[true, false, false, true, false, false] rfl rfl (by kernel_rfl) (fun _ _ _ h => h) (Or.inl ⟨by rfl, ?_⟩) hHeld ?_ ?_
    rotate_left
    · rintro w' ⟨s0, s1, s2⟩
      go_simp
      with_reducible rfl
    rotate_left
    · simp only [Act.put, List.setIfInBounds_toArray, List.set_cons_zero, List.set_cons_succ, i64_w, i32_w]
      rfl
    refine one_ (i := 1) (N := some 6) #[true, true, false, true, false, false] rfl rfl (by kernel_rfl) (by decide) (fun K hK => ?_)
    refine goes_ Tryz.func133 (by kernel_rfl) rfl #[.agg #[.slice A0_0 l0_0.length c0_0]] (by rfl) rfl rfl (by (try simp only [List.map_toArray, List.map_cons, List.map_nil]); first | done | rfl) ?_
    with_reducible refine (portsOf_walk A0_0 c0_0 l0_0 _ (Kd.C_below HR.out HB.out) HC.out HQ.out.1 (wf_all HQ.out.2.1)).mono ?_
    rintro e w6 ⟨b1, b2, rfl, hT, hb⟩
    refine ⟨_, rfl, ?_⟩
    have n1_ := bkB BK2 hb
    have n2_ := bkB BK3 hb
    have n3_ := Aside0.mk (below_step HB.out hb)
    clear BK2 BK3 HB
    have BK2 := n1_
    have BK3 := n2_
    have HB := n3_
    have HT := Aside0.mk hT
    clear n1_ n2_ n3_ hT hb
    refine hK.out _ _ ⟨(blk_cell BK2.out 0).trans rfl, (blk_cell BK3.out 0).trans rfl, (blk_cell BK3.out 1).trans rfl⟩ (fun hHeld => ?_)
    clear hK K
    refine norm_ (a' := ?_) ?_ ?_
    rotate_left
    · show Act.put _ (some 6) _ = _
      simp only [Act.put, List.setIfInBounds_toArray, List.set_cons_zero, List.set_cons_succ, i64_w, i32_w]
      rfl
    refine pure_ (i := 2) (N := some 7) (v := ?_) (a' := ?_) #[true, true, true, true, false, false] rfl rfl (by kernel_rfl) (fun _ _ _ h => h) (Or.inl ⟨by rfl, ?_⟩) ?_ ?_
    rotate_left
    · intro w'
      have hf := field0 b1 b2
      go_simp
      with_reducible rfl
    rotate_left
    · simp only [Act.put, List.setIfInBounds_toArray, List.set_cons_zero, List.set_cons_succ, i64_w, i32_w]
      rfl
    refine one_ (i := 4) (N := some 9) #[true, true, true, true, true, false] rfl rfl (by kernel_rfl) (by decide) (fun K hK => ?_)
    obtain ⟨n1, n2, D1, D2, h1, h2, _, _, s1, s2⟩ := HT.out
    obtain ⟨c, hrun, hat, hwc⟩ := h1.lookup_int endKeyed Tryz.underlying128 Tryz.underlying3 (zero3 _) (endKey HQ.out.2.2.1 HQ.out.2.2.2)
    have hc : c = r := by
      rw [s1 _ _ HQ.out.2.2.1 HQ.out.2.2.2] at hat
      rw [← HP.out]
      unfold portV
      cases hf : fnd l0_0 a1_0 a1_1 <;> rw [hf] at hat <;> simp at hat <;> simp [hat]
    subst hc
    rw [if_pos (by rfl)]
    unfold Oper.wp
    simp [execOp, Act.eval, hrun, Result.andThen]
    refine hK.out _ _ ⟨(blk_cell BK2.out 0).trans rfl, (blk_cell BK3.out 0).trans rfl, (blk_cell BK3.out 1).trans rfl⟩ (fun hHeld => ?_)
    clear hK K
    refine norm_ (a' := ?_) ?_ ?_
    rotate_left
    · show Act.put _ (some 9) _ = _
      simp only [Act.put, List.setIfInBounds_toArray, List.set_cons_zero, List.set_cons_succ, i64_w, i32_w]
      rfl
    refine pure_ (i := 5) (N := some 4) (v := ?_) (a' := ?_) #[true, true, true, true, true, true] rfl rfl (by kernel_rfl) (fun _ _ _ h => h) (Or.inl ⟨by rfl, ?_⟩) ?_ ?_
    rotate_left
    · intro w'
      go_simp
      with_reducible rfl
    rotate_left
    · simp only [Act.put, List.setIfInBounds_toArray, List.set_cons_zero, List.set_cons_succ, i64_w, i32_w]
      rfl
    refine done_ (by kernel_rfl) ?_
    go_wp2
    go_ret
    exact ⟨rfl, HB.out⟩
  · rw [if_neg hq] at h
    cases h
theorem R_clip {α : Type} {d : Kd α} {e n c : Nat} {w : World} {base : Nat} {ok : Nat → Prop} {A : Option Addr} {xs : List α} (h : d.R e w base ok (.slice A n c) xs) : d.R e w base ok (.slice A n n) xs := by
  obtain ⟨h0, inner, ho, hr⟩ := h
  have hb : ∀ x y : Nat, (Value.slice A x x).ownBlock = (Value.slice A n c).ownBlock := by intro x y; cases A <;> rfl
  have hn : n = xs.length := by
    obtain ⟨A', c', he⟩ := own_slice ho
    injection he
  refine ⟨fun k hk => h0 k (by rw [← hb n n]; exact hk), inner, ?_, by rw [hb n n]; exact hr⟩
  obtain ⟨hl, h2⟩ := ho
  refine ⟨hl, ?_⟩
  rcases h2 with ⟨hv, hx⟩ | ⟨g, cap, cur, hv, hbg, hh, hnc, hcm, hcs, ht⟩
  · injection hv with h1 h2 h3
    subst h1; subst h2
    exact .inl ⟨rfl, hx⟩
  · injection hv with h1 h2 h3
    subst h1; subst h2; subst h3
    exact .inr ⟨g, xs.length, cur, rfl, hbg, hh, Nat.le_refl _, Nat.le_trans hnc hcm, Nat.le_trans (Nat.mul_le_mul_right _ hnc) hcs, ht⟩
set_option maxHeartbeats 8000000 in
set_option maxRecDepth 100000 in
theorem clip_end (A : Option Addr) (n c : Nat) (h : n ≤ c) (w : World) : Calls Tryz.prog 102 #[.slice A n c] w fun e w' => ∃ v, e = .returned v ∧ v = .slice A n n ∧ w' = w := by
  go_enter Tryz.func102, Tryz.ntmps102
  go_wp2
  go_ret
  exact ⟨_, rfl, rfl, rfl⟩
set_option maxHeartbeats 8000000 in
set_option maxRecDepth 100000 in
theorem clone_end (A : Option Addr) (c : Nat) (l : List S55) (w : World) (hr : Kd.C k55 w A l.length l) (hc : l.length ≤ c) (hl : l.length < 1000000000000) :
    Calls Tryz.prog 103 #[.slice A l.length c] w fun e w' => ∃ v, e = .returned v ∧ Kd.R k55 55 w' w.heap.size (fun _ => True) v l ∧ Below w.heap.size w w' := by
  have HR := Aside0.mk hr
  have HL := Aside0.mk hl
  clear hl
  have HB := Aside0.mk (Below.refl w.heap.size w)
  cases A with
  | none =>
    have h0 : l.length = 0 := by
      rcases Nat.eq_zero_or_pos l.length with h | h
      · exact h
      · obtain ⟨x, hx, _⟩ := hr.2.2 h
        cases hx
    have hnil := Aside0.mk (List.eq_nil_of_length_eq_zero h0)
    clear hr h0
    have hq := fun w' : World => Lib.run_eql_slice_nil (P := Tryz.prog) w' 27 55 none l.length c 0 0 Tryz.underlying27
    go_enter Tryz.func103, Tryz.ntmps103
    go_wp2
    go_ret
    exact ⟨_, rfl, by rw [hnil.out]; exact Kd.R_nil _ _ _ _ _, HB.out⟩
  | some ad =>
    clear hr
    have hq := fun w' : World => Lib.run_eql_slice_nil (P := Tryz.prog) w' 27 55 (some ad) l.length c 0 0 Tryz.underlying27
    go_enter Tryz.func103, Tryz.ntmps103
    go_wp2_with (first
      | ((with_reducible refine gate_dst (N := 5) rfl ?_)
         refine Kd.R_lit k55 _ 55 ?hg (N := 5) ?hd (xs := ([] : List (S55))) (inner := []) (ok := fun _ => True) (okp := fun _ => True) ?hr ?hp (fun _ hk => hk) trivial (Below.refl _ _) (Nat.le_refl _) (by simp) ?_
         (case hd => rfl)
         (case hg => rfl)
         (case hr => first | (go_simp; done) | (go_simp; rfl))
         (case hp => exact (Reps.none _ _))
         intro v5 w5 ho5 hb hg_ hnew_
         clear hg_ hnew_
         have HO := Aside0.mk (Kd.R_lower ho5 (below_size (bl HB)))
         have n3_ := Aside0.mk (below_step (bl HB) hb)
         clear HB
         have HB := n3_
         clear n3_ hb ho5)
      | ((with_reducible refine gate_builtin (b := .append) (xs := #[.tmp 5, .tmp 6]) rfl ?_)
         at_builtin
         refine Kd.R_append_rows k55 (w0 := w) w.heap.size rfl (.tmp 5) (.tmp 6) 27 55 (.agg #[(.int .i64 0), (.int .i64 0)]) 16 rfl Tryz.underlying27 info55 rfl (by decide) (by omega) v5 [] l _ _ _ (fun _ => True) (fun _ => False) rfl rfl ?aO ?aR (fun _ _ h => h) (fun _ h => h.elim) ?aF ?aB ?aS ?aL ?_
         (case aR => repeat (first | exact (Kd.C_below HR.out HB.out) | (with_reducible refine Kd.C_alloc ?_ _) | (with_reducible refine Kd.C_drewN ?_ _) | (with_reducible refine Kd.C_drew ?_)))
         (case aB => exact (bl HB))
         (case aF => exact (fun _ _ => trivial))
         (case aO => exact (rs HO))
         (case aS => exact (below_size (bl HB)))
         (case aL => have := HL.out; simp only [List.length_nil]; omega)
         intro v7 w7 ho hb hg hat
         have n2_ := Aside0.mk hb
         clear HB HO
         have HB := n2_
         have HO := Aside0.mk ho
         clear n2_ ho hb hg hat))
    go_ret
    exact ⟨_, rfl, HO.out, HB.out⟩
def impl_EndPoint_103.f (l : List S55) : Option (List S55) := if l.length < 1000000000000 then some l else none
theorem impl_EndPoint_103.calls (A0 : Option Addr) (c0 : Nat) (l0 : List (S55)) (r : List (S55)) (w : World) (hr0 : Kd.C k55 w A0 l0.length l0) (hc0 : l0.length ≤ c0) (h : impl_EndPoint_103.f l0 = some r) :
    Calls Tryz.prog 103 #[.slice A0 l0.length c0] w fun e w' => ∃ v0_ : Value, e = .returned (v0_) ∧ Kd.R k55 55 w' w.heap.size (fun _ => True) v0_ r ∧ Below w.heap.size w w' := by
  unfold impl_EndPoint_103.f at h
  by_cases hl : l0.length < 1000000000000
  · rw [if_pos hl] at h
    obtain rfl := Option.some.inj h
    exact clone_end A0 c0 l0 w hr0 hc0 hl
  · rw [if_neg hl] at h
    cases h
def impl_EndPoint_102.f (l : List S55) : Option (List S55 × List S55) := some (l, [])
theorem bkW {w W w' : World} {g : Nat} {o : Obj} (b : Aside0 (w.heap[g]? = some o)) (hw : w' = W) (s : w.heap[g]? = some o → W.heap[g]? = some o := by intro h; (with_reducible repeat refine bu ?_); exact h) : Aside0 (w'.heap[g]? = some o) := ⟨by rw [hw]; exact s b.out⟩
theorem blW {w W W' w' : World} {n : Nat} (b : Aside0 (Below n w W)) (hw : w' = W') (s : Below n w W → Below n w W' := by intro h; repeat (first | (with_reducible first | exact h | apply below_alloc | apply pw_below_drewN | apply below_drew1 | refine below_set ?_ (Aside0.out (by with_reducible assumption))) | exact h)) : Aside0 (Below n w w') := ⟨by rw [hw]; exact s b.out⟩
theorem clipNil {α : Type} {d : Kd α} {e : Nat} {w : World} {base : Nat} {ok : Nat → Prop} {u : Value} {xs r1 r2 : List α} (h : Aside0 (Kd.R d e w base ok u xs)) (w' : World) (hf : some (xs, ([] : List α)) = some (r1, r2)) : Aside0 (Kd.R d e w' base ok (.slice none 0 0) r2) := by
  injection hf with hf
  injection hf with _ h2
  subst h2
  exact ⟨Kd.R_nil _ _ _ _ _⟩
theorem clipR {α : Type} {d : Kd α} {e n c : Nat} {w W w' : World} {base : Nat} {ok ok' : Nat → Prop} {A : Option Addr} {v : Value} {xs r1 r2 : List α} (h : Aside0 (Kd.R d e w base ok (.slice A n c) xs)) (hv : v = .slice A n n) (hw : w' = W) (hf : some (xs, ([] : List α)) = some (r1, r2)) (hok : ∀ k, ok k → ok' k)
    (s : Kd.R d e w base ok (.slice A n c) xs → Kd.R d e W base ok (.slice A n c) xs := by intro h; (with_reducible repeat apply ru); exact h) : Aside0 (Kd.R d e w' base ok' v r1) := by
  injection hf with hf
  injection hf with h1 _
  subst h1
  subst hv
  subst hw
  exact ⟨Kd.R_mono (R_clip (s h.out)) hok⟩
section
attribute [local go_sem] max2_int min2_int max_two min_two max_three min_three max_four min_four
def impl_MapTab_copied.f (l0_0 : List (S55)) : Option ((List (S55))):=(impl_EndPoint_103.f l0_0).bind fun t313=>((impl_EndPoint_102.f t313).bind fun bt316=>(some bt316.1))
set_option maxHeartbeats 8000000 in
set_option maxRecDepth 100000 in
theorem impl_MapTab_copied.calls (A0_0 : Option Addr) (c0_0 : Nat) (l0_0 : List (S55)) (r : List (S55)) (w : World) (hr0_0 : Kd.C k55 w A0_0 l0_0.length l0_0) (hc0_0 : l0_0.length ≤ c0_0) (h : impl_MapTab_copied.f l0_0 = some r) :
  Calls Tryz.prog 82 #[.agg #[.slice A0_0 l0_0.length c0_0]] w fun e w'=>∃ v0_ : Value,e = .returned (.agg #[v0_]) ∧ Kd.R k55 55 w' w.heap.size (fun _=>True) v0_ r ∧ Below w.heap.size w w':=by
 have hu29:=Tryz.underlying29
 have HR0_0:=am hr0_0
 have HC0_0:=am hc0_0
 clear hr0_0 hc0_0
 have HB:=am (Below.refl w.heap.size w)
 have H : ((impl_EndPoint_103.f l0_0).bind fun t313=>((impl_EndPoint_102.f t313).bind fun bt316=>(some bt316.1))) = some r:=h
 clear h
 obtain ⟨t313,A2,H⟩:=bse H
 try dsimp only at H
 obtain ⟨⟨t316,t319⟩,A3,H⟩:=bse H
 try dsimp only at H
 obtain rfl:=Option.some.inj H
 go_enter Tryz.func82,Tryz.ntmps82
 go_wp2_with (first | ((with_reducible refine gD 1 rfl ?_);refine box_event rfl (N:=1) rfl (cs:=#[.slice A0_0 l0_0.length c0_0]) (t:=29) hr_ ?_;intro gb311 hg w4 hbox hb;have BK311:=am hbox;have GW311:=gwE HB hg;have GE311:=gwE HB hg;replace HB:=hbS HB hb;clear hb hbox hg) | ((with_reducible refine gD 2 rfl ?_);refine box_event rfl (N:=2) rfl (cs:=#[.slice none 0 0]) (t:=29) hr_ ?_;intro gb312 hg w5 hbox hb;have BK312:=am hbox;have GW312:=gwE HB hg;have GE312:=gwE HB hg;replace HB:=hbS HB hb;have NB311_312:=neL BK311 hg;have NB312_311:=neG BK311 hg;replace BK311:=bkB BK311 hb;clear hb hbox hg;have:=NB311_312.out;have:=NB312_311.out;have:=bcell BK311 0;have:=bfz BK311 0) | ((with_reducible refine gC 103 rfl ?_);refine gL (some 5) Tryz.func103 #[.slice A0_0 l0_0.length c0_0] ?_;(with_reducible refine (impl_EndPoint_103.calls _ _ l0_0 t313 _ ?side1 ?side2 A2.out).mono ?_);(case side1=>exact m3_);(case side2=>exact HC0_0.out);rintro e w8 ⟨v314,rfl,ho0,hb⟩;refine ⟨_,rfl,?_⟩;have HO315:=am (Kd.R_lower ho0 (below_size (bl HB)));replace BK311:=bkB BK311 hb;replace BK312:=bkB BK312 hb;replace HB:=hbS HB hb;(try clear hb);(try clear ho0);obtain ⟨Ao9,co9,eo9⟩:=Kd.R_slice HO315.out;subst eo9) | ((with_reducible refine gC 102 rfl ?_);refine gL (some 6) Tryz.func102 #[.slice Ao9 t313.length co9] ?_;(with_reducible refine (clip_end Ao9 t313.length co9 (Kd.R_reads' HO315.out).2.1 _).mono ?_);rintro e w10 ⟨v317,rfl,hv_,hw_⟩;refine ⟨_,rfl,?_⟩;replace BK311:=bkW BK311 hw_;replace BK312:=bkW BK312 hw_;have HO318:=clipR (ok':=fun k_=>some k_ ≠ (.slice none 0 0 : Value).ownBlock) HO315 hv_ hw_ A3.out (fun k_ hk_=>by first | exact ⟨by simp [Value.ownBlock],hk_⟩ | (simp [Value.ownBlock];done) | exact hk_);replace HO315:=clipNil HO315 w10 A3.out;replace HB:=blW HB hw_;clear hv_ hw_;obtain ⟨Ao11,co11,eo11⟩:=Kd.R_slice HO318.out;subst eo11;have:=bcell BK312 0;have:=bfz BK312 0))
 refine bodyPost_ret (results_cell_row rfl _ _ gb312 29 #[.slice Ao11 t316.length co11] (0,0) _ rfl (by (with_reducible repeat refine bu ?_);refine blk_put (cs:=#[.slice none 0 0]) ?_ 0 _ rfl;(with_reducible repeat refine bu ?_);exact BK312.out) Tryz.underlying29 rfl (by kernel_rfl)) rfl ?_
 exact ⟨_,fi_,by (with_reducible repeat apply ru);exact Kd.R_mono (Kd.R_far (p:=⟨gb312,0,none⟩) (Kd.R_types HO318.out BK312.out (by decide)) (fun _ hk=>hk.2) (.slice Ao11 t316.length co11)) (fun _ hk=>trivial),m2_⟩
def impl_MapTab_put.f (l0_0 : List (S55)) (a1_0 : Int) (a1_1 : Int) : Option ((List (S55)) × Int):=(impl_MapTab_copied.f l0_0).bind fun t378=>((impl_MapPort.f l0_0 a1_0 a1_1).bind fun t382=>(if t382 = 0 then (if (l0_0.length : Int) ≥ 6 then (some (t378,t382)) else (if t378.length < 8796093022208 then ((impl_EndPoint_102.f (t378 ++ [(⟨a1_0,a1_1⟩ : S55)])).bind fun bt386=>(some (bt386.1,wrap64 (500 + (l0_0.length : Int))))) else (none))) else (some (t378,t382))))
set_option maxHeartbeats 8000000 in
set_option maxRecDepth 100000 in
theorem impl_MapTab_put.calls (A0_0 : Option Addr) (c0_0 : Nat) (l0_0 : List (S55)) (a1_0 : Int) (a1_1 : Int) (r1 : List (S55)) (r2 : Int) (w : World) (hr0_0 : Kd.C k55 w A0_0 l0_0.length l0_0) (hc0_0 : l0_0.length ≤ c0_0) (h : impl_MapTab_put.f l0_0 a1_0 a1_1 = some (r1,r2)) :
  Calls Tryz.prog 104 #[.agg #[.slice A0_0 l0_0.length c0_0],.agg #[.int .i64 a1_0,.int .i64 a1_1]] w fun e w'=>∃ v0_ : Value,e = .returned (.tuple #[.agg #[v0_],.int .i64 r2]) ∧ Kd.R k55 55 w' w.heap.size (fun _=>True) v0_ r1 ∧ Below w.heap.size w w':=by
 have hu29:=Tryz.underlying29
 have hu55:=Tryz.underlying55
 have HR0_0:=am hr0_0
 have HC0_0:=am hc0_0
 clear hr0_0 hc0_0
 have HB:=am (Below.refl w.heap.size w)
 have H : ((impl_MapTab_copied.f l0_0).bind fun t378=>((impl_MapPort.f l0_0 a1_0 a1_1).bind fun t382=>(if t382 = 0 then (if (l0_0.length : Int) ≥ 6 then (some (t378,t382)) else (if t378.length < 8796093022208 then ((impl_EndPoint_102.f (t378 ++ [(⟨a1_0,a1_1⟩ : S55)])).bind fun bt386=>(some (bt386.1,wrap64 (500 + (l0_0.length : Int))))) else (none))) else (some (t378,t382))))) = some (r1,r2):=h
 clear h
 obtain ⟨t378,A3,H⟩:=bse H
 try dsimp only at H
 obtain ⟨t382,A4,H⟩:=bse H
 try dsimp only at H
 by_cases c5 : t382 = 0
 ·rw [if_pos c5] at H
  have c5b0 : (t382 == 0) = true:=beq_iff_eq.mpr c5
  have c5b1 : (t382 != 0) = false:=bne_eq_false_iff_eq.mpr c5
  clear c5
  by_cases c6 : (l0_0.length : Int) ≥ 6
  ·rw [if_pos c6] at H
   have c6b0 : decide (6 ≤ (l0_0.length : Int)) = true:=decide_eq_true c6
   have c6b1 : decide (6 ≤ l0_0.length) = true:=decide_eq_true (by omega)
   clear c6
   simp only [Option.some.injEq,Prod.mk.injEq] at H
   obtain ⟨rfl,rfl⟩:=H
   go_enter Tryz.func104,Tryz.ntmps104
   go_wp2_with (first | ((with_reducible refine gD 2 rfl ?_);refine box_event rfl (N:=2) rfl (cs:=#[.slice A0_0 l0_0.length c0_0]) (t:=29) hr_ ?_;intro gb375 hg w7 hbox hb;have BK375:=am hbox;have GW375:=gwE HB hg;have GE375:=gwE HB hg;replace HB:=hbS HB hb;clear hb hbox hg) | ((with_reducible refine gD 3 rfl ?_);refine box_event rfl (N:=3) rfl (cs:=#[.int .i64 a1_0,.int .i64 a1_1]) (t:=55) hr_ ?_;intro gb376 hg w8 hbox hb;have BK376:=am hbox;have GW376:=gwE HB hg;have GE376:=gwE HB hg;replace HB:=hbS HB hb;have NB375_376:=neL BK375 hg;have NB376_375:=neG BK375 hg;replace BK375:=bkB BK375 hb;clear hb hbox hg) | ((with_reducible refine gD 4 rfl ?_);refine box_event rfl (N:=4) rfl (cs:=#[.slice none 0 0]) (t:=29) hr_ ?_;intro gb377 hg w9 hbox hb;have BK377:=am hbox;have GW377:=gwE HB hg;have GE377:=gwE HB hg;replace HB:=hbS HB hb;have NB375_377:=neL BK375 hg;have NB377_375:=neG BK375 hg;replace BK375:=bkB BK375 hb;have NB376_377:=neL BK376 hg;have NB377_376:=neG BK376 hg;replace BK376:=bkB BK376 hb;clear hb hbox hg;have:=NB375_376.out;have:=NB376_375.out;have:=NB375_377.out;have:=NB377_375.out;have:=bcell BK375 0;have:=bfz BK375 0) | ((with_reducible refine gC 82 rfl ?_);refine gL (some 9) Tryz.func82 #[.agg #[.slice A0_0 l0_0.length c0_0]] ?_;(with_reducible refine (impl_MapTab_copied.calls _ _ l0_0 t378 _ ?side1 ?side2 A3.out).mono ?_);(case side1=>exact m3_);(case side2=>exact HC0_0.out);rintro e w13 ⟨v379,rfl,ho0,hb⟩;refine ⟨_,rfl,?_⟩;have HO380:=am (Kd.R_lower (Kd.R_newB ho0 (g:=gb376) (o:=.cells #[.int .i64 a1_0,.int .i64 a1_1] 55 (0,0)) (bk BK376)) (below_size (bl HB)));replace BK375:=bkB BK375 hb;replace BK376:=bkB BK376 hb;replace BK377:=bkB BK377 hb;replace HB:=hbS HB hb;(try clear hb);(try clear ho0)) | ((with_reducible refine gD 6 rfl ?_);refine box_event rfl (N:=6) rfl (cs:=#[.slice none 0 0]) (t:=29) hr_ ?_;intro gb381 hg w14 hbox hb;replace HO380:=am (Kd.R_below (rs HO380) hb);have BK381:=am hbox;have GW381:=gwE HB hg;have GE381:=gwE HB hg;replace HB:=hbS HB hb;have NB375_381:=neL BK375 hg;have NB381_375:=neG BK375 hg;replace BK375:=bkB BK375 hb;have NB376_381:=neL BK376 hg;have NB381_376:=neG BK376 hg;replace BK376:=bkB BK376 hb;have NB377_381:=neL BK377 hg;have NB381_377:=neG BK377 hg;replace BK377:=bkB BK377 hb;clear hb hbox hg;obtain ⟨Ao15,co15,eo15⟩:=Kd.R_slice HO380.out;subst eo15;have:=NB381_375.out;have:=NB375_381.out;have:=NB381_376.out;have:=NB376_381.out;have:=NB381_377.out;have:=NB377_381.out;have:=bcell BK381 0;have:=bfz BK381 0;have:=bcell BK375 0;have:=bfz BK375 0;have:=NB376_377.out;have:=NB377_376.out;have:=bcell BK376 0;have:=bcell BK376 1;have:=bfz BK376 0;have:=bfz BK376 1) | ((with_reducible refine gC 120 rfl ?_);refine gL (some 12) Tryz.func120 #[.agg #[.slice A0_0 l0_0.length c0_0],.agg #[.int .i64 a1_0,.int .i64 a1_1]] ?_;(with_reducible refine (impl_MapPort.calls _ _ l0_0 a1_0 a1_1 t382 _ (Kd.C_below HR0_0.out (bl HB)) HC0_0.out A4.out).mono ?_);rintro e w23 ⟨rfl,hb⟩;refine ⟨_,rfl,?_⟩;replace HO380:=am (Kd.R_below (by (with_reducible repeat apply ru);exact (Kd.R_mono (Kd.R_far (p:=⟨gb381,0,none⟩) (Kd.R_types HO380.out BK381.out (by decide)) (fun _ hk=>hk.2) (.slice Ao15 t378.length co15)) (fun _ h_=>h_.1))) hb);replace BK375:=am (blk_below (g:=gb375) (o:=.cells #[.slice A0_0 l0_0.length c0_0] 29 (0,0)) (by (with_reducible repeat refine bu ?_);refine blk_far ?_ NB375_381.out _;(with_reducible repeat refine bu ?_);exact BK375.out) hb);replace BK376:=am (blk_below (g:=gb376) (o:=.cells #[.int .i64 a1_0,.int .i64 a1_1] 55 (0,0)) (by (with_reducible repeat refine bu ?_);refine blk_far ?_ NB376_381.out _;(with_reducible repeat refine bu ?_);exact BK376.out) hb);replace BK377:=am (blk_below (g:=gb377) (o:=.cells #[.slice none 0 0] 29 (0,0)) (by (with_reducible repeat refine bu ?_);refine blk_far ?_ NB377_381.out _;(with_reducible repeat refine bu ?_);exact BK377.out) hb);replace BK381:=am (blk_below (g:=gb381) (o:=.cells #[.slice Ao15 t378.length co15] 29 (0,0)) (by (with_reducible repeat refine bu ?_);refine blk_put (cs:=#[.slice none 0 0]) ?_ 0 _ rfl;(with_reducible repeat refine bu ?_);exact BK381.out) hb);replace HB:=hbS HB hb;(try clear hb);(try clear hk);have:=bcell BK375 0;have:=bfz BK375 0;have:=bcell BK381 0;have:=bfz BK381 0;have:=bcell BK377 0;have:=bfz BK377 0))
   refine bodyPost_ret (results_ct rfl _ _ gb377 29 #[.slice Ao15 t378.length co15] (0,0) _ rfl (by (with_reducible repeat refine bu ?_);refine blk_put (cs:=#[.slice none 0 0]) ?_ 0 _ rfl;(with_reducible repeat refine bu ?_);exact BK377.out) Tryz.underlying29 rfl (by kernel_rfl)) rfl ?_
   exact ⟨_,fi_,by (with_reducible repeat apply ru);exact Kd.R_mono (Kd.R_far (p:=⟨gb377,0,none⟩) (Kd.R_types HO380.out BK377.out (by decide)) (fun _ hk=>hk.2) (.slice Ao15 t378.length co15)) (fun _ hk=>trivial),m2_⟩
  ·rw [if_neg c6] at H
   have c6b0 : decide (6 ≤ (l0_0.length : Int)) = false:=decide_eq_false c6
   have c6b1 : decide (6 ≤ l0_0.length) = false:=decide_eq_false (by omega)
   clear c6
   by_cases c27 : t378.length < 8796093022208
   ·rw [if_pos c27] at H
    have LMc27:=am c27
    clear c27
    obtain ⟨y383,hy383⟩ : ∃ y_ : List (S55),y_ = (t378 ++ [(⟨a1_0,a1_1⟩ : S55)]):=⟨_,rfl⟩
    replace H : ((impl_EndPoint_102.f y383).bind fun bt386=>(some (bt386.1,wrap64 (500 + (l0_0.length : Int))))) = some (r1,r2):=by first | (rw [hy383];with_reducible exact H) | (have H2_:=(Option.bind_some _ _).symm.trans H;rw [hy383];with_reducible exact H2_) | (have H2_:=(Option.bind_some _ _).symm.trans H;with_reducible exact H2_) | with_reducible exact H | (rw [hy383];exact H) | exact H
    have Ny383:=am hy383
    clear hy383
    obtain ⟨⟨t386,t389⟩,A28,H⟩:=bse H
    try dsimp only at H
    simp only [Option.some.injEq,Prod.mk.injEq] at H
    obtain ⟨rfl,rfl⟩:=H
    go_enter Tryz.func104,Tryz.ntmps104
    try go_wp2_with (first | ((with_reducible refine gD 2 rfl ?_);refine box_event rfl (N:=2) rfl (cs:=#[.slice A0_0 l0_0.length c0_0]) (t:=29) hr_ ?_;intro gb375 hg w29 hbox hb;have BK375:=am hbox;have GW375:=gwE HB hg;have GE375:=gwE HB hg;replace HB:=hbS HB hb;clear hb hbox hg) | ((with_reducible refine gD 3 rfl ?_);refine box_event rfl (N:=3) rfl (cs:=#[.int .i64 a1_0,.int .i64 a1_1]) (t:=55) hr_ ?_;intro gb376 hg w30 hbox hb;have BK376:=am hbox;have GW376:=gwE HB hg;have GE376:=gwE HB hg;replace HB:=hbS HB hb;have NB375_376:=neL BK375 hg;have NB376_375:=neG BK375 hg;replace BK375:=bkB BK375 hb;clear hb hbox hg) | ((with_reducible refine gD 4 rfl ?_);refine box_event rfl (N:=4) rfl (cs:=#[.slice none 0 0]) (t:=29) hr_ ?_;intro gb377 hg w31 hbox hb;have BK377:=am hbox;have GW377:=gwE HB hg;have GE377:=gwE HB hg;replace HB:=hbS HB hb;have NB375_377:=neL BK375 hg;have NB377_375:=neG BK375 hg;replace BK375:=bkB BK375 hb;have NB376_377:=neL BK376 hg;have NB377_376:=neG BK376 hg;replace BK376:=bkB BK376 hb;clear hb hbox hg;have:=NB375_376.out;have:=NB376_375.out;have:=NB375_377.out;have:=NB377_375.out;have:=bcell BK375 0;have:=bfz BK375 0) | ((with_reducible refine gC 82 rfl ?_);refine gL (some 9) Tryz.func82 #[.agg #[.slice A0_0 l0_0.length c0_0]] ?_;(with_reducible refine (impl_MapTab_copied.calls _ _ l0_0 t378 _ ?side1 ?side2 A3.out).mono ?_);(case side1=>exact m3_);(case side2=>exact HC0_0.out);rintro e w35 ⟨v379,rfl,ho0,hb⟩;refine ⟨_,rfl,?_⟩;have HO380:=am (Kd.R_lower (Kd.R_newB ho0 (g:=gb376) (o:=.cells #[.int .i64 a1_0,.int .i64 a1_1] 55 (0,0)) (bk BK376)) (below_size (bl HB)));replace BK375:=bkB BK375 hb;replace BK376:=bkB BK376 hb;replace BK377:=bkB BK377 hb;replace HB:=hbS HB hb;(try clear hb);(try clear ho0)) | ((with_reducible refine gD 6 rfl ?_);refine box_event rfl (N:=6) rfl (cs:=#[.slice none 0 0]) (t:=29) hr_ ?_;intro gb381 hg w36 hbox hb;replace HO380:=am (Kd.R_below (rs HO380) hb);have BK381:=am hbox;have GW381:=gwE HB hg;have GE381:=gwE HB hg;replace HB:=hbS HB hb;have NB375_381:=neL BK375 hg;have NB381_375:=neG BK375 hg;replace BK375:=bkB BK375 hb;have NB376_381:=neL BK376 hg;have NB381_376:=neG BK376 hg;replace BK376:=bkB BK376 hb;have NB377_381:=neL BK377 hg;have NB381_377:=neG BK377 hg;replace BK377:=bkB BK377 hb;clear hb hbox hg;obtain ⟨Ao37,co37,eo37⟩:=Kd.R_slice HO380.out;subst eo37;have:=NB381_375.out;have:=NB375_381.out;have:=NB381_376.out;have:=NB376_381.out;have:=NB381_377.out;have:=NB377_381.out;have:=bcell BK381 0;have:=bfz BK381 0;have:=bcell BK375 0;have:=bfz BK375 0;have:=NB376_377.out;have:=NB377_376.out;have:=bcell BK376 0;have:=bcell BK376 1;have:=bfz BK376 0;have:=bfz BK376 1) | ((with_reducible refine gC 120 rfl ?_);refine gL (some 12) Tryz.func120 #[.agg #[.slice A0_0 l0_0.length c0_0],.agg #[.int .i64 a1_0,.int .i64 a1_1]] ?_;(with_reducible refine (impl_MapPort.calls _ _ l0_0 a1_0 a1_1 t382 _ (Kd.C_below HR0_0.out (bl HB)) HC0_0.out A4.out).mono ?_);rintro e w45 ⟨rfl,hb⟩;refine ⟨_,rfl,?_⟩;replace HO380:=am (Kd.R_below (by (with_reducible repeat apply ru);exact (Kd.R_mono (Kd.R_far (p:=⟨gb381,0,none⟩) (Kd.R_types HO380.out BK381.out (by decide)) (fun _ hk=>hk.2) (.slice Ao37 t378.length co37)) (fun _ h_=>h_.1))) hb);replace BK375:=am (blk_below (g:=gb375) (o:=.cells #[.slice A0_0 l0_0.length c0_0] 29 (0,0)) (by (with_reducible repeat refine bu ?_);refine blk_far ?_ NB375_381.out _;(with_reducible repeat refine bu ?_);exact BK375.out) hb);replace BK376:=am (blk_below (g:=gb376) (o:=.cells #[.int .i64 a1_0,.int .i64 a1_1] 55 (0,0)) (by (with_reducible repeat refine bu ?_);refine blk_far ?_ NB376_381.out _;(with_reducible repeat refine bu ?_);exact BK376.out) hb);replace BK377:=am (blk_below (g:=gb377) (o:=.cells #[.slice none 0 0] 29 (0,0)) (by (with_reducible repeat refine bu ?_);refine blk_far ?_ NB377_381.out _;(with_reducible repeat refine bu ?_);exact BK377.out) hb);replace BK381:=am (blk_below (g:=gb381) (o:=.cells #[.slice Ao37 t378.length co37] 29 (0,0)) (by (with_reducible repeat refine bu ?_);refine blk_put (cs:=#[.slice none 0 0]) ?_ 0 _ rfl;(with_reducible repeat refine bu ?_);exact BK381.out) hb);replace HB:=hbS HB hb;(try clear hb);(try clear hk);have:=bcell BK375 0;have:=bfz BK375 0;have:=bcell BK381 0;have:=bfz BK381 0;have:=bcell BK376 0;have:=bcell BK376 1;have:=bfz BK376 0;have:=bfz BK376 1) | ((with_reducible refine gate_builtin (b:=.append) (xs:=#[.tmp 24,.tmp 26]) rfl ?_);at_builtin;refine Kd.R_append k55 (w0:=w) w.heap.size rfl (.tmp 24) (.tmp 26) 27 55 (.agg #[(.int .i64 0),(.int .i64 0)]) 16 rfl Tryz.underlying27 info55 rfl (by decide) (by omega) (.slice Ao37 t378.length co37) t378 (⟨a1_0,a1_1⟩ : S55) [.int .i64 a1_0,.int .i64 a1_1] (fun k_=>k_ ≠ gb376) (fun _=>False) rfl rfl ?aP (fun _ hk=>hk.elim) ?aF ?aO ?aB ?aS ?aL ?_;(case aP=>exact k55_mkM _ _ _ (⟨a1_0,a1_1⟩ : S55));(case aB=>exact (bl HB));(case aF=>exact (fun k_ hk=>Kd.freshB (g:=gb376) (o:=.cells #[.int .i64 a1_0,.int .i64 a1_1] 55 (0,0)) (bk BK376) k_ hk));(case aO=>exact (by (with_reducible repeat apply ru);exact Kd.R_mono HO380.out (fun _ hk=>hk.2)));(case aS=>exact (below_size (bl HB)));(case aL=>have:=LMc27.out;omega);intro v384 w49 ho hb hg hat;rw [← Ny383.out] at ho;replace BK375:=am (blk_grown (g:=gb375) (o:=.cells #[.slice A0_0 l0_0.length c0_0] 29 (0,0)) (bk BK375) hg (Kd.R_ne HO380.out BK375.out (by decide)));replace BK376:=am (blk_grown (g:=gb376) (o:=.cells #[.int .i64 a1_0,.int .i64 a1_1] 55 (0,0)) (bk BK376) hg (Kd.R_away HO380.out (fun _ hk=>hk.2)));replace BK377:=am (blk_grown (g:=gb377) (o:=.cells #[.slice none 0 0] 29 (0,0)) (bk BK377) hg (Kd.R_ne HO380.out BK377.out (by decide)));replace BK381:=am (blk_grown (g:=gb381) (o:=.cells #[.slice Ao37 t378.length co37] 29 (0,0)) (bk BK381) hg (Kd.R_ne HO380.out BK381.out (by decide)));replace HB:=am hb;have HO385:=am (ho);clear HO380;clear ho hb hg hat;obtain ⟨Ao50,co50,eo50⟩:=Kd.R_slice HO385.out;subst eo50) | ((with_reducible refine gC 102 rfl ?_);refine gL (some 28) Tryz.func102 #[.slice Ao50 y383.length co50] ?_;(with_reducible refine (clip_end Ao50 y383.length co50 (Kd.R_reads' HO385.out).2.1 _).mono ?_);rintro e w51 ⟨v387,rfl,hv_,hw_⟩;refine ⟨_,rfl,?_⟩;replace BK375:=bkW BK375 hw_;replace BK376:=bkW BK376 hw_;replace BK377:=bkW BK377 hw_;replace BK381:=bkW BK381 hw_;have HO388:=clipR (ok':=fun k_=>some k_ ≠ (.slice none 0 0 : Value).ownBlock ∧ k_ ≠ gb376) HO385 hv_ hw_ A28.out (fun k_ hk_=>by first | exact ⟨by simp [Value.ownBlock],hk_⟩ | (simp [Value.ownBlock];done) | exact hk_);replace HO385:=clipNil HO385 w51 A28.out;replace HB:=blW HB hw_;clear hv_ hw_;obtain ⟨Ao52,co52,eo52⟩:=Kd.R_slice HO388.out;subst eo52;have:=bcell BK381 0;have:=bfz BK381 0))
    have n0_ : Aside0 (Kd.R k55 55 (w51.setCell ⟨gb381,0,none⟩ (.slice Ao52 t386.length co52)) w.heap.size (fun k_=>k_ ≠ gb376) (.slice none 0 0) t389):=⟨by (with_reducible repeat apply ru);exact Kd.R_mono (Kd.R_far (p:=⟨gb381,0,none⟩) (Kd.R_types HO385.out BK381.out (by decide)) (fun _ hk=>hk.2) (.slice Ao52 t386.length co52)) (fun _ hk=>hk.1)⟩
    have n1_ : Aside0 (Kd.R k55 55 (w51.setCell ⟨gb381,0,none⟩ (.slice Ao52 t386.length co52)) w.heap.size (fun k_=>some k_ ≠ (.slice none 0 0 : Value).ownBlock ∧ k_ ≠ gb376) (.slice Ao52 t386.length co52) t386):=⟨by (with_reducible repeat apply ru);exact Kd.R_mono (Kd.R_far (p:=⟨gb381,0,none⟩) (Kd.R_types HO388.out BK381.out (by decide)) (fun _ hk=>hk.2) (.slice Ao52 t386.length co52)) ok_⟩
    have n2_ : Aside0 ((w51.setCell ⟨gb381,0,none⟩ (.slice Ao52 t386.length co52)).heap[gb375]? = some (.cells #[.slice A0_0 l0_0.length c0_0] 29 (0,0))):=bf_ BK375
    have n3_ : Aside0 ((w51.setCell ⟨gb381,0,none⟩ (.slice Ao52 t386.length co52)).heap[gb376]? = some (.cells #[.int .i64 a1_0,.int .i64 a1_1] 55 (0,0))):=bf_ BK376
    have n4_ : Aside0 ((w51.setCell ⟨gb381,0,none⟩ (.slice Ao52 t386.length co52)).heap[gb377]? = some (.cells #[.slice none 0 0] 29 (0,0))):=bf_ BK377
    have n5_ : Aside0 ((w51.setCell ⟨gb381,0,none⟩ (.slice Ao52 t386.length co52)).heap[gb381]? = some (.cells #[.slice Ao52 t386.length co52] 29 (0,0))):=⟨by (with_reducible repeat refine bu ?_);refine blk_put (cs:=#[.slice Ao37 t378.length co37]) ?_ 0 _ rfl;(with_reducible repeat refine bu ?_);exact BK381.out⟩
    have n6_ : Aside0 (Below w.heap.size w (w51.setCell ⟨gb381,0,none⟩ (.slice Ao52 t386.length co52))):=⟨m2_⟩
    (try clear HO385)
    (try clear HO388)
    (try clear BK375)
    (try clear BK376)
    (try clear BK377)
    (try clear BK381)
    (try clear HB)
    generalize (w51.setCell ⟨gb381,0,none⟩ (.slice Ao52 t386.length co52)) = w54 at n0_ n1_ n2_ n3_ n4_ n5_ n6_ ⊢
    have HO385:=n0_
    have HO388:=n1_
    have BK375:=n2_
    have BK376:=n3_
    have BK377:=n4_
    have BK381:=n5_
    have HB:=n6_
    clear n0_ n1_ n2_ n3_ n4_ n5_ n6_
    replace HO385:=am (Kd.R_drew HO385.out)
    replace HO388:=am (Kd.R_drew HO388.out)
    replace BK375:=am (blk_drew BK375.out)
    replace BK376:=am (blk_drew BK376.out)
    replace BK377:=am (blk_drew BK377.out)
    replace BK381:=am (blk_drew BK381.out)
    replace HB:=am (below_drew1 HB.out)
    refine start_ (n:=7) (S:=fun w'=>w'.cell? ⟨gb381,0,none⟩ = some (.slice Ao52 t386.length co52) ∧ w'.cell? ⟨gb375,0,none⟩ = some (.slice A0_0 l0_0.length c0_0)) (ds:=[]) #[false,false,false,false,false,false,false] (by kernel_rfl) rfl rfl ⟨bcell BK381 0,bcell BK375 0⟩ (fun hHeld=>?_)
    generalize w54.drew = w55 at HO385 HO388 BK375 BK376 BK377 BK381 HB hHeld ⊢
    refine pu_ 1 (some 31) (bm 7 2) ?_
    refine tk_ 0 (some 30) (bm 7 3) rfl (.inl ⟨rfl,m4_⟩) ?_
    refine tk_ 2 (some 32) (bm 7 7) rfl (.inl ⟨rfl,m4_⟩) ?_
    refine pu_ 3 (some 33) (bm 7 15) ?_
    refine pu_ 4 (some 34) (bm 7 31) ?_
    refine one_ (i:=5) (N:=none) #[true,true,true,true,true,true,false] rfl rfl (by kernel_rfl) (by decide) (fun K hK=>?_)
    have : w55.cell? ⟨gb377,0,none⟩ = some (.slice none 0 0):=bcell BK377 0
    have:=bfz BK377 0
    have:=NB375_377.out
    have:=NB376_377.out
    have:=NB381_377.out
    have:=NB377_375.out
    have:=NB377_376.out
    have:=NB377_381.out
    refine skip_ (w1:=?_) (by rfl) rfl ?_ ?_
    rotate_left
    ·go_simp
     rfl
    refine hK.out _ _ ⟨((cell_far (p:=⟨gb377,_,none⟩) NB381_377.out _).trans (hHeld.1)),((cell_far (p:=⟨gb377,_,none⟩) NB375_377.out _).trans (hHeld.2))⟩ (fun hHeld=>?_)
    clear hK K
    refine pu_ 6 (some 5) (bm 7 127) ?_
    refine done_ (by kernel_rfl) ?_
    try go_wp2
    refine bodyPost_ret (results_ct rfl _ _ gb377 29 #[.slice Ao52 t386.length co52] (0,0) _ rfl (by (with_reducible repeat refine bu ?_);refine blk_put (cs:=#[.slice none 0 0]) ?_ 0 _ rfl;(with_reducible repeat refine bu ?_);exact BK377.out) Tryz.underlying29 rfl (by kernel_rfl)) rfl ?_
    exact ⟨_,fi_,by (with_reducible repeat apply ru);exact Kd.R_mono (Kd.R_far (p:=⟨gb377,0,none⟩) (Kd.R_types HO388.out BK377.out (by decide)) (fun _ hk=>hk.2) (.slice Ao52 t386.length co52)) (fun _ hk=>trivial),m2_⟩
   ·rw [if_neg c27] at H
    exact absurd H (by simp)
 ·rw [if_neg c5] at H
  have c5b0 : (t382 == 0) = false:=beq_eq_false_iff_ne.mpr c5
  have c5b1 : (t382 != 0) = true:=bne_iff_ne.mpr c5
  simp only [Option.some.injEq,Prod.mk.injEq] at H
  obtain ⟨rfl,rfl⟩:=H
  go_enter Tryz.func104,Tryz.ntmps104
  go_wp2_with (first | ((with_reducible refine gD 2 rfl ?_);refine box_event rfl (N:=2) rfl (cs:=#[.slice A0_0 l0_0.length c0_0]) (t:=29) hr_ ?_;intro gb375 hg w57 hbox hb;have BK375:=am hbox;have GW375:=gwE HB hg;have GE375:=gwE HB hg;replace HB:=hbS HB hb;clear hb hbox hg) | ((with_reducible refine gD 3 rfl ?_);refine box_event rfl (N:=3) rfl (cs:=#[.int .i64 a1_0,.int .i64 a1_1]) (t:=55) hr_ ?_;intro gb376 hg w58 hbox hb;have BK376:=am hbox;have GW376:=gwE HB hg;have GE376:=gwE HB hg;replace HB:=hbS HB hb;have NB375_376:=neL BK375 hg;have NB376_375:=neG BK375 hg;replace BK375:=bkB BK375 hb;clear hb hbox hg) | ((with_reducible refine gD 4 rfl ?_);refine box_event rfl (N:=4) rfl (cs:=#[.slice none 0 0]) (t:=29) hr_ ?_;intro gb377 hg w59 hbox hb;have BK377:=am hbox;have GW377:=gwE HB hg;have GE377:=gwE HB hg;replace HB:=hbS HB hb;have NB375_377:=neL BK375 hg;have NB377_375:=neG BK375 hg;replace BK375:=bkB BK375 hb;have NB376_377:=neL BK376 hg;have NB377_376:=neG BK376 hg;replace BK376:=bkB BK376 hb;clear hb hbox hg;have:=NB375_376.out;have:=NB376_375.out;have:=NB375_377.out;have:=NB377_375.out;have:=bcell BK375 0;have:=bfz BK375 0) | ((with_reducible refine gC 82 rfl ?_);refine gL (some 9) Tryz.func82 #[.agg #[.slice A0_0 l0_0.length c0_0]] ?_;(with_reducible refine (impl_MapTab_copied.calls _ _ l0_0 t378 _ ?side1 ?side2 A3.out).mono ?_);(case side1=>exact m3_);(case side2=>exact HC0_0.out);rintro e w63 ⟨v379,rfl,ho0,hb⟩;refine ⟨_,rfl,?_⟩;have HO380:=am (Kd.R_lower (Kd.R_newB ho0 (g:=gb376) (o:=.cells #[.int .i64 a1_0,.int .i64 a1_1] 55 (0,0)) (bk BK376)) (below_size (bl HB)));replace BK375:=bkB BK375 hb;replace BK376:=bkB BK376 hb;replace BK377:=bkB BK377 hb;replace HB:=hbS HB hb;(try clear hb);(try clear ho0)) | ((with_reducible refine gD 6 rfl ?_);refine box_event rfl (N:=6) rfl (cs:=#[.slice none 0 0]) (t:=29) hr_ ?_;intro gb381 hg w64 hbox hb;replace HO380:=am (Kd.R_below (rs HO380) hb);have BK381:=am hbox;have GW381:=gwE HB hg;have GE381:=gwE HB hg;replace HB:=hbS HB hb;have NB375_381:=neL BK375 hg;have NB381_375:=neG BK375 hg;replace BK375:=bkB BK375 hb;have NB376_381:=neL BK376 hg;have NB381_376:=neG BK376 hg;replace BK376:=bkB BK376 hb;have NB377_381:=neL BK377 hg;have NB381_377:=neG BK377 hg;replace BK377:=bkB BK377 hb;clear hb hbox hg;obtain ⟨Ao65,co65,eo65⟩:=Kd.R_slice HO380.out;subst eo65;have:=NB381_375.out;have:=NB375_381.out;have:=NB381_376.out;have:=NB376_381.out;have:=NB381_377.out;have:=NB377_381.out;have:=bcell BK381 0;have:=bfz BK381 0;have:=bcell BK375 0;have:=bfz BK375 0;have:=NB376_377.out;have:=NB377_376.out;have:=bcell BK376 0;have:=bcell BK376 1;have:=bfz BK376 0;have:=bfz BK376 1) | ((with_reducible refine gC 120 rfl ?_);refine gL (some 12) Tryz.func120 #[.agg #[.slice A0_0 l0_0.length c0_0],.agg #[.int .i64 a1_0,.int .i64 a1_1]] ?_;(with_reducible refine (impl_MapPort.calls _ _ l0_0 a1_0 a1_1 t382 _ (Kd.C_below HR0_0.out (bl HB)) HC0_0.out A4.out).mono ?_);rintro e w73 ⟨rfl,hb⟩;refine ⟨_,rfl,?_⟩;replace HO380:=am (Kd.R_below (by (with_reducible repeat apply ru);exact (Kd.R_mono (Kd.R_far (p:=⟨gb381,0,none⟩) (Kd.R_types HO380.out BK381.out (by decide)) (fun _ hk=>hk.2) (.slice Ao65 t378.length co65)) (fun _ h_=>h_.1))) hb);replace BK375:=am (blk_below (g:=gb375) (o:=.cells #[.slice A0_0 l0_0.length c0_0] 29 (0,0)) (by (with_reducible repeat refine bu ?_);refine blk_far ?_ NB375_381.out _;(with_reducible repeat refine bu ?_);exact BK375.out) hb);replace BK376:=am (blk_below (g:=gb376) (o:=.cells #[.int .i64 a1_0,.int .i64 a1_1] 55 (0,0)) (by (with_reducible repeat refine bu ?_);refine blk_far ?_ NB376_381.out _;(with_reducible repeat refine bu ?_);exact BK376.out) hb);replace BK377:=am (blk_below (g:=gb377) (o:=.cells #[.slice none 0 0] 29 (0,0)) (by (with_reducible repeat refine bu ?_);refine blk_far ?_ NB377_381.out _;(with_reducible repeat refine bu ?_);exact BK377.out) hb);replace BK381:=am (blk_below (g:=gb381) (o:=.cells #[.slice Ao65 t378.length co65] 29 (0,0)) (by (with_reducible repeat refine bu ?_);refine blk_put (cs:=#[.slice none 0 0]) ?_ 0 _ rfl;(with_reducible repeat refine bu ?_);exact BK381.out) hb);replace HB:=hbS HB hb;(try clear hb);(try clear hk);have:=bcell BK381 0;have:=bfz BK381 0;have:=bcell BK377 0;have:=bfz BK377 0))
  refine bodyPost_ret (results_ct rfl _ _ gb377 29 #[.slice Ao65 t378.length co65] (0,0) _ rfl (by (with_reducible repeat refine bu ?_);refine blk_put (cs:=#[.slice none 0 0]) ?_ 0 _ rfl;(with_reducible repeat refine bu ?_);exact BK377.out) Tryz.underlying29 rfl (by kernel_rfl)) rfl ?_
  exact ⟨_,fi_,by (with_reducible repeat apply ru);exact Kd.R_mono (Kd.R_far (p:=⟨gb377,0,none⟩) (Kd.R_types HO380.out BK377.out (by decide)) (fun _ hk=>hk.2) (.slice Ao65 t378.length co65)) (fun _ hk=>trivial),m2_⟩
end
section
attribute [local go_sem] max2_int min2_int max_two min_two max_three min_three max_four min_four
attribute [local go_sem high] eqA55
def impl_EndPoint_101.l0 : Nat → List (S55) → Int → Int → Int → Int → Option (Int)
 | 0,_,_,_,_,_=>none
 | k + 1,x0,x7,x8,x284000,x284001=>if x8 < x7 then (if 0 ≤ x8 then (if x8 < (x0.length : Int) then (if (x284000 == ((rd_T55 x0 x8).f0) && (x284001 == ((rd_T55 x0 x8).f1))) = true then (some x8) else (impl_EndPoint_101.l0 k x0 x7 (wrap64 (x8 + 1)) x284000 x284001)) else (none)) else (none)) else (some (-1))
def impl_EndPoint_101.f (k : Nat) (l0 : List (S55)) (a1_0 : Int) (a1_1 : Int) : Option (Int):=impl_EndPoint_101.l0 k l0 (l0.length : Int) 0 a1_0 a1_1
set_option maxHeartbeats 8000000 in
set_option maxRecDepth 100000 in
theorem impl_EndPoint_101.calls (k : Nat) (A0 : Option Addr) (c0 : Nat) (l0 : List (S55)) (a1_0 : Int) (a1_1 : Int) (r : Int) (w : World) (hr0 : Kd.C k55 w A0 l0.length l0) (hc0 : l0.length ≤ c0) (h : impl_EndPoint_101.f k l0 a1_0 a1_1 = some r) :
  Calls Tryz.prog 101 #[.slice A0 l0.length c0,.agg #[.int .i64 a1_0,.int .i64 a1_1]] w fun e w'=>e = .returned (.int .i64 r) ∧ Below w.heap.size w w':=by
 have hu55:=Tryz.underlying55
 have HR0:=am hr0
 have HC0:=am hc0
 clear hr0 hc0
 have HB:=am (Below.refl w.heap.size w)
 have H : (impl_EndPoint_101.l0 k l0 (l0.length : Int) 0 a1_0 a1_1) = some r:=h
 clear h
 have H':=am H
 clear H
 go_enter Tryz.func101,Tryz.ntmps101
 iterate 4 ((try go_quiet (fail));(try go_wp2_with (first | ((with_reducible refine gD 3 rfl ?_);refine box_event rfl (N:=3) rfl (cs:=#[.int .i64 a1_0,.int .i64 a1_1]) (t:=55) hr_ ?_;intro gb283 hg w3 hbox hb;have BK283:=am hbox;have GW283:=gwE HB hg;have GE283:=gwE HB hg;replace HB:=hbS HB hb;clear hb hbox hg))))
 go_loopg [8] k (fun kq v8 w'=>∃ (x8_1 : Int),v8 = .int .i64 x8_1 ∧ Aside0 (impl_EndPoint_101.l0 kq l0 (l0.length : Int) x8_1 a1_0 a1_1 = some r) ∧ Aside0 (kq ≤ k) ∧ Aside0 (w'.heap[gb283]? = some (.cells #[.int .i64 a1_0,.int .i64 a1_1] 55 (0,0))) ∧ Aside0 (Below w.heap.size w w'))
 case atStart=>exact ⟨(0),rs_,H',⟨Nat.le_refl _⟩,⟨bk BK283⟩,⟨m2_⟩⟩
 case round=>
  clear H'
  try clear c1
  try clear p2
  obtain ⟨x8_1,rfl,HA,HK1,BK283,HB⟩:=hrel
  cases gk with
  | zero=>exact absurd HA.out (by simp [impl_EndPoint_101.l0])
  | succ k1=>
   have H:=HA.out
   clear HA
   simp only [impl_EndPoint_101.l0] at H
   by_cases c4 : x8_1 < (l0.length : Int)
   ·rw [if_pos c4] at H
    have c4b0 : decide (x8_1 < (l0.length : Int)) = true:=decide_eq_true c4
    clear c4
    by_cases c5 : 0 ≤ x8_1
    ·rw [if_pos c5] at H
     have c5b0 : decide (0 ≤ x8_1) = true:=decide_eq_true c5
     clear c5
     by_cases c6 : x8_1 < (l0.length : Int)
     ·rw [if_pos c6] at H
      have c6b0 : decide (x8_1 < (l0.length : Int)) = true:=decide_eq_true c6
      clear c6
      by_cases c7 : (a1_0 == ((rd_T55 l0 x8_1).f0) && (a1_1 == ((rd_T55 l0 x8_1).f1))) = true
      ·rw [if_pos c7] at H
       have c7b0 : (a1_0 == ((rd_T55 l0 x8_1).f0) && (a1_1 == ((rd_T55 l0 x8_1).f1))) = true:=c7
       (try (have c7b1 : decide (a1_0 = ((rd_T55 l0 x8_1).f0) && (a1_1 == ((rd_T55 l0 x8_1).f1))) = true:=by simpa using c7))
       (try (have c7b2 : (a1_0 == ((rd_T55 l0 x8_1).f0) && (a1_1 == ((rd_T55 l0 x8_1).f1))) = true:=by simpa using c7))
       clear c7
       obtain rfl:=Option.some.inj H
       have:=bcell BK283 0
       have:=bcell BK283 1
       have:=bfz BK283 0
       have:=bfz BK283 1
       have p284 : 0 ≤ (x8_1 : Int):=of_decide_eq_true da_
       have q284 : x8_1 < (l0.length : Int):=of_decide_eq_true da_
       obtain ⟨ad284,e284,hx284_0,hx284_1⟩:=at_T55 HR0.out x8_1 p284 q284
       cases e284
       replace hx284_0:=bcl HB hx284_0
       replace hx284_1:=bcl HB hx284_1
       replace p284:=eq_true p284
       replace q284:=eq_true q284
       go_wp2
       repeat (go_quiet (fail);try go_wp2)
       go_ret
       exact ⟨fi_,m2_⟩
      ·rw [if_neg c7] at H
       have c7b0 : (a1_0 == ((rd_T55 l0 x8_1).f0) && (a1_1 == ((rd_T55 l0 x8_1).f1))) = false:=by simpa using c7
       (try (have c7b1 : decide (a1_0 = ((rd_T55 l0 x8_1).f0) && (a1_1 == ((rd_T55 l0 x8_1).f1))) = false:=by simpa using c7))
       (try (have c7b2 : (a1_0 == ((rd_T55 l0 x8_1).f0) && (a1_1 == ((rd_T55 l0 x8_1).f1))) = false:=by simpa using c7))
       (try (have c7b3 : ¬ (a1_0 = ((rd_T55 l0 x8_1).f0) && (a1_1 == ((rd_T55 l0 x8_1).f1))):=by simpa using c7))
       clear c7
       have H':=am H
       clear H
       have:=bcell BK283 0
       have:=bcell BK283 1
       have:=bfz BK283 0
       have:=bfz BK283 1
       have p284 : 0 ≤ (x8_1 : Int):=of_decide_eq_true da_
       have q284 : x8_1 < (l0.length : Int):=of_decide_eq_true da_
       obtain ⟨ad284,e284,hx284_0,hx284_1⟩:=at_T55 HR0.out x8_1 p284 q284
       cases e284
       replace hx284_0:=bcl HB hx284_0
       replace hx284_1:=bcl HB hx284_1
       replace p284:=eq_true p284
       replace q284:=eq_true q284
       go_wp2
       repeat (go_quiet (fail);try go_wp2)
       go_roundg k1
       case measure=>have:=HK1.out;omega
       case rel=>exact ⟨(wrap64 (x8_1 + 1)),rs_,H',⟨by have:=HK1.out;omega⟩,⟨bk BK283⟩,⟨m2_⟩⟩
     ·rw [if_neg c6] at H
      exact absurd H (by simp)
    ·rw [if_neg c5] at H
     exact absurd H (by simp)
   ·rw [if_neg c4] at H
    have c4b0 : decide (x8_1 < (l0.length : Int)) = false:=decide_eq_false c4
    clear c4
    obtain rfl:=Option.some.inj H
    go_wp2
    repeat (go_quiet (fail);try go_wp2)
    go_ret
    exact ⟨fi_,m2_⟩
end
section
attribute [local go_sem] max2_int min2_int max_two min_two max_three min_three max_four min_four
def impl_EndPoint_81.f (k : Nat) (l0 : List (S55)) (a1_0 : Int) (a1_1 : Int) : Option (Bool):=(impl_EndPoint_101.f k l0 a1_0 a1_1).bind fun t286=>(some (decide (t286 ≥ 0)))
set_option maxHeartbeats 8000000 in
set_option maxRecDepth 100000 in
theorem impl_EndPoint_81.calls (k : Nat) (A0 : Option Addr) (c0 : Nat) (l0 : List (S55)) (a1_0 : Int) (a1_1 : Int) (r : Bool) (w : World) (hr0 : Kd.C k55 w A0 l0.length l0) (hc0 : l0.length ≤ c0) (h : impl_EndPoint_81.f k l0 a1_0 a1_1 = some r) :
  Calls Tryz.prog 81 #[.slice A0 l0.length c0,.agg #[.int .i64 a1_0,.int .i64 a1_1]] w fun e w'=>e = .returned (.bool r) ∧ Below w.heap.size w w':=by
 have hu55:=Tryz.underlying55
 have HR0:=am hr0
 have HC0:=am hc0
 clear hr0 hc0
 have HB:=am (Below.refl w.heap.size w)
 have H : ((impl_EndPoint_101.f k l0 a1_0 a1_1).bind fun t286=>(some (decide (t286 ≥ 0)))) = some r:=h
 clear h
 obtain ⟨t286,A3,H⟩:=bse H
 try dsimp only at H
 obtain rfl:=Option.some.inj H
 go_enter Tryz.func81,Tryz.ntmps81
 go_wp2_with (first | ((with_reducible refine gD 3 rfl ?_);refine box_event rfl (N:=3) rfl (cs:=#[.int .i64 a1_0,.int .i64 a1_1]) (t:=55) hr_ ?_;intro gb285 hg w4 hbox hb;have BK285:=am hbox;have GW285:=gwE HB hg;have GE285:=gwE HB hg;replace HB:=hbS HB hb;clear hb hbox hg;have:=bcell BK285 0;have:=bcell BK285 1;have:=bfz BK285 0;have:=bfz BK285 1) | ((with_reducible refine gC 101 rfl ?_);refine gL (some 7) Tryz.func101 #[.slice A0 l0.length c0,.agg #[.int .i64 a1_0,.int .i64 a1_1]] ?_;(with_reducible refine (impl_EndPoint_101.calls k _ _ l0 a1_0 a1_1 t286 _ ?side1 ?side2 A3.out).mono ?_);(case side1=>exact m13_);(case side2=>exact HC0.out);rintro e w6 ⟨rfl,hb⟩;refine ⟨_,rfl,?_⟩;replace BK285:=bkB BK285 hb;replace HB:=hbS HB hb;(try clear hb)))
 go_ret
 exact ⟨fi_,m2_⟩
def impl_MapOk.l0 : Nat → List (S55) → Int → Int → List (S55) → Option (Bool)
 | 0,_,_,_,_=>none
 | k + 1,x6,x7,x8,x288000=>if x8 < x7 then (if 0 ≤ x8 then (if x8 < (x6.length : Int) then ((impl_EndInside.f ((rd_T55 x6 x8).f0) ((rd_T55 x6 x8).f1)).bind fun t290=>(if t290 = true then (if x8 ≤ (x288000.length : Int) then ((impl_EndPoint_81.f k (x288000.take (x8 : Int).toNat) ((rd_T55 x6 x8).f0) ((rd_T55 x6 x8).f1)).bind fun t295=>(if t295 = true then (some false) else (impl_MapOk.l0 k x6 x7 (wrap64 (x8 + 1)) x288000))) else (none)) else (some false))) else (none)) else (none)) else (some (decide ((x288000.length : Int) ≤ 6)))
def impl_MapOk.f (k : Nat) (l0_0 : List (S55)) : Option (Bool):=impl_MapOk.l0 k l0_0 (l0_0.length : Int) 0 l0_0
def impl_MapOk.T4 : Bool × List (List Nat × List Nat):=(true,[([],[]),([0],[0]),([1],[1]),([2,1],[2]),([3],[3]),([4,3],[3,4]),([3],[3]),([5,6,3],[3,5,6]),([3],[3]),([7,8,3,3],[3,7,8]),([3,9],[3,9])])
def impl_MapOk.B4 : List Nat:=[0,1,3,7,15,31,15,127,15,511,1023]
theorem impl_MapOk.tab4 : rtab .any (opsOf Tryz.f54 4) = impl_MapOk.T4:=by kernel_rfl
theorem impl_MapOk.bits4 : waitsOk impl_MapOk.T4.2 impl_MapOk.B4 = true:=by kernel_rfl
set_option maxHeartbeats 8000000 in
set_option maxRecDepth 100000 in
theorem impl_MapOk.calls (k : Nat) (A0_0 : Option Addr) (c0_0 : Nat) (l0_0 : List (S55)) (r : Bool) (w : World) (hr0_0 : Kd.C k55 w A0_0 l0_0.length l0_0) (hc0_0 : l0_0.length ≤ c0_0) (h : impl_MapOk.f k l0_0 = some r) :
  Calls Tryz.prog 54 #[.agg #[.slice A0_0 l0_0.length c0_0]] w fun e w'=>e = .returned (.bool r) ∧ Below w.heap.size w w':=by
 have hu29:=Tryz.underlying29
 have hu55:=Tryz.underlying55
 have HR0_0:=am hr0_0
 have HC0_0:=am hc0_0
 clear hr0_0 hc0_0
 have HB:=am (Below.refl w.heap.size w)
 have H : (impl_MapOk.l0 k l0_0 (l0_0.length : Int) 0 l0_0) = some r:=h
 clear h
 have H':=am H
 clear H
 go_enter Tryz.func54,Tryz.ntmps54
 go_wp2_with (first | ((with_reducible refine gD 1 rfl ?_);refine box_event rfl (N:=1) rfl (cs:=#[.slice A0_0 l0_0.length c0_0]) (t:=29) hr_ ?_;intro gb287 hg w2 hbox hb;have BK287:=am hbox;have GW287:=gwE HB hg;have GE287:=gwE HB hg;replace HB:=hbS HB hb;clear hb hbox hg;have hcz3_0:=bcell BK287 0;have hfz3_0:=blk_frozen BK287.out 0))
 go_loopg [8] k (fun kq v8 w'=>∃ (x8_1 : Int),v8 = .int .i64 x8_1 ∧ Aside0 (impl_MapOk.l0 kq l0_0 (l0_0.length : Int) x8_1 l0_0 = some r) ∧ Aside0 (kq ≤ k) ∧ Aside0 (w'.heap[gb287]? = some (.cells #[(.slice A0_0 l0_0.length c0_0)] 29 (0,0))) ∧ Aside0 (Below w.heap.size w w'))
 case atStart=>exact ⟨(0),rs_,H',⟨Nat.le_refl _⟩,⟨bk BK287⟩,⟨m2_⟩⟩
 case round=>
  clear H'
  try clear p2
  try clear hcz3_0
  try clear hfz3_0
  obtain ⟨x8_1,rfl,HA,HK1,BK287,HB⟩:=hrel
  cases gk with
  | zero=>exact absurd HA.out (by simp [impl_MapOk.l0])
  | succ k1=>
   have H:=HA.out
   clear HA
   simp only [impl_MapOk.l0] at H
   by_cases c4 : x8_1 < (l0_0.length : Int)
   ·rw [if_pos c4] at H
    have c4b0 : decide (x8_1 < (l0_0.length : Int)) = true:=decide_eq_true c4
    clear c4
    by_cases c5 : 0 ≤ x8_1
    ·rw [if_pos c5] at H
     have c5b0 : decide (0 ≤ x8_1) = true:=decide_eq_true c5
     clear c5
     by_cases c6 : x8_1 < (l0_0.length : Int)
     ·rw [if_pos c6] at H
      have c6b0 : decide (x8_1 < (l0_0.length : Int)) = true:=decide_eq_true c6
      clear c6
      obtain ⟨t290,A7,H⟩:=bse H
      try dsimp only at H
      by_cases c8 : t290 = true
      ·subst c8
       have H1 : (if x8_1 ≤ (l0_0.length : Int) then ((impl_EndPoint_81.f k1 (l0_0.take (x8_1 : Int).toNat) ((rd_T55 l0_0 x8_1).f0) ((rd_T55 l0_0 x8_1).f1)).bind fun t295=>(if t295 = true then (some false) else (impl_MapOk.l0 k1 l0_0 (l0_0.length : Int) (wrap64 (x8_1 + 1)) l0_0))) else (none)) = some r:=by rw [if_pos rfl] at H;exact H
       clear H
       have H:=H1
       clear H1
       have c9b0:=eq_true (of_decide_eq_true da_ : 0 ≤ x8_1)
       by_cases c10 : x8_1 ≤ (l0_0.length : Int)
       ·rw [if_pos c10] at H
        have c10b0:=eq_true c10
        have c10b1 : decide (x8_1 ≤ (l0_0.length : Int)) = true:=decide_eq_true c10
        clear c10
        obtain ⟨y291,hy291⟩ : ∃ y_ : List (S55),y_ = (l0_0.take (x8_1 : Int).toNat):=⟨_,rfl⟩
        replace H : ((impl_EndPoint_81.f k1 y291 ((rd_T55 l0_0 x8_1).f0) ((rd_T55 l0_0 x8_1).f1)).bind fun t295=>(if t295 = true then (some false) else (impl_MapOk.l0 k1 l0_0 (l0_0.length : Int) (wrap64 (x8_1 + 1)) l0_0))) = some r:=by first | (rw [hy291];with_reducible exact H) | (have H2_:=(Option.bind_some _ _).symm.trans H;rw [hy291];with_reducible exact H2_) | (have H2_:=(Option.bind_some _ _).symm.trans H;with_reducible exact H2_) | with_reducible exact H | (rw [hy291];exact H) | exact H
        have Ny291:=am hy291
        clear hy291
        obtain ⟨t295,A11,H⟩:=bse H
        try dsimp only at H
        by_cases c12 : t295 = true
        ·subst c12
         have H1 : (some false) = some r:=by rw [if_pos rfl] at H;exact H
         clear H
         have H:=H1
         clear H1
         obtain rfl:=Option.some.inj H
         have p288 : 0 ≤ (x8_1 : Int):=of_decide_eq_true da_
         have q288 : x8_1 < (l0_0.length : Int):=of_decide_eq_true da_
         obtain ⟨ad288,e288,hx288_0,hx288_1⟩:=at_T55 HR0_0.out x8_1 p288 q288
         cases e288
         replace hx288_0:=bcl HB hx288_0
         replace hx288_1:=bcl HB hx288_1
         replace p288:=eq_true p288
         replace q288:=eq_true q288
         try go_wp2_with (first | ((with_reducible refine gD 4 rfl ?_);refine box_event rfl (N:=4) rfl (cs:=#[.int .i64 0,.int .i64 0]) (t:=55) hr_ ?_;intro gb289 hg w13 hbox hb;have BK289:=am hbox;have GW289:=gwE HB hg;have GE289:=gwE HB hg;replace HB:=hbS HB hb;have NB287_289:=neL BK287 hg;have NB289_287:=neG BK287 hg;replace BK287:=bkB BK287 hb;clear hb hbox hg;have:=NB289_287.out;have:=NB287_289.out;have:=bcell BK289 0;have:=bcell BK289 1;have:=bfz BK289 0;have:=bfz BK289 1))
         have n0_ : Aside0 (((w13.setCell ⟨gb289,0,none⟩ (.int .i64 ((rd_T55 l0_0 x8_1).f0))).setCell ⟨gb289,1,none⟩ (.int .i64 ((rd_T55 l0_0 x8_1).f1))).heap[gb287]? = some (.cells #[.slice (some ad288) l0_0.length c0_0] 29 (0,0))):=bf_ BK287
         have n1_ : Aside0 (((w13.setCell ⟨gb289,0,none⟩ (.int .i64 ((rd_T55 l0_0 x8_1).f0))).setCell ⟨gb289,1,none⟩ (.int .i64 ((rd_T55 l0_0 x8_1).f1))).heap[gb289]? = some (.cells #[.int .i64 ((rd_T55 l0_0 x8_1).f0),.int .i64 ((rd_T55 l0_0 x8_1).f1)] 55 (0,0))):=⟨by (with_reducible repeat refine bu ?_);refine blk_put (cs:=#[.int .i64 ((rd_T55 l0_0 x8_1).f0),.int .i64 0]) ?_ 1 _ rfl;(with_reducible repeat refine bu ?_);refine blk_put (cs:=#[.int .i64 0,.int .i64 0]) ?_ 0 _ rfl;(with_reducible repeat refine bu ?_);exact BK289.out⟩
         have n2_ : Aside0 (Below w.heap.size w ((w13.setCell ⟨gb289,0,none⟩ (.int .i64 ((rd_T55 l0_0 x8_1).f0))).setCell ⟨gb289,1,none⟩ (.int .i64 ((rd_T55 l0_0 x8_1).f1)))):=⟨m2_⟩
         (try clear BK287)
         (try clear BK289)
         (try clear HB)
         generalize ((w13.setCell ⟨gb289,0,none⟩ (.int .i64 ((rd_T55 l0_0 x8_1).f0))).setCell ⟨gb289,1,none⟩ (.int .i64 ((rd_T55 l0_0 x8_1).f1))) = w16 at n0_ n1_ n2_ ⊢
         have BK287:=n0_
         have BK289:=n1_
         have HB:=n2_
         clear n0_ n1_ n2_
         replace BK287:=am (blk_drew BK287.out)
         replace BK289:=am (blk_drew BK289.out)
         replace HB:=am (below_drew1 HB.out)
         refine start_ (n:=11) (S:=fun w'=>w'.cell? ⟨gb289,0,none⟩ = some (.int .i64 ((rd_T55 l0_0 x8_1).f0)) ∧ w'.cell? ⟨gb289,1,none⟩ = some (.int .i64 ((rd_T55 l0_0 x8_1).f1)) ∧ w'.cell? ⟨gb287,0,none⟩ = some (.slice (some ad288) l0_0.length c0_0)) (ds:=[]) #[false,false,false,false,false,false,false,false,false,false,false] (by kernel_rfl) rfl rfl ⟨bcell BK289 0,bcell BK289 1,bcell BK287 0⟩ (fun hHeld=>?_);refine with_tabW impl_MapOk.tab4 impl_MapOk.bits4 (fun HT_ HW_=>?_)
         generalize w16.drew = w17 at BK287 BK289 HB hHeld ⊢
         refine tk_ 0 (some 13) (bm 11 1) rfl (.inl ⟨rfl,m7_⟩) ?_
         refine on_ 1 (some 14) (bm 11 3) (fun K hK=>?_)
         refine gR Tryz.func60 #[.agg #[.int .i64 ((rd_T55 l0_0 x8_1).f0),.int .i64 ((rd_T55 l0_0 x8_1).f1)]] ?_
         with_reducible refine (impl_EndInside.calls ((rd_T55 l0_0 x8_1).f0) ((rd_T55 l0_0 x8_1).f1) true _ A7.out).mono ?_
         rintro e w18 ⟨rfl,hb⟩
         refine ⟨_,rfl,?_⟩
         replace BK287:=bkB BK287 hb
         replace BK289:=bkB BK289 hb
         replace HB:=hbS HB hb
         (try clear hb)
         (try clear hb2)
         (try clear hk)
         (try clear hi)
         have q19 : (x8_1 : Int) ≤ ((l0_0.length : Int) : Int):=of_decide_eq_true da_
         obtain ⟨i019,hi019,_,hsz19,_⟩:=info_parts info55
         have hroom19 : l0_0.length ≤ c0_0:=HC0_0.out
         have hC19 : Kd.C k55 _ (some ad288) l0_0.length l0_0:=HR0_0.out
         have hcut19:=cut_to (P:=Tryz.prog) 27 55 .i64 Tryz.underlying27 hi019 (some ad288) l0_0.length c0_0 x8_1 (of_decide_eq_true da_) q19 hroom19
         have hr19:=Kd.C_take (m:=(x8_1 : Int).toNat) hC19 (by omega)
         have hy19 : y291.length = (x8_1 : Int).toNat:=(by rw [Ny291.out,List.length_take];omega)
         rw [← Ny291.out] at hr19
         rw [← hy19] at hcut19
         have HR294:=am hr19
         have HC294:=am (show y291.length ≤ c0_0 from by omega)
         clear hr19 hC19 hroom19 hi019 hsz19
         have KY19:=am hy19
         clear hy19
         replace q19:=eq_true q19
         refine hK.out _ _ ⟨bcell BK289 0,bcell BK289 1,bcell BK287 0⟩ (fun hHeld=>?_)
         clear hK K
         refine nm_ ?_
         refine pu_ 2 (some 15) (bm 11 7) ?_
         refine pu_ 3 (some 16) (bm 11 15) ?_
         refine pu_ 4 (some 17) (bm 11 31) ?_
         refine pu_ 6 (some 19) (bm 11 95) ?_
         refine tk_ 5 (some 18) (bm 11 127) rfl (.inl ⟨rfl,m7_⟩) ?_
         refine pu_ 7 (some 20) (bm 11 255) ?_
         refine tk_ 8 (some 21) (bm 11 511) rfl (.inl ⟨rfl,m7_⟩) ?_
         refine on_ 9 (some 22) (bm 11 1023) (fun K hK=>?_)
         refine gR Tryz.func81 #[.slice (some ad288) y291.length c0_0,.agg #[.int .i64 ((rd_T55 l0_0 x8_1).f0),.int .i64 ((rd_T55 l0_0 x8_1).f1)]] ?_
         with_reducible refine (impl_EndPoint_81.calls k1 _ _ y291 ((rd_T55 l0_0 x8_1).f0) ((rd_T55 l0_0 x8_1).f1) true _ ?side1 ?side2 A11.out).mono ?_
         (case side1=>exact m22_)
         (case side2=>exact HC294.out)
         rintro e w20 ⟨rfl,hb⟩
         refine ⟨_,rfl,?_⟩
         replace BK287:=bkB BK287 hb
         replace BK289:=bkB BK289 hb
         replace HB:=hbS HB hb
         (try clear hb)
         (try clear hb2)
         (try clear hk)
         (try clear hi)
         refine hK.out _ _ ⟨bcell BK289 0,bcell BK289 1,bcell BK287 0⟩ (fun hHeld=>?_)
         clear hK K
         refine nm_ ?_
         refine pu_ 10 (some 23) (bm 11 2047) ?_
         refine done_ (done_of HT_.out (by kernel_rfl)) ?_
         try go_wp2
         go_ret
         exact ⟨fi_,m2_⟩
        ·replace c12:=Bool.eq_false_iff.mpr c12
         subst c12
         have H1 : (impl_MapOk.l0 k1 l0_0 (l0_0.length : Int) (wrap64 (x8_1 + 1)) l0_0) = some r:=by rw [if_neg (show ¬ (false = true) by decide)] at H;exact H
         clear H
         have H:=H1
         clear H1
         have H':=am H
         clear H
         have p288 : 0 ≤ (x8_1 : Int):=of_decide_eq_true da_
         have q288 : x8_1 < (l0_0.length : Int):=of_decide_eq_true da_
         obtain ⟨ad288,e288,hx288_0,hx288_1⟩:=at_T55 HR0_0.out x8_1 p288 q288
         cases e288
         replace hx288_0:=bcl HB hx288_0
         replace hx288_1:=bcl HB hx288_1
         replace p288:=eq_true p288
         replace q288:=eq_true q288
         try go_wp2_with (first | ((with_reducible refine gD 4 rfl ?_);refine box_event rfl (N:=4) rfl (cs:=#[.int .i64 0,.int .i64 0]) (t:=55) hr_ ?_;intro gb289 hg w21 hbox hb;have BK289:=am hbox;have GW289:=gwE HB hg;have GE289:=gwE HB hg;replace HB:=hbS HB hb;have NB287_289:=neL BK287 hg;have NB289_287:=neG BK287 hg;replace BK287:=bkB BK287 hb;clear hb hbox hg;have:=NB289_287.out;have:=NB287_289.out;have:=bcell BK289 0;have:=bcell BK289 1;have:=bfz BK289 0;have:=bfz BK289 1))
         have n0_ : Aside0 (((w21.setCell ⟨gb289,0,none⟩ (.int .i64 ((rd_T55 l0_0 x8_1).f0))).setCell ⟨gb289,1,none⟩ (.int .i64 ((rd_T55 l0_0 x8_1).f1))).heap[gb287]? = some (.cells #[.slice (some ad288) l0_0.length c0_0] 29 (0,0))):=bf_ BK287
         have n1_ : Aside0 (((w21.setCell ⟨gb289,0,none⟩ (.int .i64 ((rd_T55 l0_0 x8_1).f0))).setCell ⟨gb289,1,none⟩ (.int .i64 ((rd_T55 l0_0 x8_1).f1))).heap[gb289]? = some (.cells #[.int .i64 ((rd_T55 l0_0 x8_1).f0),.int .i64 ((rd_T55 l0_0 x8_1).f1)] 55 (0,0))):=⟨by (with_reducible repeat refine bu ?_);refine blk_put (cs:=#[.int .i64 ((rd_T55 l0_0 x8_1).f0),.int .i64 0]) ?_ 1 _ rfl;(with_reducible repeat refine bu ?_);refine blk_put (cs:=#[.int .i64 0,.int .i64 0]) ?_ 0 _ rfl;(with_reducible repeat refine bu ?_);exact BK289.out⟩
         have n2_ : Aside0 (Below w.heap.size w ((w21.setCell ⟨gb289,0,none⟩ (.int .i64 ((rd_T55 l0_0 x8_1).f0))).setCell ⟨gb289,1,none⟩ (.int .i64 ((rd_T55 l0_0 x8_1).f1)))):=⟨m2_⟩
         (try clear BK287)
         (try clear BK289)
         (try clear HB)
         generalize ((w21.setCell ⟨gb289,0,none⟩ (.int .i64 ((rd_T55 l0_0 x8_1).f0))).setCell ⟨gb289,1,none⟩ (.int .i64 ((rd_T55 l0_0 x8_1).f1))) = w24 at n0_ n1_ n2_ ⊢
         have BK287:=n0_
         have BK289:=n1_
         have HB:=n2_
         clear n0_ n1_ n2_
         replace BK287:=am (blk_drew BK287.out)
         replace BK289:=am (blk_drew BK289.out)
         replace HB:=am (below_drew1 HB.out)
         refine start_ (n:=11) (S:=fun w'=>w'.cell? ⟨gb289,0,none⟩ = some (.int .i64 ((rd_T55 l0_0 x8_1).f0)) ∧ w'.cell? ⟨gb289,1,none⟩ = some (.int .i64 ((rd_T55 l0_0 x8_1).f1)) ∧ w'.cell? ⟨gb287,0,none⟩ = some (.slice (some ad288) l0_0.length c0_0)) (ds:=[]) #[false,false,false,false,false,false,false,false,false,false,false] (by kernel_rfl) rfl rfl ⟨bcell BK289 0,bcell BK289 1,bcell BK287 0⟩ (fun hHeld=>?_);refine with_tabW impl_MapOk.tab4 impl_MapOk.bits4 (fun HT_ HW_=>?_)
         generalize w24.drew = w25 at BK287 BK289 HB hHeld ⊢
         refine tk_ 0 (some 13) (bm 11 1) rfl (.inl ⟨rfl,m7_⟩) ?_
         refine on_ 1 (some 14) (bm 11 3) (fun K hK=>?_)
         refine gR Tryz.func60 #[.agg #[.int .i64 ((rd_T55 l0_0 x8_1).f0),.int .i64 ((rd_T55 l0_0 x8_1).f1)]] ?_
         with_reducible refine (impl_EndInside.calls ((rd_T55 l0_0 x8_1).f0) ((rd_T55 l0_0 x8_1).f1) true _ A7.out).mono ?_
         rintro e w26 ⟨rfl,hb⟩
         refine ⟨_,rfl,?_⟩
         replace BK287:=bkB BK287 hb
         replace BK289:=bkB BK289 hb
         replace HB:=hbS HB hb
         (try clear hb)
         (try clear hb2)
         (try clear hk)
         (try clear hi)
         have q27 : (x8_1 : Int) ≤ ((l0_0.length : Int) : Int):=of_decide_eq_true da_
         obtain ⟨i027,hi027,_,hsz27,_⟩:=info_parts info55
         have hroom27 : l0_0.length ≤ c0_0:=HC0_0.out
         have hC27 : Kd.C k55 _ (some ad288) l0_0.length l0_0:=HR0_0.out
         have hcut27:=cut_to (P:=Tryz.prog) 27 55 .i64 Tryz.underlying27 hi027 (some ad288) l0_0.length c0_0 x8_1 (of_decide_eq_true da_) q27 hroom27
         have hr27:=Kd.C_take (m:=(x8_1 : Int).toNat) hC27 (by omega)
         have hy27 : y291.length = (x8_1 : Int).toNat:=(by rw [Ny291.out,List.length_take];omega)
         rw [← Ny291.out] at hr27
         rw [← hy27] at hcut27
         have HR294:=am hr27
         have HC294:=am (show y291.length ≤ c0_0 from by omega)
         clear hr27 hC27 hroom27 hi027 hsz27
         have KY27:=am hy27
         clear hy27
         replace q27:=eq_true q27
         refine hK.out _ _ ⟨bcell BK289 0,bcell BK289 1,bcell BK287 0⟩ (fun hHeld=>?_)
         clear hK K
         refine nm_ ?_
         refine pu_ 2 (some 15) (bm 11 7) ?_
         refine pu_ 3 (some 16) (bm 11 15) ?_
         refine pu_ 4 (some 17) (bm 11 31) ?_
         refine pu_ 6 (some 19) (bm 11 95) ?_
         refine tk_ 5 (some 18) (bm 11 127) rfl (.inl ⟨rfl,m7_⟩) ?_
         refine pu_ 7 (some 20) (bm 11 255) ?_
         refine tk_ 8 (some 21) (bm 11 511) rfl (.inl ⟨rfl,m7_⟩) ?_
         refine on_ 9 (some 22) (bm 11 1023) (fun K hK=>?_)
         refine gR Tryz.func81 #[.slice (some ad288) y291.length c0_0,.agg #[.int .i64 ((rd_T55 l0_0 x8_1).f0),.int .i64 ((rd_T55 l0_0 x8_1).f1)]] ?_
         with_reducible refine (impl_EndPoint_81.calls k1 _ _ y291 ((rd_T55 l0_0 x8_1).f0) ((rd_T55 l0_0 x8_1).f1) false _ ?side1 ?side2 A11.out).mono ?_
         (case side1=>exact m22_)
         (case side2=>exact HC294.out)
         rintro e w28 ⟨rfl,hb⟩
         refine ⟨_,rfl,?_⟩
         replace BK287:=bkB BK287 hb
         replace BK289:=bkB BK289 hb
         replace HB:=hbS HB hb
         (try clear hb)
         (try clear hb2)
         (try clear hk)
         (try clear hi)
         refine hK.out _ _ ⟨bcell BK289 0,bcell BK289 1,bcell BK287 0⟩ (fun hHeld=>?_)
         clear hK K
         refine nm_ ?_
         refine pu_ 10 (some 23) (bm 11 2047) ?_
         refine done_ (done_of HT_.out (by kernel_rfl)) ?_
         try go_wp2
         go_roundg k1
         case measure=>have:=HK1.out;omega
         case rel=>exact ⟨(wrap64 (x8_1 + 1)),rs_,H',⟨by have:=HK1.out;omega⟩,⟨bk BK287⟩,⟨m2_⟩⟩
       ·rw [if_neg c10] at H
        exact absurd H (by simp)
      ·replace c8:=Bool.eq_false_iff.mpr c8
       subst c8
       have H1 : (some false) = some r:=by rw [if_neg (show ¬ (false = true) by decide)] at H;exact H
       clear H
       have H:=H1
       clear H1
       obtain rfl:=Option.some.inj H
       have p288 : 0 ≤ (x8_1 : Int):=of_decide_eq_true da_
       have q288 : x8_1 < (l0_0.length : Int):=of_decide_eq_true da_
       obtain ⟨ad288,e288,hx288_0,hx288_1⟩:=at_T55 HR0_0.out x8_1 p288 q288
       cases e288
       replace hx288_0:=bcl HB hx288_0
       replace hx288_1:=bcl HB hx288_1
       replace p288:=eq_true p288
       replace q288:=eq_true q288
       try go_wp2_with (first | ((with_reducible refine gD 4 rfl ?_);refine box_event rfl (N:=4) rfl (cs:=#[.int .i64 0,.int .i64 0]) (t:=55) hr_ ?_;intro gb289 hg w29 hbox hb;have BK289:=am hbox;have GW289:=gwE HB hg;have GE289:=gwE HB hg;replace HB:=hbS HB hb;have NB287_289:=neL BK287 hg;have NB289_287:=neG BK287 hg;replace BK287:=bkB BK287 hb;clear hb hbox hg;have:=NB289_287.out;have:=NB287_289.out;have:=bcell BK289 0;have:=bcell BK289 1;have:=bfz BK289 0;have:=bfz BK289 1))
       have n0_ : Aside0 (((w29.setCell ⟨gb289,0,none⟩ (.int .i64 ((rd_T55 l0_0 x8_1).f0))).setCell ⟨gb289,1,none⟩ (.int .i64 ((rd_T55 l0_0 x8_1).f1))).heap[gb287]? = some (.cells #[.slice (some ad288) l0_0.length c0_0] 29 (0,0))):=bf_ BK287
       have n1_ : Aside0 (((w29.setCell ⟨gb289,0,none⟩ (.int .i64 ((rd_T55 l0_0 x8_1).f0))).setCell ⟨gb289,1,none⟩ (.int .i64 ((rd_T55 l0_0 x8_1).f1))).heap[gb289]? = some (.cells #[.int .i64 ((rd_T55 l0_0 x8_1).f0),.int .i64 ((rd_T55 l0_0 x8_1).f1)] 55 (0,0))):=⟨by (with_reducible repeat refine bu ?_);refine blk_put (cs:=#[.int .i64 ((rd_T55 l0_0 x8_1).f0),.int .i64 0]) ?_ 1 _ rfl;(with_reducible repeat refine bu ?_);refine blk_put (cs:=#[.int .i64 0,.int .i64 0]) ?_ 0 _ rfl;(with_reducible repeat refine bu ?_);exact BK289.out⟩
       have n2_ : Aside0 (Below w.heap.size w ((w29.setCell ⟨gb289,0,none⟩ (.int .i64 ((rd_T55 l0_0 x8_1).f0))).setCell ⟨gb289,1,none⟩ (.int .i64 ((rd_T55 l0_0 x8_1).f1)))):=⟨m2_⟩
       (try clear BK287)
       (try clear BK289)
       (try clear HB)
       generalize ((w29.setCell ⟨gb289,0,none⟩ (.int .i64 ((rd_T55 l0_0 x8_1).f0))).setCell ⟨gb289,1,none⟩ (.int .i64 ((rd_T55 l0_0 x8_1).f1))) = w32 at n0_ n1_ n2_ ⊢
       have BK287:=n0_
       have BK289:=n1_
       have HB:=n2_
       clear n0_ n1_ n2_
       replace BK287:=am (blk_drew BK287.out)
       replace BK289:=am (blk_drew BK289.out)
       replace HB:=am (below_drew1 HB.out)
       refine start_ (n:=11) (S:=fun w'=>w'.cell? ⟨gb289,0,none⟩ = some (.int .i64 ((rd_T55 l0_0 x8_1).f0)) ∧ w'.cell? ⟨gb289,1,none⟩ = some (.int .i64 ((rd_T55 l0_0 x8_1).f1))) (ds:=[]) #[false,false,false,false,false,false,false,false,false,false,false] (by kernel_rfl) rfl rfl ⟨bcell BK289 0,bcell BK289 1⟩ (fun hHeld=>?_);refine with_tabW impl_MapOk.tab4 impl_MapOk.bits4 (fun HT_ HW_=>?_)
       generalize w32.drew = w33 at BK287 BK289 HB hHeld ⊢
       refine tk_ 0 (some 13) (bm 11 1) rfl (.inl ⟨rfl,m4_⟩) ?_
       refine on_ 1 (some 14) (bm 11 3) (fun K hK=>?_)
       refine gR Tryz.func60 #[.agg #[.int .i64 ((rd_T55 l0_0 x8_1).f0),.int .i64 ((rd_T55 l0_0 x8_1).f1)]] ?_
       with_reducible refine (impl_EndInside.calls ((rd_T55 l0_0 x8_1).f0) ((rd_T55 l0_0 x8_1).f1) false _ A7.out).mono ?_
       rintro e w34 ⟨rfl,hb⟩
       refine ⟨_,rfl,?_⟩
       replace BK287:=bkB BK287 hb
       replace BK289:=bkB BK289 hb
       replace HB:=hbS HB hb
       (try clear hb)
       (try clear hb2)
       (try clear hk)
       (try clear hi)
       refine hK.out _ _ ⟨bcell BK289 0,bcell BK289 1⟩ (fun hHeld=>?_)
       clear hK K
       refine nm_ ?_
       refine pu_ 2 (some 15) (bm 11 7) ?_
       refine pu_ 3 (some 16) (bm 11 15) ?_
       refine pv_ 4 (some 17) (bm 11 31) ?_
       refine pv_ 5 (some 18) (bm 11 63) ?_
       refine pv_ 6 (some 19) (bm 11 127) ?_
       refine pv_ 7 (some 20) (bm 11 255) ?_
       refine pv_ 8 (some 21) (bm 11 511) ?_
       refine pv_ 9 (some 22) (bm 11 1023) ?_
       refine pu_ 10 (some 23) (bm 11 2047) ?_
       refine done_ (done_of HT_.out (by kernel_rfl)) ?_
       try go_wp2
       go_ret
       exact ⟨fi_,m2_⟩
     ·rw [if_neg c6] at H
      exact absurd H (by simp)
    ·rw [if_neg c5] at H
     exact absurd H (by simp)
   ·rw [if_neg c4] at H
    have c4b0 : decide (x8_1 < (l0_0.length : Int)) = false:=decide_eq_false c4
    clear c4
    obtain rfl:=Option.some.inj H
    have:=bcell BK287 0
    have:=bfz BK287 0
    go_wp2
    go_ret
    exact ⟨fi_,m2_⟩
end
theorem fnd_nil (a b : Int) : fnd [] a b = none := rfl
theorem fnd_cons (x : S55) (r : List S55) (a b : Int) : fnd (x :: r) a b = if x.f0 = a ∧ x.f1 = b then some 0 else (fnd r a b).map (· + 1) := by
  unfold fnd
  rw [List.findIdx?_cons]
  by_cases h : x.f0 = a ∧ x.f1 = b
  · simp [h]
  · rw [if_neg h]
    have : (x.f0 == a && x.f1 == b) = false := by
      rw [Bool.eq_false_iff]
      simpa using h
    simp [this]
theorem fnd_lt {l : List S55} {a b : Int} {i : Nat} (h : fnd l a b = some i) : i < l.length ∧ ∀ hi : i < l.length, l[i].f0 = a ∧ l[i].f1 = b := by
  unfold fnd at h
  rw [List.findIdx?_eq_some_iff_getElem] at h
  obtain ⟨h1, h2, _⟩ := h
  exact ⟨h1, fun _ => by simpa using h2⟩
theorem fnd_app (l r : List S55) (a b : Int) : fnd (l ++ r) a b = (match fnd l a b with | some i => some i | none => (fnd r a b).map (· + l.length)) := by
  unfold fnd
  rw [List.findIdx?_append]
  cases l.findIdx? (fun x => x.f0 == a && x.f1 == b) <;> simp
def sign (o : Option Nat) : Int := match o with | none => -1 | some i => (i : Int)
theorem rd29_take {l : List S55} {i : Nat} (h : i < l.length) : l.take (i + 1) = l.take i ++ [rd_T55 l (i : Int)] := by
  rw [rd29_get h]
  exact List.take_succ_eq_append_getElem h
theorem l3Find_a (l : List S55) (hl : l.length ≤ 2000000) (a b : Int) : Ans (fun k => spec_l3Find.f k l a b) (fun r => r = sign (fnd l a b)) := by
  have L : ∀ (m i : Nat), i + m = l.length → fnd (l.take i) a b = none → Ans (fun k => spec_l3Find.l0 k (i : Int) l a b) (fun r => r = sign (fnd l a b)) := by
    intro m
    induction m with
    | zero =>
      intro i hi hn
      refine Ans.succ ?_
      unfold spec_l3Find.l0
      rw [List.take_of_length_le (by omega)] at hn
      exact Ans.neg (by omega) (Ans.pure (by rw [hn]; rfl))
    | succ m ih =>
      intro i hi hn
      refine Ans.succ ?_
      unfold spec_l3Find.l0
      refine Ans.pos (by omega) (Ans.pos (by omega) ?_)
      have ht : fnd (l.take (i + 1)) a b = if (rd_T55 l (i : Int)).f0 = a ∧ (rd_T55 l (i : Int)).f1 = b then some i else none := by
        rw [rd29_take (by omega : i < l.length), fnd_app, hn, fnd_cons]
        have : (l.take i).length = i := by rw [List.length_take]; omega
        dsimp only
        by_cases hc : (rd_T55 l (i : Int)).f0 = a ∧ (rd_T55 l (i : Int)).f1 = b <;> simp [hc, this, fnd_nil]
      refine Ans.ite (fun c => Ans.pure ?_) (fun c => ?_)
      · have c' : (rd_T55 l (i : Int)).f0 = a ∧ (rd_T55 l (i : Int)).f1 = b := by simpa using c
        rw [if_pos c'] at ht
        have := List.take_append_drop (i + 1) l
        rw [← this, fnd_app, ht]
        rfl
      · have c' : ¬ ((rd_T55 l (i : Int)).f0 = a ∧ (rd_T55 l (i : Int)).f1 = b) := by simpa using c
        rw [if_neg c'] at ht
        rw [wi i (by omega)]
        exact ih (i + 1) (by omega) ht
  exact L l.length 0 (by omega) rfl
theorem contains_a (l : List S55) (hl : l.length ≤ 2000000) (a b : Int) : Ans (fun k => impl_EndPoint_81.f k l a b) (fun r => r = (fnd l a b).isSome) := by
  unfold impl_EndPoint_81.f impl_EndPoint_101.f
  have L : ∀ (m i : Nat), i + m = l.length → fnd (l.take i) a b = none → Ans (fun k => impl_EndPoint_101.l0 k l (l.length : Int) (i : Int) a b) (fun r => r = sign (fnd l a b)) := by
    intro m
    induction m with
    | zero =>
      intro i hi hn
      refine Ans.succ ?_
      unfold impl_EndPoint_101.l0
      rw [List.take_of_length_le (by omega)] at hn
      exact Ans.neg (by omega) (Ans.pure (by rw [hn]; rfl))
    | succ m ih =>
      intro i hi hn
      refine Ans.succ ?_
      unfold impl_EndPoint_101.l0
      refine Ans.pos (by omega) (Ans.pos (by omega) (Ans.pos (by omega) ?_))
      have ht : fnd (l.take (i + 1)) a b = if (rd_T55 l (i : Int)).f0 = a ∧ (rd_T55 l (i : Int)).f1 = b then some i else none := by
        rw [rd29_take (by omega : i < l.length), fnd_app, hn, fnd_cons]
        have : (l.take i).length = i := by rw [List.length_take]; omega
        dsimp only
        by_cases hc : (rd_T55 l (i : Int)).f0 = a ∧ (rd_T55 l (i : Int)).f1 = b <;> simp [hc, this, fnd_nil]
      refine Ans.ite (fun c => Ans.pure ?_) (fun c => ?_)
      · have c' : (rd_T55 l (i : Int)).f0 = a ∧ (rd_T55 l (i : Int)).f1 = b := by
          simp only [Bool.and_eq_true, beq_iff_eq] at c
          exact ⟨c.1.symm, c.2.symm⟩
        rw [if_pos c'] at ht
        have := List.take_append_drop (i + 1) l
        rw [← this, fnd_app, ht]
        rfl
      · have c' : ¬ ((rd_T55 l (i : Int)).f0 = a ∧ (rd_T55 l (i : Int)).f1 = b) := by
          rintro ⟨h1, h2⟩
          exact c (by rw [h1, h2]; simp)
        rw [if_neg c'] at ht
        rw [wi i (by omega)]
        exact ih (i + 1) (by omega) ht
  refine Ans.bind (L l.length 0 (by omega) rfl) ?_
  rintro _ rfl
  refine Ans.pure ?_
  cases fnd l a b with
  | none => rfl
  | some i => simp [sign]
def goodFrom (l : List S55) (i : Nat) : Bool := (List.range' i (l.length - i)).all fun j => endIn (rd_T55 l (j : Int)).f0 (rd_T55 l (j : Int)).f1 && !(fnd (l.take j) (rd_T55 l (j : Int)).f0 (rd_T55 l (j : Int)).f1).isSome
def okT (l : List S55) : Bool := decide ((l.length : Int) ≤ 6) && goodFrom l 0
theorem good_end {l : List S55} {i : Nat} (h : l.length ≤ i) : goodFrom l i = true := by
  unfold goodFrom
  rw [Nat.sub_eq_zero_of_le h]
  rfl
theorem good_step {l : List S55} {i : Nat} (h : i < l.length) : goodFrom l i = (endIn (rd_T55 l (i : Int)).f0 (rd_T55 l (i : Int)).f1 && !(fnd (l.take i) (rd_T55 l (i : Int)).f0 (rd_T55 l (i : Int)).f1).isSome && goodFrom l (i + 1)) := by
  unfold goodFrom
  obtain ⟨d, hd⟩ : ∃ d, l.length - i = d + 1 := ⟨l.length - i - 1, by omega⟩
  have hd' : l.length - (i + 1) = d := by omega
  rw [hd, hd', List.range'_succ, List.all_cons]
theorem specMapOk_a (l : List S55) (hl : l.length ≤ 2000000) : Ans (fun k => spec_MapOk.f k l) (fun r => r = okT l) := by
  unfold spec_MapOk.f okT
  refine Ans.ite (fun c => Ans.pure ?_) (fun c => ?_)
  · have : ¬ ((l.length : Int) ≤ 6) := by omega
    simp [this]
  · have e : decide ((l.length : Int) ≤ 6) = true := by simp; omega
    rw [e]
    have L : ∀ (m i : Nat), i + m = l.length → Ans (fun k => spec_MapOk.l0 k (i : Int) l) (fun r => r = goodFrom l i) := by
      intro m
      induction m with
      | zero =>
        intro i hi
        refine Ans.succ ?_
        unfold spec_MapOk.l0
        exact Ans.neg (by omega) (Ans.pure (good_end (by omega)).symm)
      | succ m ih =>
        intro i hi
        refine Ans.succ ?_
        unfold spec_MapOk.l0
        refine Ans.pos (by omega) (Ans.pos (by omega) ?_)
        rw [good_step (by omega : i < l.length)]
        simp only [specEndInside_f, Option.bind_some]
        have e1 : ((i : Int)).toNat = i := by omega
        cases h1 : endIn (rd_T55 l (i : Int)).f0 (rd_T55 l (i : Int)).f1
        · exact Ans.neg (by simp) (Ans.pure (by simp))
        refine Ans.pos rfl (Ans.pos (by omega) ?_)
        rw [e1, wi i (by omega)]
        refine Ans.bind (l3Find_a (l.take i) (by rw [List.length_take]; omega) _ _) ?_
        rintro _ rfl
        cases hf : fnd (l.take i) (rd_T55 l (i : Int)).f0 (rd_T55 l (i : Int)).f1 with
        | none =>
          refine Ans.neg (by simp [sign]) ?_
          simpa using ih (i + 1) (by omega)
        | some j => exact Ans.pos (by simp [sign]) (Ans.pure (by simp))
    simpa using L l.length 0 (by omega)
theorem implMapOk_a (l : List S55) (hl : l.length ≤ 2000000) : Ans (fun k => impl_MapOk.f k l) (fun r => r = okT l) := by
  unfold impl_MapOk.f
  have L : ∀ (m i : Nat), i + m = l.length → Ans (fun k => impl_MapOk.l0 k l (l.length : Int) (i : Int) l) (fun r => r = (decide ((l.length : Int) ≤ 6) && goodFrom l i)) := by
    intro m
    induction m with
    | zero =>
      intro i hi
      refine Ans.succ ?_
      unfold impl_MapOk.l0
      exact Ans.neg (by omega) (Ans.pure (by rw [good_end (by omega)]; simp))
    | succ m ih =>
      intro i hi
      refine Ans.succ ?_
      unfold impl_MapOk.l0
      refine Ans.pos (by omega) (Ans.pos (by omega) (Ans.pos (by omega) ?_))
      rw [good_step (by omega : i < l.length)]
      simp only [EndInside_f, Option.bind_some]
      have e1 : ((i : Int)).toNat = i := by omega
      cases h1 : endIn (rd_T55 l (i : Int)).f0 (rd_T55 l (i : Int)).f1
      · exact Ans.neg (by simp) (Ans.pure (by simp))
      refine Ans.pos rfl (Ans.pos (by omega) ?_)
      rw [e1, wi i (by omega)]
      refine Ans.bind (contains_a (l.take i) (by rw [List.length_take]; omega) _ _) ?_
      rintro _ rfl
      cases hf : fnd (l.take i) (rd_T55 l (i : Int)).f0 (rd_T55 l (i : Int)).f1 with
      | none =>
        refine Ans.neg (by simp) ?_
        simpa using ih (i + 1) (by omega)
      | some j => exact Ans.pos (by simp) (Ans.pure (by simp))
  exact L l.length 0 (by omega)
def putV (l : List S55) (a b : Int) : List S55 × Int := if portV l a b ≠ 0 then (l, portV l a b) else if l.length = 6 then (l, 0) else (l ++ [⟨a, b⟩], 500 + l.length)
theorem portV_sign (l : List S55) (a b : Int) : portV l a b = if sign (fnd l a b) < 0 then 0 else 500 + sign (fnd l a b) := by
  unfold portV sign
  cases fnd l a b with
  | none => simp
  | some i =>
    have : ¬ ((i : Int) < 0) := by omega
    simp [this]
theorem sign_lt {l : List S55} (hl : l.length ≤ 2000000) (a b : Int) : -1 ≤ sign (fnd l a b) ∧ sign (fnd l a b) < 2000000 := by
  cases h : fnd l a b with
  | none => simp [sign]
  | some i => have := (fnd_lt h).1; simp only [sign]; omega
theorem portV_range {l : List S55} (hl : l.length ≤ 2000000) (a b : Int) : portV l a b = 0 ∨ (500 ≤ portV l a b ∧ portV l a b < 500 + l.length) := by
  unfold portV
  cases h : fnd l a b with
  | none => exact .inl rfl
  | some i => have := (fnd_lt h).1; dsimp only; omega
theorem specMapPort_a (l : List S55) (hl : l.length ≤ 2000000) (a b : Int) : Ans (fun k => spec_MapPort.f k l a b) (fun r => r = portV l a b) := by
  unfold spec_MapPort.f
  refine Ans.bind (l3Find_a l hl a b) ?_
  rintro _ rfl
  have hs := sign_lt hl a b
  rw [portV_sign]
  refine Ans.ite (fun c => Ans.pure (by rw [if_pos c])) (fun c => Ans.pure ?_)
  rw [if_neg c, w64 _ (by omega)]
theorem okT_le {l : List S55} (h : okT l = true) : l.length ≤ 6 := by
  simp only [okT, Bool.and_eq_true, decide_eq_true_eq] at h
  omega
theorem good_all {l : List S55} (h : goodFrom l 0 = true) : ∀ x ∈ l, endIn x.f0 x.f1 = true := by
  intro x hx
  obtain ⟨j, hj, rfl⟩ := List.getElem_of_mem hx
  unfold goodFrom at h
  have := List.all_eq_true.mp h j (by simp [List.mem_range']; omega)
  rw [rd29_get hj] at this
  simp only [Bool.and_eq_true] at this
  exact this.1
theorem okT_all {l : List S55} (h : okT l = true) : ∀ x ∈ l, endIn x.f0 x.f1 = true := by
  simp only [okT, Bool.and_eq_true] at h
  exact good_all h.2
theorem endIn_wf {a b : Int} (h : endIn a b = true) : wfB a = true ∧ wfB b = true := by
  simp only [endIn, inB, Bool.and_eq_true, decide_eq_true_eq] at h
  unfold wfB
  exact ⟨(i64_iff a).mpr (by omega), (i64_iff b).mpr (by omega)⟩
theorem all_wf {l : List S55} (h : ∀ x ∈ l, endIn x.f0 x.f1 = true) : l.all wfE = true := by
  rw [List.all_eq_true]
  intro x hx
  have := endIn_wf (h x hx)
  simp [wfE, this.1, this.2]
theorem implMapPort_f {l : List S55} (hl : l.length ≤ 1000) (h : ∀ x ∈ l, endIn x.f0 x.f1 = true) {a b : Int} (he : endIn a b = true) : impl_MapPort.f l a b = some (portV l a b) := by
  unfold impl_MapPort.f
  have := endIn_wf he
  rw [if_pos ⟨by omega, all_wf h, this.1, this.2⟩]
theorem l3Put_a (l : List S55) (hl : l.length ≤ 2000000) (a b : Int) : Ans (fun k => spec_l3Put.f k l a b) (fun r => r = putV l a b) := by
  unfold spec_l3Put.f
  refine Ans.bind (specMapPort_a l hl a b) ?_
  rintro _ rfl
  have hr := portV_range hl a b
  refine Ans.ite (fun c1 => Ans.pure ?_) (fun c1 => ?_)
  · have v0 : putV l a b = (l, portV l a b) := by unfold putV; rw [if_pos (by omega)]
    rw [v0]
  · have e0 : portV l a b = 0 := by omega
    refine Ans.ite (fun c2 => Ans.pure ?_) (fun c2 => ?_)
    · have v0 : putV l a b = (l, 0) := by unfold putV; rw [if_neg (by simp [e0]), if_pos (by omega)]
      rw [v0]
    · have v0 : putV l a b = (l ++ [⟨a, b⟩], (500 + l.length : Int)) := by unfold putV; rw [if_neg (by simp [e0]), if_neg (by omega)]
      rw [v0]
      refine Ans.bsome (Ans.pos (by simp; omega) (Ans.bsome (Ans.bsome (Ans.pos (by simp; omega) (Ans.bsome (Ans.pure ?_))))))
      have e1 : (([] ++ l ++ [⟨a, b⟩] : List S55).length : Int) = l.length + 1 := by simp
      rw [e1, w64 (500 + ((l.length : Int) + 1)) (by omega), w64 _ (by omega)]
      simp
      omega
theorem implPut_f {l : List S55} (c : okT l = true) {a b : Int} (he : endIn a b = true) : impl_MapTab_put.f l a b = some (putV l a b) := by
  have hl6 := okT_le c
  have hr := portV_range (l := l) (by omega) a b
  unfold impl_MapTab_put.f impl_MapTab_copied.f impl_EndPoint_103.f impl_EndPoint_102.f
  rw [if_pos (by omega), Option.bind_some, Option.bind_some, Option.bind_some, implMapPort_f (by omega) (okT_all c) he, Option.bind_some]
  unfold putV
  by_cases c1 : portV l a b = 0
  · by_cases c2 : (l.length : Int) ≥ 6
    · have c2' : l.length = 6 := by omega
      simp [c1, c2']
    · have c2' : ¬ l.length = 6 := by omega
      have c3 : l.length < 8796093022208 := by omega
      have c4 : ¬ (6 ≤ l.length) := by omega
      have e : wrap64 (500 + (l.length : Int)) = 500 + l.length := w64 _ (by omega)
      simp [c1, c2', c3, c4, e]
      omega
  · simp [c1]
section
attribute [local go_sem] max2_int min2_int max_two min_two max_three min_three max_four min_four
def laws_toEndPoint.f (a0_0 : Int) (a0_1 : Int) : Option (Int × Int):=some (a0_0,a0_1)
set_option maxHeartbeats 8000000 in
set_option maxRecDepth 100000 in
theorem laws_toEndPoint.calls (a0_0 : Int) (a0_1 : Int) (r1 : Int) (r2 : Int) (w : World) (h : laws_toEndPoint.f a0_0 a0_1 = some (r1,r2)) :
  Calls Tryz.prog 61 #[.agg #[.int .i64 a0_0,.int .i64 a0_1]] w fun e w'=>e = .returned (.agg #[.int .i64 r1,.int .i64 r2]) ∧ Below w.heap.size w w':=by
 have hu77:=Tryz.underlying77
 have hu55:=Tryz.underlying55
 have HB:=am (Below.refl w.heap.size w)
 have H : (some (a0_0,a0_1)) = some (r1,r2):=h
 clear h
 simp only [Option.some.injEq,Prod.mk.injEq] at H
 obtain ⟨rfl,rfl⟩:=H
 go_enter Tryz.func61,Tryz.ntmps61
 go_wp2_with (first | ((with_reducible refine gD 1 rfl ?_);refine box_event rfl (N:=1) rfl (cs:=#[.int .i64 a0_0,.int .i64 a0_1]) (t:=77) hr_ ?_;intro gb262 hg w2 hbox hb;have BK262:=am hbox;have GW262:=gwE HB hg;have GE262:=gwE HB hg;replace HB:=hbS HB hb;clear hb hbox hg) | ((with_reducible refine gD 2 rfl ?_);refine box_event rfl (N:=2) rfl (cs:=#[.int .i64 0,.int .i64 0]) (t:=55) hr_ ?_;intro gb263 hg w3 hbox hb;have BK263:=am hbox;have GW263:=gwE HB hg;have GE263:=gwE HB hg;replace HB:=hbS HB hb;have NB262_263:=neL BK262 hg;have NB263_262:=neG BK262 hg;replace BK262:=bkB BK262 hb;clear hb hbox hg) | ((with_reducible refine gD 3 rfl ?_);refine box_event rfl (N:=3) rfl (cs:=#[.int .i64 0,.int .i64 0]) (t:=55) hr_ ?_;intro gb264 hg w4 hbox hb;have BK264:=am hbox;have GW264:=gwE HB hg;have GE264:=gwE HB hg;replace HB:=hbS HB hb;have NB262_264:=neL BK262 hg;have NB264_262:=neG BK262 hg;replace BK262:=bkB BK262 hb;have NB263_264:=neL BK263 hg;have NB264_263:=neG BK263 hg;replace BK263:=bkB BK263 hb;clear hb hbox hg;have:=NB262_263.out;have:=NB263_262.out;have:=NB262_264.out;have:=NB264_262.out;have:=bcell BK262 0;have:=bcell BK262 1;have:=bfz BK262 0;have:=bfz BK262 1;have:=NB264_263.out;have:=NB263_264.out;have:=bcell BK264 0;have:=bcell BK264 1;have:=bfz BK264 0;have:=bfz BK264 1;have:=bcell BK263 0;have:=bcell BK263 1;have:=bfz BK263 0;have:=bfz BK263 1))
 refine bodyPost_ret (results_cell_row rfl _ _ gb263 55 #[.int .i64 a0_0,.int .i64 a0_1] (0,0) _ rfl (by (with_reducible repeat refine bu ?_);refine blk_put (cs:=#[.int .i64 a0_0,.int .i64 0]) ?_ 1 _ rfl;(with_reducible repeat refine bu ?_);refine blk_put (cs:=#[.int .i64 0,.int .i64 0]) ?_ 0 _ rfl;(with_reducible repeat refine bu ?_);refine blk_far ?_ NB263_264.out _;(with_reducible repeat refine bu ?_);refine blk_far ?_ NB263_264.out _;(with_reducible repeat refine bu ?_);exact BK263.out) Tryz.underlying55 rfl (by kernel_rfl)) rfl ?_
 exact ⟨fi_,m2_⟩
def laws_toEndPointS.l0 : Nat → List (S77) → List (S55) → Int → Option ((List (S55)))
 | 0,_,_,_=>none
 | k + 1,x0,x3,x4=>if x4 < (x0.length : Int) then (if 0 ≤ x4 then ((laws_toEndPoint.f ((rd_T77 x0 x4).f0) ((rd_T77 x0 x4).f1)).bind fun bt269=>(if x4 < (x3.length : Int) then (laws_toEndPointS.l0 k x0 (x3.set (x4 : Int).toNat (⟨bt269.1,bt269.2⟩ : S55)) (wrap64 (x4 + 1))) else (none))) else (none)) else (some x3)
def laws_toEndPointS.f (k : Nat) (l0 : List (S77)) : Option ((List (S55))):=if 0 ≤ (l0.length : Int) then (if ((l0.length : Int) : Int).toNat ≤ 17592186044416 then (laws_toEndPointS.l0 k l0 (List.replicate ((l0.length : Int) : Int).toNat z55) 0) else (none)) else (none)
set_option maxHeartbeats 8000000 in
set_option maxRecDepth 100000 in
theorem laws_toEndPointS.calls (k : Nat) (A0 : Option Addr) (c0 : Nat) (l0 : List (S77)) (r : List (S55)) (w : World) (hr0 : Kd.C k77 w A0 l0.length l0) (hc0 : l0.length ≤ c0) (h : laws_toEndPointS.f k l0 = some r) :
  Calls Tryz.prog 36 #[.slice A0 l0.length c0] w fun e w'=>∃ v0_ : Value,e = .returned (v0_) ∧ Kd.R k55 55 w' w.heap.size (fun _=>True) v0_ r ∧ Below w.heap.size w w':=by
 have hu77:=Tryz.underlying77
 have hu55:=Tryz.underlying55
 have HR0:=am hr0
 have HC0:=am hc0
 clear hr0 hc0
 have HB:=am (Below.refl w.heap.size w)
 have H : (if 0 ≤ (l0.length : Int) then (if ((l0.length : Int) : Int).toNat ≤ 17592186044416 then (laws_toEndPointS.l0 k l0 (List.replicate ((l0.length : Int) : Int).toNat z55) 0) else (none)) else (none)) = some r:=h
 clear h
 by_cases c2 : 0 ≤ (l0.length : Int)
 ·rw [if_pos c2] at H
  have c2b0:=eq_true c2
  have c2b1 : decide (0 ≤ (l0.length : Int)) = true:=decide_eq_true c2
  clear c2
  by_cases c3 : ((l0.length : Int) : Int).toNat ≤ 17592186044416
  ·rw [if_pos c3] at H
   have c3b0:=eq_true c3
   have c3b1 : decide (((l0.length : Int) : Int).toNat ≤ 17592186044416) = true:=decide_eq_true c3
   clear c3
   obtain ⟨y265,hy265⟩ : ∃ y_ : List (S55),y_ = (List.replicate ((l0.length : Int) : Int).toNat z55):=⟨_,rfl⟩
   replace H : (laws_toEndPointS.l0 k l0 y265 0) = some r:=by first | (rw [hy265];with_reducible exact H) | (have H2_:=(Option.bind_some _ _).symm.trans H;rw [hy265];with_reducible exact H2_) | (have H2_:=(Option.bind_some _ _).symm.trans H;with_reducible exact H2_) | with_reducible exact H | (rw [hy265];exact H) | exact H
   have Ny265:=am hy265
   clear hy265
   have H':=am H
   clear H
   go_enter Tryz.func36,Tryz.ntmps36
   go_wp2_with (first | ((with_reducible refine gD 7 rfl ?_);refine Kd.R_make k55 _ 55 rfl (N:=7) rfl 27 _ _ rfl (l0.length : Int) rfl rfl Tryz.underlying27 (.agg #[(.int .i64 0),(.int .i64 0)]) 16 info55 rfl (by decide) (by omega) z55 (ok:=fun _=>True) (okp:=fun _=>True) (k55_mkM _ _ _ z55 ) (fun _ hk=>hk) trivial (of_decide_eq_true da_) (Nat.le_trans (Nat.mul_le_mul_right _ (of_decide_eq_true da_ : (l0.length : Int).toNat ≤ 17592186044416)) (by omega)) (Below.refl _ _) (Nat.le_refl _) ?_;intro v266 w4 ho5 hb hg_ hnew_;clear hg_ hnew_;(first | rw [← Ny265.out] at ho5 | (simp only [Int.reduceToNat] at ho5;rw [← Ny265.out] at ho5));have HO267:=am (Kd.R_lower ho5 (below_size (bl HB)));replace HB:=hbS HB hb;clear hb ho5))
   go_loopg [4] k (fun kq v4 w'=>∃ (x3_1 : List (S55)) (x4_1 : Int),v4 = .int .i64 x4_1 ∧ Aside0 (laws_toEndPointS.l0 kq l0 x3_1 x4_1 = some r) ∧ Aside0 (kq ≤ k) ∧ Aside0 (Kd.R k55 55 w' w.heap.size (fun _=>True) v266 x3_1) ∧ Aside0 (Below w.heap.size w w'))
   case atStart=>exact ⟨(y265),(0),rs_,H',⟨Nat.le_refl _⟩,⟨by (with_reducible repeat apply ru);exact HO267.out⟩,⟨m0_⟩⟩
   case round=>
    clear H'
    try clear c2
    try clear c2b0
    try clear c2b1
    try clear p2
    try clear c3
    try clear c3b0
    try clear c3b1
    obtain ⟨x3_1,x4_1,rfl,HA,HK1,HO_3,HB⟩:=hrel
    cases gk with
    | zero=>exact absurd HA.out (by simp [laws_toEndPointS.l0])
    | succ k1=>
     have H:=HA.out
     clear HA
     simp only [laws_toEndPointS.l0] at H
     by_cases c6 : x4_1 < (l0.length : Int)
     ·rw [if_pos c6] at H
      have c6b0 : decide (x4_1 < (l0.length : Int)) = true:=decide_eq_true c6
      clear c6
      by_cases c7 : 0 ≤ x4_1
      ·rw [if_pos c7] at H
       have c7b0 : decide (0 ≤ x4_1) = true:=decide_eq_true c7
       clear c7
       obtain ⟨⟨t269,t270⟩,A8,H⟩:=bse H
       try dsimp only at H
       by_cases c9 : x4_1 < (x3_1.length : Int)
       ·rw [if_pos c9] at H
        have c9b0 : decide (x4_1 < (x3_1.length : Int)) = true:=decide_eq_true c9
        clear c9
        obtain ⟨y271,hy271⟩ : ∃ y_ : List (S55),y_ = (x3_1.set (x4_1 : Int).toNat (⟨t269,t270⟩ : S55)):=⟨_,rfl⟩
        replace H : (laws_toEndPointS.l0 k1 l0 y271 (wrap64 (x4_1 + 1))) = some r:=by first | (rw [hy271];with_reducible exact H) | (have H2_:=(Option.bind_some _ _).symm.trans H;rw [hy271];with_reducible exact H2_) | (have H2_:=(Option.bind_some _ _).symm.trans H;with_reducible exact H2_) | with_reducible exact H | (rw [hy271];exact H) | exact H
        have Ny271:=am hy271
        clear hy271
        have H':=am H
        clear H
        have p268 : 0 ≤ (x4_1 : Int):=of_decide_eq_true da_
        have q268 : x4_1 < (l0.length : Int):=of_decide_eq_true da_
        obtain ⟨ad268,e268,hx268_0,hx268_1⟩:=at_T77 HR0.out x4_1 p268 q268
        cases e268
        replace hx268_0:=bcl HB hx268_0
        replace hx268_1:=bcl HB hx268_1
        replace p268:=eq_true p268
        replace q268:=eq_true q268
        go_wp2_with (first | ((with_reducible refine gC 61 rfl ?_);refine gL (some 20) Tryz.func61 #[.agg #[.int .i64 ((rd_T77 l0 x4_1).f0),.int .i64 ((rd_T77 l0 x4_1).f1)]] ?_;(with_reducible refine (laws_toEndPoint.calls ((rd_T77 l0 x4_1).f0) ((rd_T77 l0 x4_1).f1) t269 t270 _ A8.out).mono ?_);rintro e w11 ⟨rfl,hb⟩;refine ⟨_,rfl,?_⟩;replace HO_3:=am (Kd.R_below (rs HO_3) hb);replace HB:=hbS HB hb;(try clear hb);have p10 : 0 ≤ (x4_1 : Int):=of_decide_eq_true da_;have q10 : (x4_1 : Int) < ((x3_1.length : Int) : Int):=of_decide_eq_true da_;obtain ⟨go10,co10,eo10,gb10,gl10,cl10,HG10⟩:=Kd.R_form HO_3.out (by omega);(first | cases eo10 | (injection eo10 with ea_ en_ ec_;(first | subst ea_ | (injection ea_ with ea_;subst ea_));subst ec_;clear en_));have GB10:=am gb10;have GG10:=am HG10;clear gb10 gl10 HG10;obtain ⟨ce10,hcl10,hM10,hcc10,hfr10⟩:=Kd.R_elem HO_3.out z55 (x4_1 : Int) p10 q10;obtain rfl:=k55_openM hM10;have hx10_0 : w11.cell? ⟨go10,(x4_1 : Int).toNat * 2,none⟩ = some (.int .i64 ((rd_T55 x3_1 x4_1).f0)):=hcc10 0 _ rfl;have hx10_1 : w11.cell? ⟨go10,(x4_1 : Int).toNat * 2 + 1,none⟩ = some (.int .i64 ((rd_T55 x3_1 x4_1).f1)):=hcc10 1 _ rfl;have hf10_0 : w11.frozen? ⟨go10,(x4_1 : Int).toNat * 2,none⟩ = false:=hfr10 0;have hf10_1 : w11.frozen? ⟨go10,(x4_1 : Int).toNat * 2 + 1,none⟩ = false:=hfr10 1;clear hcl10 hcc10 hfr10 hM10;replace p10:=eq_true p10;replace q10:=eq_true q10;have HX12:=am (show Kd.R k55 55 w11 w.heap.size (fun _=>True) (.slice (some ⟨go10,0,none⟩) x3_1.length co10) x3_1 from (rs HO_3));obtain ⟨ce12,hcl12,hM12,hcc12,hfr12⟩:=Kd.R_elem HX12.out z55 (x4_1 : Int) (of_decide_eq_true da_) (by have h_ : (x4_1 : Int) < ((x3_1.length : Int) : Int):=of_decide_eq_true da_;first | exact h_ | (have e_:=(Kd.R_reads' HO_3.out).1;omega) | simpa using h_);obtain rfl:=k55_openM hM12;have HP12:=Kd.R_seg HX12.out (x4_1 : Int) (of_decide_eq_true da_) (by have h_ : (x4_1 : Int) < ((x3_1.length : Int) : Int):=of_decide_eq_true da_;first | exact h_ | (have e_:=(Kd.R_reads' HO_3.out).1;omega) | simpa using h_) (seg:=[.int .i64 t269,.int .i64 t270]) (j:=0) hcl12 hcc12 (show 2 ≤ 2 from by decide) (x':=(⟨t269,t270⟩ : S55)) (k55_mkM _ _ _ (⟨t269,t270⟩ : S55) ) (fun _ hk=>hk);have hx12_0:=hcc12 0 _ rfl;(try simp only [show (k55).sz = 2 from rfl,Nat.mul_one,Nat.add_zero] at hx12_0);have hf12_0:=hfr12 0;(try simp only [show (k55).sz = 2 from rfl,Nat.mul_one,Nat.add_zero] at hf12_0);have hx12_1:=hcc12 1 _ rfl;(try simp only [show (k55).sz = 2 from rfl,Nat.mul_one,Nat.add_zero] at hx12_1);have hf12_1:=hfr12 1;(try simp only [show (k55).sz = 2 from rfl,Nat.mul_one,Nat.add_zero] at hf12_1);clear hcl12 hcc12 hfr12 hM12) | ((with_reducible refine gate_store (t:=55) (p:=21) rfl ?_);refine store_event (t:=55) (p:=21) (v:=?vo_w13) (w1:=((w11.setCell ⟨go10,(x4_1 : Int).toNat * 2,none⟩ (.int .i64 t269)).setCell ⟨go10,(x4_1 : Int).toNat * 2 + 1,none⟩ (.int .i64 t270))) ?hg ?ho ?hn ?hr ?_;(case ho=>rfl);(case hg=>rfl);(case hn=>rfl);(case hr=>first | (go_simp;done) | (go_simp;rfl));intro w13 hw;have hg : w11.grownBy w13 (some go10):=(by rw [hw];exact HP12.2);have hp_ : Kd.R k55 55 w13 w.heap.size (fun _=>True) (.slice (some ⟨go10,0,none⟩) x3_1.length co10) y271:=(by rw [hw,Ny271.out];exact HP12.1);clear HP12;replace HO_3:=am (hp_);replace HB:=am ((by rw [hw];exact below_set (below_set (HB.out) GB10.out) GB10.out : Below w.heap.size w w13));clear hg hw hp_))
        go_roundg k1
        case measure=>have:=HK1.out;omega
        case rel=>exact ⟨(y271),(wrap64 (x4_1 + 1)),rs_,H',⟨by have:=HK1.out;omega⟩,⟨by (with_reducible repeat apply ru);exact HO_3.out⟩,⟨m0_⟩⟩
       ·rw [if_neg c9] at H
        exact absurd H (by simp)
      ·rw [if_neg c7] at H
       exact absurd H (by simp)
     ·rw [if_neg c6] at H
      have c6b0 : decide (x4_1 < (l0.length : Int)) = false:=decide_eq_false c6
      clear c6
      obtain rfl:=Option.some.inj H
      go_wp2
      go_ret
      exact ⟨_,fi_,by (with_reducible repeat apply ru);exact HO_3.out,m0_⟩
  ·rw [if_neg c3] at H
   exact absurd H (by simp)
 ·rw [if_neg c2] at H
  exact absurd H (by simp)
def laws_toMapTab.f (k : Nat) (l0_0 : List (S77)) : Option ((List (S55))):=(laws_toEndPointS.f k l0_0).bind fun t275=>(some t275)
set_option maxHeartbeats 8000000 in
set_option maxRecDepth 100000 in
theorem laws_toMapTab.calls (k : Nat) (A0_0 : Option Addr) (c0_0 : Nat) (l0_0 : List (S77)) (r : List (S55)) (w : World) (hr0_0 : Kd.C k77 w A0_0 l0_0.length l0_0) (hc0_0 : l0_0.length ≤ c0_0) (h : laws_toMapTab.f k l0_0 = some r) :
  Calls Tryz.prog 13 #[.agg #[.slice A0_0 l0_0.length c0_0]] w fun e w'=>∃ v0_ : Value,e = .returned (.agg #[v0_]) ∧ Kd.R k55 55 w' w.heap.size (fun _=>True) v0_ r ∧ Below w.heap.size w w':=by
 have hu24:=Tryz.underlying24
 have hu29:=Tryz.underlying29
 have HR0_0:=am hr0_0
 have HC0_0:=am hc0_0
 clear hr0_0 hc0_0
 have HB:=am (Below.refl w.heap.size w)
 have H : ((laws_toEndPointS.f k l0_0).bind fun t275=>(some t275)) = some r:=h
 clear h
 obtain ⟨t275,A2,H⟩:=bse H
 try dsimp only at H
 obtain rfl:=Option.some.inj H
 go_enter Tryz.func13,Tryz.ntmps13
 go_wp2_with (first | ((with_reducible refine gD 1 rfl ?_);refine box_event rfl (N:=1) rfl (cs:=#[.slice A0_0 l0_0.length c0_0]) (t:=24) hr_ ?_;intro gb272 hg w3 hbox hb;have BK272:=am hbox;have GW272:=gwE HB hg;have GE272:=gwE HB hg;replace HB:=hbS HB hb;clear hb hbox hg) | ((with_reducible refine gD 2 rfl ?_);refine box_event rfl (N:=2) rfl (cs:=#[.slice none 0 0]) (t:=29) hr_ ?_;intro gb273 hg w4 hbox hb;have BK273:=am hbox;have GW273:=gwE HB hg;have GE273:=gwE HB hg;replace HB:=hbS HB hb;have NB272_273:=neL BK272 hg;have NB273_272:=neG BK272 hg;replace BK272:=bkB BK272 hb;clear hb hbox hg) | ((with_reducible refine gD 3 rfl ?_);refine box_event rfl (N:=3) rfl (cs:=#[.slice none 0 0]) (t:=29) hr_ ?_;intro gb274 hg w5 hbox hb;have BK274:=am hbox;have GW274:=gwE HB hg;have GE274:=gwE HB hg;replace HB:=hbS HB hb;have NB272_274:=neL BK272 hg;have NB274_272:=neG BK272 hg;replace BK272:=bkB BK272 hb;have NB273_274:=neL BK273 hg;have NB274_273:=neG BK273 hg;replace BK273:=bkB BK273 hb;clear hb hbox hg;have:=NB272_273.out;have:=NB273_272.out;have:=NB272_274.out;have:=NB274_272.out;have:=bcell BK272 0;have:=bfz BK272 0) | ((with_reducible refine gC 36 rfl ?_);refine gL (some 6) Tryz.func36 #[.slice A0_0 l0_0.length c0_0] ?_;(with_reducible refine (laws_toEndPointS.calls k _ _ l0_0 t275 _ ?side1 ?side2 A2.out).mono ?_);(case side1=>exact m3_);(case side2=>exact HC0_0.out);rintro e w9 ⟨v276,rfl,ho0,hb⟩;refine ⟨_,rfl,?_⟩;have HO277:=am (Kd.R_lower ho0 (below_size (bl HB)));replace BK272:=bkB BK272 hb;replace BK273:=bkB BK273 hb;replace BK274:=bkB BK274 hb;replace HB:=hbS HB hb;(try clear hb);(try clear ho0);obtain ⟨Ao10,co10,eo10⟩:=Kd.R_slice HO277.out;subst eo10;have:=NB274_273.out;have:=NB273_274.out;have:=bcell BK274 0;have:=bfz BK274 0;have:=bcell BK273 0;have:=bfz BK273 0))
 refine bodyPost_ret (results_cell_row rfl _ _ gb273 29 #[.slice Ao10 t275.length co10] (0,0) _ rfl (by (with_reducible repeat refine bu ?_);refine blk_put (cs:=#[.slice none 0 0]) ?_ 0 _ rfl;(with_reducible repeat refine bu ?_);refine blk_far ?_ NB273_274.out _;(with_reducible repeat refine bu ?_);exact BK273.out) Tryz.underlying29 rfl (by kernel_rfl)) rfl ?_
 exact ⟨_,fi_,by (with_reducible repeat apply ru);exact Kd.R_mono (Kd.R_far (p:=⟨gb273,0,none⟩) (Kd.R_far (p:=⟨gb274,0,none⟩) (Kd.R_types (Kd.R_types HO277.out BK274.out (by decide)) BK273.out (by decide)) (fun _ hk=>hk.1.2) (.slice Ao10 t275.length co10)) (fun _ hk=>hk.2) (.slice Ao10 t275.length co10)) (fun _ hk=>trivial),m2_⟩
def laws_eqEndPoint.f (a0_0 : Int) (a0_1 : Int) (a1_0 : Int) (a1_1 : Int) : Option (Bool):=if a0_0 = a1_0 then (if a0_1 = a1_1 then (some true) else (some false)) else (some false)
set_option maxHeartbeats 8000000 in
set_option maxRecDepth 100000 in
theorem laws_eqEndPoint.calls (a0_0 : Int) (a0_1 : Int) (a1_0 : Int) (a1_1 : Int) (r : Bool) (w : World) (h : laws_eqEndPoint.f a0_0 a0_1 a1_0 a1_1 = some r) :
  Calls Tryz.prog 65 #[.agg #[.int .i64 a0_0,.int .i64 a0_1],.agg #[.int .i64 a1_0,.int .i64 a1_1]] w fun e w'=>e = .returned (.bool r) ∧ Below w.heap.size w w':=by
 have hu55:=Tryz.underlying55
 have HB:=am (Below.refl w.heap.size w)
 have H : (if a0_0 = a1_0 then (if a0_1 = a1_1 then (some true) else (some false)) else (some false)) = some r:=h
 clear h
 by_cases c3 : a0_0 = a1_0
 ·rw [if_pos c3] at H
  have c3b0 : (a0_0 == a1_0) = true:=beq_iff_eq.mpr c3
  have c3b1 : (a0_0 != a1_0) = false:=bne_eq_false_iff_eq.mpr c3
  clear c3
  by_cases c4 : a0_1 = a1_1
  ·rw [if_pos c4] at H
   have c4b0 : (a0_1 == a1_1) = true:=beq_iff_eq.mpr c4
   have c4b1 : (a0_1 != a1_1) = false:=bne_eq_false_iff_eq.mpr c4
   clear c4
   obtain rfl:=Option.some.inj H
   go_enter Tryz.func65,Tryz.ntmps65
   go_wp2_with (first | ((with_reducible refine gD 2 rfl ?_);refine box_event rfl (N:=2) rfl (cs:=#[.int .i64 a0_0,.int .i64 a0_1]) (t:=55) hr_ ?_;intro gb443 hg w5 hbox hb;have BK443:=am hbox;have GW443:=gwE HB hg;have GE443:=gwE HB hg;replace HB:=hbS HB hb;clear hb hbox hg) | ((with_reducible refine gD 3 rfl ?_);refine box_event rfl (N:=3) rfl (cs:=#[.int .i64 a1_0,.int .i64 a1_1]) (t:=55) hr_ ?_;intro gb444 hg w6 hbox hb;have BK444:=am hbox;have GW444:=gwE HB hg;have GE444:=gwE HB hg;replace HB:=hbS HB hb;have NB443_444:=neL BK443 hg;have NB444_443:=neG BK443 hg;replace BK443:=bkB BK443 hb;clear hb hbox hg;have:=NB443_444.out;have:=NB444_443.out;have:=bcell BK443 0;have:=bcell BK443 1;have:=bfz BK443 0;have:=bfz BK443 1;have:=bcell BK444 0;have:=bcell BK444 1;have:=bfz BK444 0;have:=bfz BK444 1))
   go_ret
   exact ⟨fi_,m2_⟩
  ·rw [if_neg c4] at H
   have c4b0 : (a0_1 == a1_1) = false:=beq_eq_false_iff_ne.mpr c4
   have c4b1 : (a0_1 != a1_1) = true:=bne_iff_ne.mpr c4
   obtain rfl:=Option.some.inj H
   go_enter Tryz.func65,Tryz.ntmps65
   go_wp2_with (first | ((with_reducible refine gD 2 rfl ?_);refine box_event rfl (N:=2) rfl (cs:=#[.int .i64 a0_0,.int .i64 a0_1]) (t:=55) hr_ ?_;intro gb443 hg w10 hbox hb;have BK443:=am hbox;have GW443:=gwE HB hg;have GE443:=gwE HB hg;replace HB:=hbS HB hb;clear hb hbox hg) | ((with_reducible refine gD 3 rfl ?_);refine box_event rfl (N:=3) rfl (cs:=#[.int .i64 a1_0,.int .i64 a1_1]) (t:=55) hr_ ?_;intro gb444 hg w11 hbox hb;have BK444:=am hbox;have GW444:=gwE HB hg;have GE444:=gwE HB hg;replace HB:=hbS HB hb;have NB443_444:=neL BK443 hg;have NB444_443:=neG BK443 hg;replace BK443:=bkB BK443 hb;clear hb hbox hg;have:=NB443_444.out;have:=NB444_443.out;have:=bcell BK443 0;have:=bcell BK443 1;have:=bfz BK443 0;have:=bfz BK443 1;have:=bcell BK444 0;have:=bcell BK444 1;have:=bfz BK444 0;have:=bfz BK444 1))
   go_ret
   exact ⟨fi_,m2_⟩
 ·rw [if_neg c3] at H
  have c3b0 : (a0_0 == a1_0) = false:=beq_eq_false_iff_ne.mpr c3
  have c3b1 : (a0_0 != a1_0) = true:=bne_iff_ne.mpr c3
  obtain rfl:=Option.some.inj H
  go_enter Tryz.func65,Tryz.ntmps65
  go_wp2_with (first | ((with_reducible refine gD 2 rfl ?_);refine box_event rfl (N:=2) rfl (cs:=#[.int .i64 a0_0,.int .i64 a0_1]) (t:=55) hr_ ?_;intro gb443 hg w15 hbox hb;have BK443:=am hbox;have GW443:=gwE HB hg;have GE443:=gwE HB hg;replace HB:=hbS HB hb;clear hb hbox hg) | ((with_reducible refine gD 3 rfl ?_);refine box_event rfl (N:=3) rfl (cs:=#[.int .i64 a1_0,.int .i64 a1_1]) (t:=55) hr_ ?_;intro gb444 hg w16 hbox hb;have BK444:=am hbox;have GW444:=gwE HB hg;have GE444:=gwE HB hg;replace HB:=hbS HB hb;have NB443_444:=neL BK443 hg;have NB444_443:=neG BK443 hg;replace BK443:=bkB BK443 hb;clear hb hbox hg;have:=NB443_444.out;have:=NB444_443.out;have:=bcell BK443 0;have:=bcell BK443 1;have:=bfz BK443 0;have:=bfz BK443 1;have:=bcell BK444 0;have:=bcell BK444 1;have:=bfz BK444 0;have:=bfz BK444 1))
  go_ret
  exact ⟨fi_,m2_⟩
def laws_eqEndPointS.l0 : Nat → List (S55) → List (S55) → Int → Option (Bool)
 | 0,_,_,_=>none
 | k + 1,x0,x1,x5=>if x5 < (x0.length : Int) then (if 0 ≤ x5 then (if x5 < (x1.length : Int) then ((laws_eqEndPoint.f ((rd_T55 x0 x5).f0) ((rd_T55 x0 x5).f1) ((rd_T55 x1 x5).f0) ((rd_T55 x1 x5).f1)).bind fun t447=>(if t447 = true then (laws_eqEndPointS.l0 k x0 x1 (wrap64 (x5 + 1))) else (some false))) else (none)) else (none)) else (some true)
def laws_eqEndPointS.f (k : Nat) (l0 : List (S55)) (l1 : List (S55)) : Option (Bool):=if (l0.length : Int) = (l1.length : Int) then (laws_eqEndPointS.l0 k l0 l1 0) else (some false)
def laws_eqEndPointS.T6 : Bool × List (List Nat × List Nat):=(true,[([],[]),([],[]),([0,1],[0,1]),([2],[2]),([],[]),([],[]),([4,5],[4,5]),([6],[6]),([3,7],[3,7]),([8],[8])])
def laws_eqEndPointS.B6 : List Nat:=[0,0,3,7,0,0,48,112,255,511]
theorem laws_eqEndPointS.tab6 : rtab .any (opsOf Tryz.f39 6) = laws_eqEndPointS.T6:=by kernel_rfl
theorem laws_eqEndPointS.bits6 : waitsOk laws_eqEndPointS.T6.2 laws_eqEndPointS.B6 = true:=by kernel_rfl
set_option maxHeartbeats 8000000 in
set_option maxRecDepth 100000 in
theorem laws_eqEndPointS.calls (k : Nat) (A0 : Option Addr) (c0 : Nat) (l0 : List (S55)) (A1 : Option Addr) (c1 : Nat) (l1 : List (S55)) (r : Bool) (w : World) (hr0 : Kd.C k55 w A0 l0.length l0) (hc0 : l0.length ≤ c0) (hr1 : Kd.C k55 w A1 l1.length l1) (hc1 : l1.length ≤ c1) (h : laws_eqEndPointS.f k l0 l1 = some r) :
  Calls Tryz.prog 39 #[.slice A0 l0.length c0,.slice A1 l1.length c1] w fun e w'=>e = .returned (.bool r) ∧ Below w.heap.size w w':=by
 have hu55:=Tryz.underlying55
 have HR0:=am hr0
 have HC0:=am hc0
 clear hr0 hc0
 have HR1:=am hr1
 have HC1:=am hc1
 clear hr1 hc1
 have HB:=am (Below.refl w.heap.size w)
 have H : (if (l0.length : Int) = (l1.length : Int) then (laws_eqEndPointS.l0 k l0 l1 0) else (some false)) = some r:=h
 clear h
 by_cases c3 : (l0.length : Int) = (l1.length : Int)
 ·rw [if_pos c3] at H
  have c3b0 : ((l0.length : Int) == (l1.length : Int)) = true:=beq_iff_eq.mpr c3
  have c3b1 : ((l0.length : Int) != (l1.length : Int)) = false:=bne_eq_false_iff_eq.mpr c3
  have c3b2 : (l0.length == l1.length) = true:=by first | simpa using c3 | (simp at c3 ⊢;omega)
  clear c3
  have H':=am H
  clear H
  go_enter Tryz.func39,Tryz.ntmps39
  go_wp2
  go_loopg [5] k (fun kq v5 w'=>∃ (x5_1 : Int),v5 = .int .i64 x5_1 ∧ Aside0 (laws_eqEndPointS.l0 kq l0 l1 x5_1 = some r) ∧ Aside0 (kq ≤ k) ∧ Aside0 (Below w.heap.size w w'))
  case atStart=>exact ⟨(0),rs_,H',⟨Nat.le_refl _⟩,⟨m0_⟩⟩
  case round=>
   clear H'
   try clear c1
   try clear p2
   try clear c3
   try clear c3b0
   try clear c3b1
   try clear c3b2
   obtain ⟨x5_1,rfl,HA,HK1,HB⟩:=hrel
   cases gk with
   | zero=>exact absurd HA.out (by simp [laws_eqEndPointS.l0])
   | succ k1=>
    have H:=HA.out
    clear HA
    simp only [laws_eqEndPointS.l0] at H
    by_cases c4 : x5_1 < (l0.length : Int)
    ·rw [if_pos c4] at H
     have c4b0 : decide (x5_1 < (l0.length : Int)) = true:=decide_eq_true c4
     clear c4
     by_cases c5 : 0 ≤ x5_1
     ·rw [if_pos c5] at H
      have c5b0 : decide (0 ≤ x5_1) = true:=decide_eq_true c5
      clear c5
      by_cases c6 : x5_1 < (l1.length : Int)
      ·rw [if_pos c6] at H
       have c6b0 : decide (x5_1 < (l1.length : Int)) = true:=decide_eq_true c6
       clear c6
       obtain ⟨t447,A7,H⟩:=bse H
       try dsimp only at H
       by_cases c8 : t447 = true
       ·subst c8
        have H1 : (laws_eqEndPointS.l0 k1 l0 l1 (wrap64 (x5_1 + 1))) = some r:=by rw [if_pos rfl] at H;exact H
        clear H
        have H:=H1
        clear H1
        have H':=am H
        clear H
        try go_wp2
        replace HB:=am (below_drew1 HB.out)
        have p445 : 0 ≤ (x5_1 : Int):=of_decide_eq_true da_
        have q445 : x5_1 < (l0.length : Int):=of_decide_eq_true da_
        obtain ⟨ad445,e445,hx445_0,hx445_1⟩:=at_T55 HR0.out x5_1 p445 q445
        have hw445_1:=hx445_1
        have hw445_0:=hx445_0
        cases e445
        replace hx445_0:=bcl HB hx445_0
        replace hx445_1:=bcl HB hx445_1
        replace p445:=eq_true p445
        replace q445:=eq_true q445
        have p446 : 0 ≤ (x5_1 : Int):=of_decide_eq_true da_
        have q446 : x5_1 < (l1.length : Int):=of_decide_eq_true da_
        obtain ⟨ad446,e446,hx446_0,hx446_1⟩:=at_T55 HR1.out x5_1 p446 q446
        have hw446_1:=hx446_1
        have hw446_0:=hx446_0
        cases e446
        replace hx446_0:=bcl HB hx446_0
        replace hx446_1:=bcl HB hx446_1
        replace p446:=eq_true p446
        replace q446:=eq_true q446
        refine start_ (n:=10) (S:=fun w'=>w'.cell? (ad445.add ((x5_1).toNat * 2)) = some (.int .i64 ((rd_T55 l0 x5_1).f0)) ∧ w'.cell? ⟨(ad445.add ((x5_1).toNat * 2)).block,(ad445.add ((x5_1).toNat * 2)).off + 1,none⟩ = some (.int .i64 ((rd_T55 l0 x5_1).f1)) ∧ w'.cell? (ad446.add ((x5_1).toNat * 2)) = some (.int .i64 ((rd_T55 l1 x5_1).f0)) ∧ w'.cell? ⟨(ad446.add ((x5_1).toNat * 2)).block,(ad446.add ((x5_1).toNat * 2)).off + 1,none⟩ = some (.int .i64 ((rd_T55 l1 x5_1).f1))) (ds:=[]) #[false,false,false,false,false,false,false,false,false,false] (by kernel_rfl) rfl rfl ⟨(bcl HB hw445_0),(bcl HB hw445_1),(bcl HB hw446_0),(bcl HB hw446_1)⟩ (fun hHeld=>?_);refine with_tabW laws_eqEndPointS.tab6 laws_eqEndPointS.bits6 (fun HT_ HW_=>?_)
        generalize wr.drew = w9 at HB hx445_0 hx445_1 hx446_0 hx446_1 hHeld ⊢
        refine pu_ 0 (some 17) (bm 10 1) ?_
        refine pu_ 1 (some 18) (bm 10 3) ?_
        refine pu_ 2 (some 19) (bm 10 7) ?_
        refine pu_ 4 (some 21) (bm 10 23) ?_
        refine pu_ 5 (some 22) (bm 10 55) ?_
        refine pu_ 6 (some 23) (bm 10 119) ?_
        refine tk_ 3 (some 20) (bm 10 127) rfl (.inl ⟨rfl,m18_⟩) ?_
        refine tk_ 7 (some 24) (bm 10 255) rfl (.inl ⟨rfl,m18_⟩) ?_
        refine on_ 8 (some 25) (bm 10 511) (fun K hK=>?_)
        refine gR Tryz.func65 #[.agg #[.int .i64 ((rd_T55 l0 x5_1).f0),.int .i64 ((rd_T55 l0 x5_1).f1)],.agg #[.int .i64 ((rd_T55 l1 x5_1).f0),.int .i64 ((rd_T55 l1 x5_1).f1)]] ?_
        with_reducible refine (laws_eqEndPoint.calls ((rd_T55 l0 x5_1).f0) ((rd_T55 l0 x5_1).f1) ((rd_T55 l1 x5_1).f0) ((rd_T55 l1 x5_1).f1) true _ A7.out).mono ?_
        rintro e w10 ⟨rfl,hb⟩
        refine ⟨_,rfl,?_⟩
        replace HB:=hbS HB hb
        (try clear hb)
        (try clear hb2)
        (try clear hk)
        (try clear hi)
        refine hK.out _ _ ⟨(bcl HB hw445_0),(bcl HB hw445_1),(bcl HB hw446_0),(bcl HB hw446_1)⟩ (fun hHeld=>?_)
        clear hK K
        refine nm_ ?_
        refine pu_ 9 (some 26) (bm 10 1023) ?_
        refine done_ (done_of HT_.out (by kernel_rfl)) ?_
        try go_wp2
        go_roundg k1
        case measure=>have:=HK1.out;omega
        case rel=>exact ⟨(wrap64 (x5_1 + 1)),rs_,H',⟨by have:=HK1.out;omega⟩,⟨m0_⟩⟩
       ·replace c8:=Bool.eq_false_iff.mpr c8
        subst c8
        have H1 : (some false) = some r:=by rw [if_neg (show ¬ (false = true) by decide)] at H;exact H
        clear H
        have H:=H1
        clear H1
        obtain rfl:=Option.some.inj H
        try go_wp2
        replace HB:=am (below_drew1 HB.out)
        have p445 : 0 ≤ (x5_1 : Int):=of_decide_eq_true da_
        have q445 : x5_1 < (l0.length : Int):=of_decide_eq_true da_
        obtain ⟨ad445,e445,hx445_0,hx445_1⟩:=at_T55 HR0.out x5_1 p445 q445
        have hw445_1:=hx445_1
        have hw445_0:=hx445_0
        cases e445
        replace hx445_0:=bcl HB hx445_0
        replace hx445_1:=bcl HB hx445_1
        replace p445:=eq_true p445
        replace q445:=eq_true q445
        have p446 : 0 ≤ (x5_1 : Int):=of_decide_eq_true da_
        have q446 : x5_1 < (l1.length : Int):=of_decide_eq_true da_
        obtain ⟨ad446,e446,hx446_0,hx446_1⟩:=at_T55 HR1.out x5_1 p446 q446
        have hw446_1:=hx446_1
        have hw446_0:=hx446_0
        cases e446
        replace hx446_0:=bcl HB hx446_0
        replace hx446_1:=bcl HB hx446_1
        replace p446:=eq_true p446
        replace q446:=eq_true q446
        refine start_ (n:=10) (S:=fun w'=>w'.cell? (ad445.add ((x5_1).toNat * 2)) = some (.int .i64 ((rd_T55 l0 x5_1).f0)) ∧ w'.cell? ⟨(ad445.add ((x5_1).toNat * 2)).block,(ad445.add ((x5_1).toNat * 2)).off + 1,none⟩ = some (.int .i64 ((rd_T55 l0 x5_1).f1)) ∧ w'.cell? (ad446.add ((x5_1).toNat * 2)) = some (.int .i64 ((rd_T55 l1 x5_1).f0)) ∧ w'.cell? ⟨(ad446.add ((x5_1).toNat * 2)).block,(ad446.add ((x5_1).toNat * 2)).off + 1,none⟩ = some (.int .i64 ((rd_T55 l1 x5_1).f1))) (ds:=[]) #[false,false,false,false,false,false,false,false,false,false] (by kernel_rfl) rfl rfl ⟨(bcl HB hw445_0),(bcl HB hw445_1),(bcl HB hw446_0),(bcl HB hw446_1)⟩ (fun hHeld=>?_);refine with_tabW laws_eqEndPointS.tab6 laws_eqEndPointS.bits6 (fun HT_ HW_=>?_)
        generalize wr.drew = w11 at HB hx445_0 hx445_1 hx446_0 hx446_1 hHeld ⊢
        refine pu_ 0 (some 17) (bm 10 1) ?_
        refine pu_ 1 (some 18) (bm 10 3) ?_
        refine pu_ 2 (some 19) (bm 10 7) ?_
        refine pu_ 4 (some 21) (bm 10 23) ?_
        refine pu_ 5 (some 22) (bm 10 55) ?_
        refine pu_ 6 (some 23) (bm 10 119) ?_
        refine tk_ 3 (some 20) (bm 10 127) rfl (.inl ⟨rfl,m18_⟩) ?_
        refine tk_ 7 (some 24) (bm 10 255) rfl (.inl ⟨rfl,m18_⟩) ?_
        refine on_ 8 (some 25) (bm 10 511) (fun K hK=>?_)
        refine gR Tryz.func65 #[.agg #[.int .i64 ((rd_T55 l0 x5_1).f0),.int .i64 ((rd_T55 l0 x5_1).f1)],.agg #[.int .i64 ((rd_T55 l1 x5_1).f0),.int .i64 ((rd_T55 l1 x5_1).f1)]] ?_
        with_reducible refine (laws_eqEndPoint.calls ((rd_T55 l0 x5_1).f0) ((rd_T55 l0 x5_1).f1) ((rd_T55 l1 x5_1).f0) ((rd_T55 l1 x5_1).f1) false _ A7.out).mono ?_
        rintro e w12 ⟨rfl,hb⟩
        refine ⟨_,rfl,?_⟩
        replace HB:=hbS HB hb
        (try clear hb)
        (try clear hb2)
        (try clear hk)
        (try clear hi)
        refine hK.out _ _ ⟨(bcl HB hw445_0),(bcl HB hw445_1),(bcl HB hw446_0),(bcl HB hw446_1)⟩ (fun hHeld=>?_)
        clear hK K
        refine nm_ ?_
        refine pu_ 9 (some 26) (bm 10 1023) ?_
        refine done_ (done_of HT_.out (by kernel_rfl)) ?_
        try go_wp2
        go_ret
        exact ⟨fi_,m0_⟩
      ·rw [if_neg c6] at H
       exact absurd H (by simp)
     ·rw [if_neg c5] at H
      exact absurd H (by simp)
    ·rw [if_neg c4] at H
     have c4b0 : decide (x5_1 < (l0.length : Int)) = false:=decide_eq_false c4
     clear c4
     obtain rfl:=Option.some.inj H
     go_wp2
     go_ret
     exact ⟨fi_,m0_⟩
 ·rw [if_neg c3] at H
  have c3b0 : ((l0.length : Int) == (l1.length : Int)) = false:=beq_eq_false_iff_ne.mpr c3
  have c3b1 : ((l0.length : Int) != (l1.length : Int)) = true:=bne_iff_ne.mpr c3
  have c3b2 : (l0.length == l1.length) = false:=by first | simpa using c3 | (simp at c3 ⊢;omega)
  obtain rfl:=Option.some.inj H
  go_enter Tryz.func39,Tryz.ntmps39
  go_wp2
  go_ret
  exact ⟨fi_,m0_⟩
def laws_eqMapTab.f (k : Nat) (l0_0 : List (S55)) (l1_0 : List (S55)) : Option (Bool):=(laws_eqEndPointS.f k l0_0 l1_0).bind fun t450=>(if t450 = true then (some true) else (some false))
set_option maxHeartbeats 8000000 in
set_option maxRecDepth 100000 in
theorem laws_eqMapTab.calls (k : Nat) (A0_0 : Option Addr) (c0_0 : Nat) (l0_0 : List (S55)) (A1_0 : Option Addr) (c1_0 : Nat) (l1_0 : List (S55)) (r : Bool) (w : World) (hr0_0 : Kd.C k55 w A0_0 l0_0.length l0_0) (hc0_0 : l0_0.length ≤ c0_0) (hr1_0 : Kd.C k55 w A1_0 l1_0.length l1_0) (hc1_0 : l1_0.length ≤ c1_0) (h : laws_eqMapTab.f k l0_0 l1_0 = some r) :
  Calls Tryz.prog 15 #[.agg #[.slice A0_0 l0_0.length c0_0],.agg #[.slice A1_0 l1_0.length c1_0]] w fun e w'=>e = .returned (.bool r) ∧ Below w.heap.size w w':=by
 have hu29:=Tryz.underlying29
 have HR0_0:=am hr0_0
 have HC0_0:=am hc0_0
 clear hr0_0 hc0_0
 have HR1_0:=am hr1_0
 have HC1_0:=am hc1_0
 clear hr1_0 hc1_0
 have HB:=am (Below.refl w.heap.size w)
 have H : ((laws_eqEndPointS.f k l0_0 l1_0).bind fun t450=>(if t450 = true then (some true) else (some false))) = some r:=h
 clear h
 obtain ⟨t450,A3,H⟩:=bse H
 try dsimp only at H
 by_cases c4 : t450 = true
 ·subst c4
  have H1 : (some true) = some r:=by rw [if_pos rfl] at H;exact H
  clear H
  have H:=H1
  clear H1
  obtain rfl:=Option.some.inj H
  go_enter Tryz.func15,Tryz.ntmps15
  go_wp2_with (first | ((with_reducible refine gD 2 rfl ?_);refine box_event rfl (N:=2) rfl (cs:=#[.slice A0_0 l0_0.length c0_0]) (t:=29) hr_ ?_;intro gb448 hg w5 hbox hb;have BK448:=am hbox;have GW448:=gwE HB hg;have GE448:=gwE HB hg;replace HB:=hbS HB hb;clear hb hbox hg) | ((with_reducible refine gD 3 rfl ?_);refine box_event rfl (N:=3) rfl (cs:=#[.slice A1_0 l1_0.length c1_0]) (t:=29) hr_ ?_;intro gb449 hg w6 hbox hb;have BK449:=am hbox;have GW449:=gwE HB hg;have GE449:=gwE HB hg;replace HB:=hbS HB hb;have NB448_449:=neL BK448 hg;have NB449_448:=neG BK448 hg;replace BK448:=bkB BK448 hb;clear hb hbox hg;have:=NB448_449.out;have:=NB449_448.out;have:=bcell BK448 0;have:=bfz BK448 0;have:=bcell BK449 0;have:=bfz BK449 0) | ((with_reducible refine gC 39 rfl ?_);refine gL (some 9) Tryz.func39 #[.slice A0_0 l0_0.length c0_0,.slice A1_0 l1_0.length c1_0] ?_;(with_reducible refine (laws_eqEndPointS.calls k _ _ l0_0 _ _ l1_0 true _ ?side1 ?side2 ?side3 ?side4 A3.out).mono ?_);(case side1=>exact m3_);(case side2=>exact HC0_0.out);(case side3=>exact m11_);(case side4=>exact HC1_0.out);rintro e w10 ⟨rfl,hb⟩;refine ⟨_,rfl,?_⟩;replace BK448:=bkB BK448 hb;replace BK449:=bkB BK449 hb;replace HB:=hbS HB hb;(try clear hb)))
  go_ret
  exact ⟨fi_,m2_⟩
 ·replace c4:=Bool.eq_false_iff.mpr c4
  subst c4
  have H1 : (some false) = some r:=by rw [if_neg (show ¬ (false = true) by decide)] at H;exact H
  clear H
  have H:=H1
  clear H1
  obtain rfl:=Option.some.inj H
  go_enter Tryz.func15,Tryz.ntmps15
  go_wp2_with (first | ((with_reducible refine gD 2 rfl ?_);refine box_event rfl (N:=2) rfl (cs:=#[.slice A0_0 l0_0.length c0_0]) (t:=29) hr_ ?_;intro gb448 hg w11 hbox hb;have BK448:=am hbox;have GW448:=gwE HB hg;have GE448:=gwE HB hg;replace HB:=hbS HB hb;clear hb hbox hg) | ((with_reducible refine gD 3 rfl ?_);refine box_event rfl (N:=3) rfl (cs:=#[.slice A1_0 l1_0.length c1_0]) (t:=29) hr_ ?_;intro gb449 hg w12 hbox hb;have BK449:=am hbox;have GW449:=gwE HB hg;have GE449:=gwE HB hg;replace HB:=hbS HB hb;have NB448_449:=neL BK448 hg;have NB449_448:=neG BK448 hg;replace BK448:=bkB BK448 hb;clear hb hbox hg;have:=NB448_449.out;have:=NB449_448.out;have:=bcell BK448 0;have:=bfz BK448 0;have:=bcell BK449 0;have:=bfz BK449 0) | ((with_reducible refine gC 39 rfl ?_);refine gL (some 9) Tryz.func39 #[.slice A0_0 l0_0.length c0_0,.slice A1_0 l1_0.length c1_0] ?_;(with_reducible refine (laws_eqEndPointS.calls k _ _ l0_0 _ _ l1_0 false _ ?side1 ?side2 ?side3 ?side4 A3.out).mono ?_);(case side1=>exact m3_);(case side2=>exact HC0_0.out);(case side3=>exact m11_);(case side4=>exact HC1_0.out);rintro e w16 ⟨rfl,hb⟩;refine ⟨_,rfl,?_⟩;replace BK448:=bkB BK448 hb;replace BK449:=bkB BK449 hb;replace HB:=hbS HB hb;(try clear hb)))
  go_ret
  exact ⟨fi_,m2_⟩
def laws_szEndPointS.f (l0 : List (S77)) (a1 : Int) : Option (Int):=if (wrap64 (a1 - (l0.length : Int))) < 0 then (some (-1)) else (some (wrap64 (a1 - (l0.length : Int))))
set_option maxHeartbeats 8000000 in
set_option maxRecDepth 100000 in
theorem laws_szEndPointS.calls (A0 : Option Addr) (c0 : Nat) (l0 : List (S77)) (a1 : Int) (r : Int) (w : World) (hr0 : Kd.C k77 w A0 l0.length l0) (hc0 : l0.length ≤ c0) (h : laws_szEndPointS.f l0 a1 = some r) :
  Calls Tryz.prog 34 #[.slice A0 l0.length c0,.int .i64 a1] w fun e w'=>e = .returned (.int .i64 r) ∧ Drawn0 w w':=by
 have HR0:=am hr0
 have HC0:=am hc0
 clear hr0 hc0
 have H : (if (wrap64 (a1 - (l0.length : Int))) < 0 then (some (-1)) else (some (wrap64 (a1 - (l0.length : Int))))) = some r:=h
 clear h
 by_cases c3 : (wrap64 (a1 - (l0.length : Int))) < 0
 ·rw [if_pos c3] at H
  have c3b0 : decide ((wrap64 (a1 - (l0.length : Int))) < 0) = true:=decide_eq_true c3
  clear c3
  obtain rfl:=Option.some.inj H
  go_enter Tryz.func34,Tryz.ntmps34
  go_wp2
  go_ret
  exact ⟨fr_,dn_⟩
 ·rw [if_neg c3] at H
  have c3b0 : decide ((wrap64 (a1 - (l0.length : Int))) < 0) = false:=decide_eq_false c3
  clear c3
  obtain rfl:=Option.some.inj H
  go_enter Tryz.func34,Tryz.ntmps34
  go_wp2
  go_ret
  exact ⟨fr_,dn_⟩
def laws_szMapTab.f (l0_0 : List (S77)) (a1 : Int) : Option (Int):=(laws_szEndPointS.f l0_0 a1).bind fun t102=>(if t102 < 0 then (some (-1)) else (some t102))
set_option maxHeartbeats 8000000 in
set_option maxRecDepth 100000 in
theorem laws_szMapTab.calls (A0_0 : Option Addr) (c0_0 : Nat) (l0_0 : List (S77)) (a1 : Int) (r : Int) (w : World) (hr0_0 : Kd.C k77 w A0_0 l0_0.length l0_0) (hc0_0 : l0_0.length ≤ c0_0) (h : laws_szMapTab.f l0_0 a1 = some r) :
  Calls Tryz.prog 11 #[.agg #[.slice A0_0 l0_0.length c0_0],.int .i64 a1] w fun e w'=>e = .returned (.int .i64 r) ∧ Below w.heap.size w w':=by
 have hu24:=Tryz.underlying24
 have HR0_0:=am hr0_0
 have HC0_0:=am hc0_0
 clear hr0_0 hc0_0
 have HB:=am (Below.refl w.heap.size w)
 have H : ((laws_szEndPointS.f l0_0 a1).bind fun t102=>(if t102 < 0 then (some (-1)) else (some t102))) = some r:=h
 clear h
 obtain ⟨t102,A3,H⟩:=bse H
 try dsimp only at H
 by_cases c4 : t102 < 0
 ·rw [if_pos c4] at H
  have c4b0 : decide (t102 < 0) = true:=decide_eq_true c4
  clear c4
  obtain rfl:=Option.some.inj H
  go_enter Tryz.func11,Tryz.ntmps11
  go_wp2_with (first | ((with_reducible refine gD 2 rfl ?_);refine box_event rfl (N:=2) rfl (cs:=#[.slice A0_0 l0_0.length c0_0]) (t:=24) hr_ ?_;intro gb101 hg w5 hbox hb;have BK101:=am hbox;have GW101:=gwE HB hg;have GE101:=gwE HB hg;replace HB:=hbS HB hb;clear hb hbox hg;have:=bcell BK101 0;have:=bfz BK101 0) | ((with_reducible refine gC 34 rfl ?_);refine gL (some 8) Tryz.func34 #[.slice A0_0 l0_0.length c0_0,.int .i64 a1] ?_;(with_reducible refine (laws_szEndPointS.calls _ _ l0_0 a1 t102 _ ?side1 ?side2 A3.out).mono ?_);(case side1=>exact m3_);(case side2=>exact HC0_0.out);rintro e w' ⟨rfl,⟨nd,rfl⟩⟩;refine ⟨_,rfl,?_⟩))
  go_ret
  exact ⟨fi_,m2_⟩
 ·rw [if_neg c4] at H
  have c4b0 : decide (t102 < 0) = false:=decide_eq_false c4
  clear c4
  obtain rfl:=Option.some.inj H
  go_enter Tryz.func11,Tryz.ntmps11
  go_wp2_with (first | ((with_reducible refine gD 2 rfl ?_);refine box_event rfl (N:=2) rfl (cs:=#[.slice A0_0 l0_0.length c0_0]) (t:=24) hr_ ?_;intro gb101 hg w7 hbox hb;have BK101:=am hbox;have GW101:=gwE HB hg;have GE101:=gwE HB hg;replace HB:=hbS HB hb;clear hb hbox hg;have:=bcell BK101 0;have:=bfz BK101 0) | ((with_reducible refine gC 34 rfl ?_);refine gL (some 8) Tryz.func34 #[.slice A0_0 l0_0.length c0_0,.int .i64 a1] ?_;(with_reducible refine (laws_szEndPointS.calls _ _ l0_0 a1 t102 _ ?side1 ?side2 A3.out).mono ?_);(case side1=>exact m3_);(case side2=>exact HC0_0.out);rintro e w' ⟨rfl,⟨nd,rfl⟩⟩;refine ⟨_,rfl,?_⟩))
  go_ret
  exact ⟨fi_,m2_⟩
end
def convE (x : S77) : S55 := ⟨x.f0, x.f1⟩
theorem rd34_get {l : List S77} {i : Nat} (h : i < l.length) : rd_T77 l (i : Int) = l[i] := by
  unfold rd_T77
  simp [List.getD, h]
theorem toEndPointS_a (l : List S77) (hl : l.length ≤ 1048576) : Ans (fun k => laws_toEndPointS.f k l) (fun r => r = l.map convE) := by
  unfold laws_toEndPointS.f
  have e0 : (((l.length : Int)) : Int).toNat = l.length := by omega
  refine Ans.pos (by omega) (Ans.pos (by omega) ?_)
  rw [e0]
  have L : ∀ (m i : Nat), i + m = l.length → Ans (fun k => laws_toEndPointS.l0 k l ((l.take i).map convE ++ List.replicate m z55) (i : Int)) (fun r => r = l.map convE) := by
    intro m
    induction m with
    | zero =>
      intro i hi
      refine Ans.succ ?_
      unfold laws_toEndPointS.l0
      exact Ans.neg (by omega) (Ans.pure (by rw [List.take_of_length_le (by omega)]; simp))
    | succ m ih =>
      intro i hi
      refine Ans.succ ?_
      unfold laws_toEndPointS.l0 laws_toEndPoint.f
      have hil : i < l.length := by omega
      refine Ans.pos (by omega) (Ans.pos (by omega) (Ans.bsome (Ans.pos ?_ ?_)))
      · simp only [List.length_append, List.length_map, List.length_take, List.length_replicate]
        omega
      · have e1 : ((i : Int)).toNat = i := by omega
        dsimp only
        rw [e1, wi i (by omega), rd34_get hil]
        have e2 : ((l.take i).map convE ++ List.replicate (m + 1) z55).set i ⟨l[i].f0, l[i].f1⟩ = (l.take (i + 1)).map convE ++ List.replicate m z55 := by
          have hlen : ((l.take i).map convE).length = i := by rw [List.length_map, List.length_take]; omega
          rw [List.set_append_right _ _ (by omega), hlen, Nat.sub_self, List.replicate_succ, List.set_cons_zero, List.take_succ_eq_append_getElem hil, List.map_append]
          simp [convE]
        rw [e2]
        exact ih (i + 1) (by omega)
  have := L l.length 0 (by omega)
  simpa using this
theorem toMapTab_a (l : List S77) (hl : l.length ≤ 1048576) : Ans (fun k => laws_toMapTab.f k l) (fun r => r = l.map convE) := by
  unfold laws_toMapTab.f
  refine Ans.bind (toEndPointS_a l hl) ?_
  rintro _ rfl
  exact Ans.pure rfl
theorem eqMapTab_a (l : List S55) (hl : l.length ≤ 2000000) : Ans (fun k => laws_eqMapTab.f k l l) (fun r => r = true) := by
  unfold laws_eqMapTab.f laws_eqEndPointS.f
  have L : ∀ (m i : Nat), i + m = l.length → Ans (fun k => laws_eqEndPointS.l0 k l l (i : Int)) (fun r => r = true) := by
    intro m
    induction m with
    | zero =>
      intro i hi
      refine Ans.succ ?_
      unfold laws_eqEndPointS.l0
      exact Ans.neg (by omega) (Ans.pure rfl)
    | succ m ih =>
      intro i hi
      refine Ans.succ ?_
      unfold laws_eqEndPointS.l0
      have e : laws_eqEndPoint.f ((rd_T55 l (i : Int)).f0) ((rd_T55 l (i : Int)).f1) ((rd_T55 l (i : Int)).f0) ((rd_T55 l (i : Int)).f1) = some true := by unfold laws_eqEndPoint.f; simp
      rw [e, wi i (by omega)]
      exact Ans.pos (by omega) (Ans.pos (by omega) (Ans.pos (by omega) (Ans.bsome (Ans.pos rfl (ih (i + 1) (by omega))))))
  refine Ans.bind (R := fun r => r = true) (Ans.pos rfl (L l.length 0 (by omega))) ?_
  rintro _ rfl
  exact Ans.pos rfl (Ans.pure rfl)
section
attribute [local go_sem] max2_int min2_int max_two min_two max_three min_three max_four min_four
def spec_EndOk.f (a0_0 : Int) (a0_1 : Int) : Option (Bool):=(spec_EndInside.f a0_0 a0_1).bind fun t136=>(if t136 = true then (some true) else ((spec_EndOutside.f a0_0 a0_1).bind fun t137=>(if t137 = true then (some true) else (if a0_0 = 50 then ((spec_l1In.f a0_1 1 999).bind fun t138=>(some t138)) else (some false)))))
set_option maxHeartbeats 8000000 in
set_option maxRecDepth 100000 in
theorem spec_EndOk.calls (a0_0 : Int) (a0_1 : Int) (r : Bool) (w : World) (h : spec_EndOk.f a0_0 a0_1 = some r) :
  Calls Tryz.prog 129 #[.agg #[.int .i64 a0_0,.int .i64 a0_1]] w fun e w'=>e = .returned (.bool r) ∧ Below w.heap.size w w':=by
 have hu55:=Tryz.underlying55
 have HB:=am (Below.refl w.heap.size w)
 have H : ((spec_EndInside.f a0_0 a0_1).bind fun t136=>(if t136 = true then (some true) else ((spec_EndOutside.f a0_0 a0_1).bind fun t137=>(if t137 = true then (some true) else (if a0_0 = 50 then ((spec_l1In.f a0_1 1 999).bind fun t138=>(some t138)) else (some false)))))) = some r:=h
 clear h
 obtain ⟨t136,A2,H⟩:=bse H
 try dsimp only at H
 by_cases c3 : t136 = true
 ·subst c3
  have H1 : (some true) = some r:=by rw [if_pos rfl] at H;exact H
  clear H
  have H:=H1
  clear H1
  obtain rfl:=Option.some.inj H
  go_enter Tryz.func129,Tryz.ntmps129
  go_wp2_with (first | ((with_reducible refine gD 1 rfl ?_);refine box_event rfl (N:=1) rfl (cs:=#[.int .i64 a0_0,.int .i64 a0_1]) (t:=55) hr_ ?_;intro gb135 hg w4 hbox hb;have BK135:=am hbox;have GW135:=gwE HB hg;have GE135:=gwE HB hg;replace HB:=hbS HB hb;clear hb hbox hg;have:=bcell BK135 0;have:=bcell BK135 1;have:=bfz BK135 0;have:=bfz BK135 1) | ((with_reducible refine gC 46 rfl ?_);refine gL (some 4) Tryz.func46 #[.agg #[.int .i64 a0_0,.int .i64 a0_1]] ?_;(with_reducible refine (spec_EndInside.calls a0_0 a0_1 true _ A2.out).mono ?_);rintro e w6 ⟨rfl,hb⟩;refine ⟨_,rfl,?_⟩;replace BK135:=bkB BK135 hb;replace HB:=hbS HB hb;(try clear hb)))
  go_ret
  exact ⟨fi_,m2_⟩
 ·replace c3:=Bool.eq_false_iff.mpr c3
  subst c3
  have H1 : ((spec_EndOutside.f a0_0 a0_1).bind fun t137=>(if t137 = true then (some true) else (if a0_0 = 50 then ((spec_l1In.f a0_1 1 999).bind fun t138=>(some t138)) else (some false)))) = some r:=by rw [if_neg (show ¬ (false = true) by decide)] at H;exact H
  clear H
  have H:=H1
  clear H1
  obtain ⟨t137,A7,H⟩:=bse H
  try dsimp only at H
  by_cases c8 : t137 = true
  ·subst c8
   have H1 : (some true) = some r:=by rw [if_pos rfl] at H;exact H
   clear H
   have H:=H1
   clear H1
   obtain rfl:=Option.some.inj H
   go_enter Tryz.func129,Tryz.ntmps129
   go_wp2_with (first | ((with_reducible refine gD 1 rfl ?_);refine box_event rfl (N:=1) rfl (cs:=#[.int .i64 a0_0,.int .i64 a0_1]) (t:=55) hr_ ?_;intro gb135 hg w9 hbox hb;have BK135:=am hbox;have GW135:=gwE HB hg;have GE135:=gwE HB hg;replace HB:=hbS HB hb;clear hb hbox hg;have:=bcell BK135 0;have:=bcell BK135 1;have:=bfz BK135 0;have:=bfz BK135 1) | ((with_reducible refine gC 46 rfl ?_);refine gL (some 4) Tryz.func46 #[.agg #[.int .i64 a0_0,.int .i64 a0_1]] ?_;(with_reducible refine (spec_EndInside.calls a0_0 a0_1 false _ A2.out).mono ?_);rintro e w11 ⟨rfl,hb⟩;refine ⟨_,rfl,?_⟩;replace BK135:=bkB BK135 hb;replace HB:=hbS HB hb;(try clear hb);have:=bcell BK135 0;have:=bcell BK135 1;have:=bfz BK135 0;have:=bfz BK135 1) | (go_at_call 143;(with_reducible refine (spec_EndOutside.calls a0_0 a0_1 true _ A7.out).mono ?_);rintro e w13 ⟨rfl,hb⟩;replace BK135:=bkB BK135 hb;replace HB:=hbS HB hb;(try clear hb)))
   go_ret
   exact ⟨fi_,m2_⟩
  ·replace c8:=Bool.eq_false_iff.mpr c8
   subst c8
   have H1 : (if a0_0 = 50 then ((spec_l1In.f a0_1 1 999).bind fun t138=>(some t138)) else (some false)) = some r:=by rw [if_neg (show ¬ (false = true) by decide)] at H;exact H
   clear H
   have H:=H1
   clear H1
   by_cases c14 : a0_0 = 50
   ·rw [if_pos c14] at H
    have c14b0 : (a0_0 == 50) = true:=beq_iff_eq.mpr c14
    have c14b1 : (a0_0 != 50) = false:=bne_eq_false_iff_eq.mpr c14
    clear c14
    obtain ⟨t138,A15,H⟩:=bse H
    try dsimp only at H
    obtain rfl:=Option.some.inj H
    go_enter Tryz.func129,Tryz.ntmps129
    go_wp2_with (first | ((with_reducible refine gD 1 rfl ?_);refine box_event rfl (N:=1) rfl (cs:=#[.int .i64 a0_0,.int .i64 a0_1]) (t:=55) hr_ ?_;intro gb135 hg w16 hbox hb;have BK135:=am hbox;have GW135:=gwE HB hg;have GE135:=gwE HB hg;replace HB:=hbS HB hb;clear hb hbox hg;have:=bcell BK135 0;have:=bcell BK135 1;have:=bfz BK135 0;have:=bfz BK135 1) | ((with_reducible refine gC 46 rfl ?_);refine gL (some 4) Tryz.func46 #[.agg #[.int .i64 a0_0,.int .i64 a0_1]] ?_;(with_reducible refine (spec_EndInside.calls a0_0 a0_1 false _ A2.out).mono ?_);rintro e w18 ⟨rfl,hb⟩;refine ⟨_,rfl,?_⟩;replace BK135:=bkB BK135 hb;replace HB:=hbS HB hb;(try clear hb);have:=bcell BK135 0;have:=bcell BK135 1;have:=bfz BK135 0;have:=bfz BK135 1) | (go_at_call 143;(with_reducible refine (spec_EndOutside.calls a0_0 a0_1 false _ A7.out).mono ?_);rintro e w20 ⟨rfl,hb⟩;replace BK135:=bkB BK135 hb;replace HB:=hbS HB hb;(try clear hb);have:=bcell BK135 0;have:=bcell BK135 1;have:=bfz BK135 0;have:=bfz BK135 1) | (go_at_call 71;(with_reducible refine (spec_l1In.calls a0_1 1 999 t138 _ A15.out).mono ?_);rintro e w' ⟨rfl,⟨nd,rfl⟩⟩))
    go_ret
    exact ⟨fi_,m2_⟩
   ·rw [if_neg c14] at H
    have c14b0 : (a0_0 == 50) = false:=beq_eq_false_iff_ne.mpr c14
    have c14b1 : (a0_0 != 50) = true:=bne_iff_ne.mpr c14
    obtain rfl:=Option.some.inj H
    go_enter Tryz.func129,Tryz.ntmps129
    go_wp2_with (first | ((with_reducible refine gD 1 rfl ?_);refine box_event rfl (N:=1) rfl (cs:=#[.int .i64 a0_0,.int .i64 a0_1]) (t:=55) hr_ ?_;intro gb135 hg w22 hbox hb;have BK135:=am hbox;have GW135:=gwE HB hg;have GE135:=gwE HB hg;replace HB:=hbS HB hb;clear hb hbox hg;have:=bcell BK135 0;have:=bcell BK135 1;have:=bfz BK135 0;have:=bfz BK135 1) | ((with_reducible refine gC 46 rfl ?_);refine gL (some 4) Tryz.func46 #[.agg #[.int .i64 a0_0,.int .i64 a0_1]] ?_;(with_reducible refine (spec_EndInside.calls a0_0 a0_1 false _ A2.out).mono ?_);rintro e w24 ⟨rfl,hb⟩;refine ⟨_,rfl,?_⟩;replace BK135:=bkB BK135 hb;replace HB:=hbS HB hb;(try clear hb);have:=bcell BK135 0;have:=bcell BK135 1;have:=bfz BK135 0;have:=bfz BK135 1) | (go_at_call 143;(with_reducible refine (spec_EndOutside.calls a0_0 a0_1 false _ A7.out).mono ?_);rintro e w26 ⟨rfl,hb⟩;replace BK135:=bkB BK135 hb;replace HB:=hbS HB hb;(try clear hb);have:=bcell BK135 0;have:=bcell BK135 1;have:=bfz BK135 0;have:=bfz BK135 1))
    go_ret
    exact ⟨fi_,m2_⟩
end
end Go.Proofs.YtakfmcpjnkagmaaGreatDoor.P
